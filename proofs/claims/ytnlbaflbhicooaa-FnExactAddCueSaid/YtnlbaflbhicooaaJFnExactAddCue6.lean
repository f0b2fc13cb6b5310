import Derived.Test.YtnlbaflbhicooaaJFnExactAddCue5
import Derived.Below
import Derived.Deep.Draws
import Derived.Deep.AppendLies
import Derived.Maps.AppendAt
import Derived.OwnWalk
import Derived.Laws.BytesArg
import Derived.Laws.MakeOwn
import Derived.Laws.OwnMore
import Derived.Tactics
import Derived.Lib.ConvBytes
import Derived.Laws.Slices
import Derived.WalkKit
import Derived.KernelRfl
import Derived.RowKit3
import Derived.Deep.LoopGhost
import Derived.Deep.QuietTactic
import Derived.BigQuiet
import Derived.WideLaws
import Derived.Deep.DeepCutAuto
import Derived.Deep.CutBlock
import Derived.Deep.RegionHeld3
import Derived.Lib.AppendStr
import Derived.ArgAppend
import Derived.Laws.IdiomCopy
import Derived.RowKit
import Derived.OrdersHeld
import Derived.Laws.BitsLemmas
import Derived.Laws.StructEq
import Derived.Test.YtnlbaflbhicooaaProg
import Derived.ChangeSlices
import Derived.OpenShut
import Derived.Laws.Cover1
namespace Go.Proofs.Ytnlbaflbhicooaa.F
open Go.RowKit Go.Proofs.YtnlbaflbhicooaaW.PrintWords Go.Proofs.YtnlbaflbhicooaaW.PrintLast Go.Proofs.YtnlbaflbhicooaaW.PrintMore
attribute [local go_sem] max2_int min2_int max_two min_two max_three min_three max_four min_four
set_option linter.unusedVariables false
set_option linter.unusedSimpArgs false
def impl_articleOf.l0 : Nat → ByteArray → List (S92) → Int → Int → Option (Int)
 | 0, _, _, _, _ => none
 | k + 1, x1, x7, x8, x9 => if x9 < x8 then (if 0 ≤ x9 then (if x9 < (x7.length : Int) then (if ((rd_T92 x7 x9).f0).toList = x1.toList then (some x9) else (impl_articleOf.l0 k x1 x7 x8 (wrap64 (x9 + 1)))) else (none)) else (none)) else (some (-1))
def impl_articleOf.f (k : Nat) (l0 : List (S92)) (a1 : ByteArray) : Option (Int) := impl_articleOf.l0 k a1 l0 (l0.length : Int) 0
set_option maxHeartbeats 8000000 in
set_option maxRecDepth 100000 in
theorem impl_articleOf.calls (k : Nat) (A0 : Option Addr) (c0 : Nat) (l0 : List (S92)) (a1 : ByteArray) (r : Int) (w : World) (hr0 : Kd.C k92 w A0 l0.length l0) (hc0 : l0.length ≤ c0) (h : impl_articleOf.f k l0 a1 = some r) :
  Calls Try.prog 113 #[.slice A0 l0.length c0, .string a1] w fun e w' => e = .returned (.int .i64 r) ∧ Below w.heap.size w w' := by
 have hu92 := Try.underlying92; have HR0 := am_ hr0; have HC0 := am_ hc0; clear hr0 hc0; have HB := am_ (Below.refl w.heap.size w); have H : (impl_articleOf.l0 k a1 l0 (l0.length : Int) 0) = some r := h; clear h; have H' := am_ H; clear H
 go_enter Try.func113, Try.ntmps113
 go_wp2
 go_loopg [9] k (fun kq v9 w' => ∃ (x9_1 : Int), v9 = .int .i64 x9_1 ∧ Aside0 (impl_articleOf.l0 kq a1 l0 (l0.length : Int) x9_1 = some r) ∧ Aside0 (kq ≤ k) ∧ Aside0 (Below w.heap.size w w'))
 case atStart => exact ⟨(0), Za, H', ⟨Nat.le_refl _⟩, ⟨Zd⟩⟩
 case round =>
  clear H'
  try clear c1
  try clear p2
  obtain ⟨x9_1, rfl, HA, HK1, HB⟩ := hrel
  cases gk with
  | zero => exact absurd HA.out (by simp [impl_articleOf.l0])
  | succ k1 =>
   have H := HA.out; clear HA; simp only [impl_articleOf.l0] at H
   by_cases c3 : x9_1 < (l0.length : Int)
   ·rw [if_pos c3] at H
    have c3b0 := decide_eq_true c3; clear c3
    by_cases c4 : 0 ≤ x9_1
    ·rw [if_pos c4] at H
     have c4b0 := decide_eq_true c4; clear c4
     by_cases c5 : x9_1 < (l0.length : Int)
     ·rw [if_pos c5] at H
      have c5b0 := decide_eq_true c5; clear c5
      by_cases c6 : ((rd_T92 l0 x9_1).f0).toList = a1.toList
      ·rw [if_pos c6] at H
       have c6b0 := beq_iff_eq.mpr c6; have c6b1 := bne_eq_false_iff_eq.mpr c6; clear c6; obtain rfl := Option.some.inj H; have p304 : 0 ≤ (x9_1 : Int) := of_decide_eq_true Zp; have q304 : x9_1 < (l0.length : Int) := of_decide_eq_true Zp; obtain ⟨ad304, e304, hx304_0, hx304_1, hx304_2, hx304_3, hx304_4, hx304_5, hx304_6, hx304_7, hx304_8⟩ := at_T92 HR0.out x9_1 p304 q304
       cases e304
       replace hx304_0 := cbH HB hx304_0; replace hx304_1 := cbH HB hx304_1; replace hx304_2 := cbH HB hx304_2; replace hx304_3 := cbH HB hx304_3; replace hx304_4 := cbH HB hx304_4; replace hx304_5 := cbH HB hx304_5; replace hx304_6 := cbH HB hx304_6; replace hx304_7 := cbH HB hx304_7; replace hx304_8 := cbH HB hx304_8; replace p304 := eq_true p304; replace q304 := eq_true q304
       go_wp2_with (first | ((with_reducible refine gate_dst (N := 6) rfl ?_); refine boxZ 6 #[.string (⟨#[]⟩ : ByteArray), .int .i64 0, .int .i64 0, .int .i64 0, .int .i64 0, .int .i64 0, .int .i64 0, .int .i64 0, .int .i64 0] 92 ?_; intro gb305 hg w7 hbox hb; replace BK305 := am_ (hbox); replace GW305 := am_ ((Zc : w.heap.size ≤ gb305)); replace GE305 := GW305; replace HB := (bsZ Zd hb); clear hb hbox hg; refine ci9 BK305 ?_; intros))
       go_ret
       exact ⟨Zk, (have z0_ := GE305; Zf)⟩
      ·rw [if_neg c6] at H
       have c6b0 := beq_eq_false_iff_ne.mpr c6; have c6b1 := bne_iff_ne.mpr c6; have H' := am_ H; clear H; have p304 : 0 ≤ (x9_1 : Int) := of_decide_eq_true Zp; have q304 : x9_1 < (l0.length : Int) := of_decide_eq_true Zp; obtain ⟨ad304, e304, hx304_0, hx304_1, hx304_2, hx304_3, hx304_4, hx304_5, hx304_6, hx304_7, hx304_8⟩ := at_T92 HR0.out x9_1 p304 q304
       cases e304
       replace hx304_0 := cbH HB hx304_0; replace hx304_1 := cbH HB hx304_1; replace hx304_2 := cbH HB hx304_2; replace hx304_3 := cbH HB hx304_3; replace hx304_4 := cbH HB hx304_4; replace hx304_5 := cbH HB hx304_5; replace hx304_6 := cbH HB hx304_6; replace hx304_7 := cbH HB hx304_7; replace hx304_8 := cbH HB hx304_8; replace p304 := eq_true p304; replace q304 := eq_true q304
       go_wp2_with (first | ((with_reducible refine gate_dst (N := 6) rfl ?_); refine boxZ 6 #[.string (⟨#[]⟩ : ByteArray), .int .i64 0, .int .i64 0, .int .i64 0, .int .i64 0, .int .i64 0, .int .i64 0, .int .i64 0, .int .i64 0] 92 ?_; intro gb305 hg w9 hbox hb; replace BK305 := am_ (hbox); replace GW305 := am_ ((Zc : w.heap.size ≤ gb305)); replace GE305 := GW305; replace HB := (bsZ Zd hb); clear hb hbox hg; refine ci9 BK305 ?_; intros))
       go_roundg k1
       case measure => have := HK1.out; omega
       case rel => exact ⟨(wrap64 (x9_1 + 1)), Za, H', ⟨Zt⟩, ⟨(have z0_ := GE305; Zf)⟩⟩
     ·rw [if_neg c5] at H
      exact absurd H (by simp)
    ·rw [if_neg c4] at H
     exact absurd H (by simp)
   ·rw [if_neg c3] at H
    have c3b0 := decide_eq_false c3; clear c3; obtain rfl := Option.some.inj H
    go_wp2
    go_ret
    exact ⟨Zk, Zd⟩
def impl_isIndex.f (a0 : Int) (a1 : Int) : Option (Bool) := (impl_within.f a0 0 (wrap64 (a1 - 1))).bind fun t306 => (some t306)
set_option maxHeartbeats 8000000 in
set_option maxRecDepth 100000 in
theorem impl_isIndex.calls (a0 : Int) (a1 : Int) (r : Bool) (w : World) (h : impl_isIndex.f a0 a1 = some r) :
  Calls Try.prog 73 #[.int .i64 a0, .int .i64 a1] w fun e w' => e = .returned (.bool r) ∧ Drawn0 w w' := by
 have H : ((impl_within.f a0 0 (wrap64 (a1 - 1))).bind fun t306 => (some t306)) = some r := h; clear h; replace H := Option.bind_eq_some_iff.mp H; obtain ⟨t306, A30, H⟩ := H; have A3 := am_ A30; clear A30; obtain rfl := Option.some.inj H
 go_enter Try.func73, Try.ntmps73
 go_wp2_with (first | ((with_reducible refine gate_callee (f := 89) rfl ?_); refine goesL_ (some 8) rfl rfl Try.func89 Zj rfl #[.int .i64 a0, .int .i64 0, .int .i64 (wrap64 (a1 - 1))] rfl Zo ?_; (with_reducible refine (impl_within.calls a0 0 (wrap64 (a1 - 1)) t306 _ A3.out).mono ?_); rintro e w' ⟨rfl, ⟨nd, rfl⟩⟩; refine ⟨_, rfl, ?_⟩))
 go_ret
 exact ⟨Za, Zb⟩
def impl_isBeat.f (l0 : List (S108)) (a1 : Int) (a2 : Int) : Option (Bool) := (impl_isIndex.f a1 (l0.length : Int)).bind fun t307 => (if t307 = true then (if 0 ≤ a1 then (if a1 < (l0.length : Int) then ((impl_within.f a2 0 (wrap64 (((rd_T108 l0 a1).f0) - 1))).bind fun t309 => (some t309)) else (none)) else (none)) else (some false))
set_option maxHeartbeats 8000000 in
set_option maxRecDepth 100000 in
theorem impl_isBeat.calls (A0 : Option Addr) (c0 : Nat) (l0 : List (S108)) (a1 : Int) (a2 : Int) (r : Bool) (w : World) (hr0 : Kd.C k108 w A0 l0.length l0) (hc0 : l0.length ≤ c0) (h : impl_isBeat.f l0 a1 a2 = some r) :
  Calls Try.prog 130 #[.slice A0 l0.length c0, .int .i64 a1, .int .i64 a2] w fun e w' => e = .returned (.bool r) ∧ Drawn0 w w' := by
 have HR0 := am_ hr0; have HC0 := am_ hc0; clear hr0 hc0; have H : ((impl_isIndex.f a1 (l0.length : Int)).bind fun t307 => (if t307 = true then (if 0 ≤ a1 then (if a1 < (l0.length : Int) then ((impl_within.f a2 0 (wrap64 (((rd_T108 l0 a1).f0) - 1))).bind fun t309 => (some t309)) else (none)) else (none)) else (some false))) = some r := h; clear h; replace H := Option.bind_eq_some_iff.mp H; obtain ⟨t307, A40, H⟩ := H; have A4 := am_ A40; clear A40
 by_cases c5 : t307 = true
 ·subst c5
  have H1 : (if 0 ≤ a1 then (if a1 < (l0.length : Int) then ((impl_within.f a2 0 (wrap64 (((rd_T108 l0 a1).f0) - 1))).bind fun t309 => (some t309)) else (none)) else (none)) = some r := by rw [if_pos rfl] at H; exact H
  clear H; have H := H1; clear H1
  by_cases c6 : 0 ≤ a1
  ·rw [if_pos c6] at H
   have c6b0 := decide_eq_true c6; clear c6
   by_cases c7 : a1 < (l0.length : Int)
   ·rw [if_pos c7] at H
    have c7b0 := decide_eq_true c7; clear c7; replace H := Option.bind_eq_some_iff.mp H; obtain ⟨t309, A80, H⟩ := H; have A8 := am_ A80; clear A80; obtain rfl := Option.some.inj H
    go_enter Try.func130, Try.ntmps130
    go_wp2_with (first | ((with_reducible refine gate_callee (f := 73) rfl ?_); refine goesL_ (some 10) rfl rfl Try.func73 Zj rfl #[.int .i64 a1, .int .i64 (l0.length : Int)] rfl Zo ?_; (with_reducible refine (impl_isIndex.calls a1 (l0.length : Int) true _ A4.out).mono ?_); rintro e w' ⟨rfl, ⟨nd, rfl⟩⟩; refine ⟨_, rfl, ?_⟩; have p308 : 0 ≤ (a1 : Int) := of_decide_eq_true Zp; have q308 : a1 < (l0.length : Int) := of_decide_eq_true Zp; obtain ⟨ad308, e308, hx308_0, hx308_1⟩ := at_T108 HR0.out a1 p308 q308; cases e308; replace p308 := eq_true p308; replace q308 := eq_true q308) | (go_at_call 89; (with_reducible refine (impl_within.calls a2 0 (wrap64 (((rd_T108 l0 a1).f0) - 1)) t309 _ A8.out).mono ?_); rintro e w' ⟨rfl, ⟨nd, rfl⟩⟩))
    go_ret
    exact ⟨Za, Zb⟩
   ·rw [if_neg c7] at H
    exact absurd H (by simp)
  ·rw [if_neg c6] at H
   exact absurd H (by simp)
 ·replace c5 := Bool.eq_false_iff.mpr c5
  subst c5
  have H1 : (some false) = some r := by rw [if_neg (show ¬ (false = true) by decide)] at H; exact H
  clear H; have H := H1; clear H1; obtain rfl := Option.some.inj H
  go_enter Try.func130, Try.ntmps130
  go_wp2_with (first | ((with_reducible refine gate_callee (f := 73) rfl ?_); refine goesL_ (some 10) rfl rfl Try.func73 Zj rfl #[.int .i64 a1, .int .i64 (l0.length : Int)] rfl Zo ?_; (with_reducible refine (impl_isIndex.calls a1 (l0.length : Int) false _ A4.out).mono ?_); rintro e w' ⟨rfl, ⟨nd, rfl⟩⟩; refine ⟨_, rfl, ?_⟩))
  go_ret
  exact ⟨Za, Zb⟩
def impl_beatTime.l0 : Nat → List (S108) → Int → Int → Int → List (S108) → Int → Int → Option (Int)
 | 0, _, _, _, _, _, _, _ => none
 | k + 1, x0, x1, x2, x7, x12, x13, x14 => if x14 < x13 then (if 0 ≤ x14 then (if x14 < (x12.length : Int) then (impl_beatTime.l0 k x0 x1 x2 (wrap64 (x7 + (wrap64 (((rd_T108 x12 x14).f0) * ((rd_T108 x12 x14).f1))))) x12 x13 (wrap64 (x14 + 1))) else (none)) else (none)) else (if x2 > 0 then (if 0 ≤ x1 then (if x1 < (x0.length : Int) then (some (wrap64 (x7 + (wrap64 (x2 * ((rd_T108 x0 x1).f1)))))) else (none)) else (none)) else (some x7))
def impl_beatTime.f (k : Nat) (l0 : List (S108)) (a1 : Int) (a2 : Int) : Option (Int) := if 0 ≤ a1 then (if a1 ≤ (l0.length : Int) then ((some (l0.take (a1 : Int).toNat : List (S108))).bind fun y310 => (impl_beatTime.l0 k l0 a1 a2 0 y310 (y310.length : Int) 0)) else (none)) else (none)
set_option maxHeartbeats 8000000 in
set_option maxRecDepth 100000 in
theorem impl_beatTime.calls (k : Nat) (A0 : Option Addr) (c0 : Nat) (l0 : List (S108)) (a1 : Int) (a2 : Int) (r : Int) (w : World) (hr0 : Kd.C k108 w A0 l0.length l0) (hc0 : l0.length ≤ c0) (h : impl_beatTime.f k l0 a1 a2 = some r) :
  Calls Try.prog 131 #[.slice A0 l0.length c0, .int .i64 a1, .int .i64 a2] w fun e w' => e = .returned (.int .i64 r) ∧ Below w.heap.size w w' := by
 have hu108 := Try.underlying108; have HR0 := am_ hr0; have HC0 := am_ hc0; clear hr0 hc0; have HB := am_ (Below.refl w.heap.size w); have H : (if 0 ≤ a1 then (if a1 ≤ (l0.length : Int) then ((some (l0.take (a1 : Int).toNat : List (S108))).bind fun y310 => (impl_beatTime.l0 k l0 a1 a2 0 y310 (y310.length : Int) 0)) else (none)) else (none)) = some r := h; clear h
 by_cases c4 : 0 ≤ a1
 ·rw [if_pos c4] at H
  have c4b0 := eq_true c4; have c4b1 := decide_eq_true c4; clear c4
  by_cases c5 : a1 ≤ (l0.length : Int)
  ·rw [if_pos c5] at H
   have c5b0 := eq_true c5; have c5b1 := decide_eq_true c5; clear c5; obtain ⟨y310, hy310⟩ : ∃ y_ : List (S108), y_ = (l0.take (a1 : Int).toNat) := ⟨_, rfl⟩
   (first | (rw [← hy310] at H; with_reducible replace H := bindZ H) | rw [← hy310] at H)
   have Ny310 := am_ hy310; clear hy310; have H' := am_ H; clear H; have q6 : (a1 : Int) ≤ ((l0.length : Int) : Int) := of_decide_eq_true Zp; obtain ⟨i06, hi06, _, hsz6, _⟩ := info_parts info108; have hroom6 : l0.length ≤ c0 := HC0.out; have hC6 : Kd.C k108 _ A0 l0.length l0 := HR0.out; have hcut6 := cut_to (P := Try.prog) 28 108 .i64 Try.underlying28 hi06 A0 l0.length c0 a1 (of_decide_eq_true Zp) q6 hroom6; have hr6 := Kd.C_take (m := (a1 : Int).toNat) hC6 (by omega); have hy6 : y310.length = (a1 : Int).toNat := (by rw [Ny310.out, List.length_take]; omega); rw [← Ny310.out] at hr6; rw [← hy6] at hcut6; have HR313 := am_ hr6; have HC313 := am_ (show y310.length ≤ c0 from by omega); clear hr6 hC6 hroom6 hi06 hsz6; have KY6 := am_ hy6; clear hy6; replace q6 := eq_true q6
   go_enter Try.func131, Try.ntmps131
   go_wp2
   go_loopg [7, 14] k (fun kq v7 v14 w' => ∃ (x7_1 : Int) (x14_1 : Int), v7 = .int .i64 x7_1 ∧ v14 = .int .i64 x14_1 ∧ Aside0 (impl_beatTime.l0 kq l0 a1 a2 x7_1 y310 (y310.length : Int) x14_1 = some r) ∧ Aside0 (kq ≤ k) ∧ Aside0 (Below w.heap.size w w'))
   case atStart => exact ⟨(0), (0), Za, Za, H', ⟨Nat.le_refl _⟩, ⟨Zd⟩⟩
   case round =>
    clear H'
    try clear c1
    try clear p2
    try clear c4
    try clear c4b0
    try clear c4b1
    try clear c5
    try clear c5b0
    try clear c5b1
    try clear q6
    try clear q6
    obtain ⟨x7_1, x14_1, rfl, rfl, HA, HK1, HB⟩ := hrel
    cases gk with
    | zero => exact absurd HA.out (by simp [impl_beatTime.l0])
    | succ k1 =>
     have H := HA.out; clear HA; simp only [impl_beatTime.l0] at H
     by_cases c7 : x14_1 < (y310.length : Int)
     ·rw [if_pos c7] at H
      have c7b0 := decide_eq_true c7; clear c7
      by_cases c8 : 0 ≤ x14_1
      ·rw [if_pos c8] at H
       have c8b0 := decide_eq_true c8; clear c8
       by_cases c9 : x14_1 < (y310.length : Int)
       ·rw [if_pos c9] at H
        have c9b0 := decide_eq_true c9; clear c9; have H' := am_ H; clear H; have p314 : 0 ≤ (x14_1 : Int) := of_decide_eq_true Zp; have q314 : x14_1 < (y310.length : Int) := of_decide_eq_true Zp; obtain ⟨ad314, e314, hx314_0, hx314_1⟩ := at_T108 HR313.out x14_1 p314 q314
        cases e314
        replace hx314_0 := cbH HB hx314_0; replace hx314_1 := cbH HB hx314_1; replace p314 := eq_true p314; replace q314 := eq_true q314
        go_wp2_with (first | ((with_reducible refine gate_dst (N := 9) rfl ?_); refine boxZ 9 #[.int .i64 0, .int .i64 0] 108 ?_; intro gb315 hg w10 hbox hb; replace BK315 := am_ (hbox); replace GW315 := am_ ((Zc : w.heap.size ≤ gb315)); replace GE315 := GW315; replace HB := (bsZ Zd hb); clear hb hbox hg; refine ci2 BK315 ?_; intros))
        go_roundg k1
        case measure => have := HK1.out; omega
        case rel => exact ⟨(wrap64 (x7_1 + (wrap64 (((rd_T108 y310 x14_1).f0) * ((rd_T108 y310 x14_1).f1))))), (wrap64 (x14_1 + 1)), Za, Za, H', ⟨Zt⟩, ⟨(have z0_ := GE315; Zf)⟩⟩
       ·rw [if_neg c9] at H
        exact absurd H (by simp)
      ·rw [if_neg c8] at H
       exact absurd H (by simp)
     ·rw [if_neg c7] at H
      have c7b0 := decide_eq_false c7; clear c7
      by_cases c12 : a2 > 0
      ·rw [if_pos c12] at H
       have c12b0 : decide (0 < a2) = true := decide_eq_true c12; clear c12
       by_cases c13 : 0 ≤ a1
       ·rw [if_pos c13] at H
        have c13b0 := decide_eq_true c13; clear c13
        by_cases c14 : a1 < (l0.length : Int)
        ·rw [if_pos c14] at H
         have c14b0 := decide_eq_true c14; clear c14; obtain rfl := Option.some.inj H; have p316 : 0 ≤ (a1 : Int) := of_decide_eq_true Zp; have q316 : a1 < (l0.length : Int) := of_decide_eq_true Zp; obtain ⟨ad316, e316, hx316_0, hx316_1⟩ := at_T108 HR0.out a1 p316 q316
         cases e316
         replace hx316_0 := cbH HB hx316_0; replace hx316_1 := cbH HB hx316_1; replace p316 := eq_true p316; replace q316 := eq_true q316
         go_wp2
         go_ret
         exact ⟨Zk, Zd⟩
        ·rw [if_neg c14] at H
         exact absurd H (by simp)
       ·rw [if_neg c13] at H
        exact absurd H (by simp)
      ·rw [if_neg c12] at H
       have c12b0 : decide (0 < a2) = false := decide_eq_false c12; clear c12; obtain rfl := Option.some.inj H
       go_wp2
       go_ret
       exact ⟨Zk, Zd⟩
  ·rw [if_neg c5] at H
   exact absurd H (by simp)
 ·rw [if_neg c4] at H
  exact absurd H (by simp)
def impl_firedAt.f (k : Nat) (l0_0 : List (S108)) (l0_1 : List (S92)) (l0_2 : List (S43)) (a1_0 : Int) (a1_1 : Int) (a1_2 : ByteArray) (a1_3 : Int) : Option (Int) := (impl_articleOf.f k l0_1 a1_2).bind fun t319 => (if t319 < 0 then (some (-1)) else ((impl_isBeat.f l0_0 a1_0 a1_1).bind fun t320 => (if t320 = true then ((impl_beatTime.f k l0_0 a1_0 a1_1).bind fun t321 => (if 0 ≤ t319 then (if t319 < (l0_1.length : Int) then (some (mx (-1) (wrap64 (t321 - ((rd_T92 l0_1 t319).f3))))) else (none)) else (none))) else (some (-1)))))
def impl_firedAt.T4 : Bool × List (List Nat × List Nat) := (true, [([], []), ([0], [0]), ([], []), ([2], [2]), ([], []), ([4], [4]), ([1, 3, 5], [1, 3, 5]), ([], []), ([7], [7]), ([], []), ([8, 9], [8, 9]), ([10], [10]), ([11], [11]), ([6, 12], [6, 12]), ([13], [13]), ([14, 6, 0, 1, 2, 3, 4, 5, 6, 7, 8, 9, 10, 11, 12, 13, 14], [14])])
def impl_firedAt.B4 : List Nat := [0, 1, 0, 4, 0, 16, 63, 0, 128, 0, 896, 1920, 3968, 8191, 16383, 32767]
theorem impl_firedAt.tab4 : rtab .any (opsOf Try.f98 4) = impl_firedAt.T4 := by kernel_rfl
theorem impl_firedAt.bits4 : waitsOk impl_firedAt.T4.2 impl_firedAt.B4 = true := by kernel_rfl
set_option maxHeartbeats 8000000 in
set_option maxRecDepth 100000 in
theorem impl_firedAt.calls (k : Nat) (A0_0 : Option Addr) (c0_0 : Nat) (l0_0 : List (S108)) (A0_1 : Option Addr) (c0_1 : Nat) (l0_1 : List (S92)) (A0_2 : Option Addr) (c0_2 : Nat) (l0_2 : List (S43)) (a1_0 : Int) (a1_1 : Int) (a1_2 : ByteArray) (a1_3 : Int) (r : Int) (w : World) (hr0_0 : Kd.C k108 w A0_0 l0_0.length l0_0) (hc0_0 : l0_0.length ≤ c0_0) (hr0_1 : Kd.C k92 w A0_1 l0_1.length l0_1) (hc0_1 : l0_1.length ≤ c0_1) (hr0_2 : Kd.C k43 w A0_2 l0_2.length l0_2) (hc0_2 : l0_2.length ≤ c0_2) (h : impl_firedAt.f k l0_0 l0_1 l0_2 a1_0 a1_1 a1_2 a1_3 = some r) :
  Calls Try.prog 98 #[.agg #[.slice A0_0 l0_0.length c0_0, .slice A0_1 l0_1.length c0_1, .slice A0_2 l0_2.length c0_2], .agg #[.int .i64 a1_0, .int .i64 a1_1, .string a1_2, .int .i64 a1_3]] w fun e w' => e = .returned (.int .i64 r) ∧ Below w.heap.size w w' := by
 have hu32 := Try.underlying32; have hu43 := Try.underlying43; have HR0_0 := am_ hr0_0; have HC0_0 := am_ hc0_0; clear hr0_0 hc0_0; have HR0_1 := am_ hr0_1; have HC0_1 := am_ hc0_1; clear hr0_1 hc0_1; have HR0_2 := am_ hr0_2; have HC0_2 := am_ hc0_2; clear hr0_2 hc0_2; have HB := am_ (Below.refl w.heap.size w); have H : ((impl_articleOf.f k l0_1 a1_2).bind fun t319 => (if t319 < 0 then (some (-1)) else ((impl_isBeat.f l0_0 a1_0 a1_1).bind fun t320 => (if t320 = true then ((impl_beatTime.f k l0_0 a1_0 a1_1).bind fun t321 => (if 0 ≤ t319 then (if t319 < (l0_1.length : Int) then (some (mx (-1) (wrap64 (t321 - ((rd_T92 l0_1 t319).f3))))) else (none)) else (none))) else (some (-1)))))) = some r := h; clear h; replace H := Option.bind_eq_some_iff.mp H; obtain ⟨t319, A30, H⟩ := H; have A3 := am_ A30; clear A30
 by_cases c4 : t319 < 0
 ·rw [if_pos c4] at H
  have c4b0 := decide_eq_true c4; clear c4; obtain rfl := Option.some.inj H
  go_enter Try.func98, Try.ntmps98
  go_wp2_with (first | ((with_reducible refine gate_dst (N := 2) rfl ?_); refine boxZ 2 #[.slice A0_0 l0_0.length c0_0, .slice A0_1 l0_1.length c0_1, .slice A0_2 l0_2.length c0_2] 32 ?_; intro gb317 hg w5 hbox hb; replace BK317 := am_ (hbox); replace GW317 := am_ ((Zc : w.heap.size ≤ gb317)); replace GE317 := GW317; replace HB := (bsZ Zd hb); clear hb hbox hg) | ((with_reducible refine gate_dst (N := 3) rfl ?_); refine boxZ 3 #[.int .i64 a1_0, .int .i64 a1_1, .string a1_2, .int .i64 a1_3] 43 ?_; intro gb318 hg w6 hbox hb; replace BK318 := am_ (hbox); replace GW318 := am_ (((have z0_ := GE317; Ze) : w.heap.size ≤ gb318)); replace GE318 := GW318; replace HB := (bsZ (have z0_ := GE317; Zf) hb); replace NB317_318 := am_ (((have z0_ := BK317; Zbt) : gb317 ≠ gb318)); replace NB318_317 := am_ (((have z0_ := BK317; Zbu) : gb318 ≠ gb317)); replace BK317 := (have z0_ := BK317; bkZ hb); clear hb hbox hg; have hnb7 := NB317_318.out; have hnc7 := NB318_317.out; refine ci3 BK317 ?_; intros; refine ci4 BK318 ?_; intros) | ((with_reducible refine gate_callee (f := 113) rfl ?_); refine goesL_ (some 10) rfl rfl Try.func113 Zj rfl #[.slice A0_1 l0_1.length c0_1, .string a1_2] rfl Zo ?_; (with_reducible refine (impl_articleOf.calls k _ _ l0_1 a1_2 t319 _ ?side1 ?side2 A3.out).mono ?_); (case side1 => exact (have z0_ := HR0_1; Zae)); (case side2 => exact HC0_1.out); rintro e w10 ⟨rfl, hb⟩; refine ⟨_, rfl, ?_⟩; replace BK317 := (have z0_ := BK317; bkZ hb); replace BK318 := (have z0_ := BK318; bkZ hb); replace HB := (bsZ (have z0_ := GE317; have z1_ := GE318; Zi) hb); (try clear hb); (try clear hb2); (try clear hk); (try clear hi)))
  go_ret
  exact ⟨Zk, (have z0_ := GE317; have z1_ := GE318; Zi)⟩
 ·rw [if_neg c4] at H
  have c4b0 := decide_eq_false c4; clear c4; replace H := Option.bind_eq_some_iff.mp H; obtain ⟨t320, A110, H⟩ := H; have A11 := am_ A110; clear A110
  by_cases c12 : t320 = true
  ·subst c12
   have H1 : ((impl_beatTime.f k l0_0 a1_0 a1_1).bind fun t321 => (if 0 ≤ t319 then (if t319 < (l0_1.length : Int) then (some (mx (-1) (wrap64 (t321 - ((rd_T92 l0_1 t319).f3))))) else (none)) else (none))) = some r := by rw [if_pos rfl] at H; exact H
   clear H; have H := H1; clear H1; replace H := Option.bind_eq_some_iff.mp H; obtain ⟨t321, A130, H⟩ := H; have A13 := am_ A130; clear A130
   by_cases c14 : 0 ≤ t319
   ·rw [if_pos c14] at H
    have c14b0 := decide_eq_true c14; clear c14
    by_cases c15 : t319 < (l0_1.length : Int)
    ·rw [if_pos c15] at H
     have c15b0 := decide_eq_true c15; clear c15; obtain ⟨ji16, hji16⟩ : ∃ j_ : Int, (mx (-1) (wrap64 (t321 - ((rd_T92 l0_1 t319).f3)))) = j_ := ⟨_, rfl⟩
     replace H : (some ji16) = some r := by first | (rw [hji16] at H; exact H) | (simp only [hji16] at H ⊢; exact H)
     (try rw [hji16] at A3)
     (try rw [hji16] at A11)
     (try rw [hji16] at A13)
     have hji16_ : (if (-1) < (wrap64 (t321 - ((rd_T92 l0_1 t319).f3))) then (wrap64 (t321 - ((rd_T92 l0_1 t319).f3))) else (-1)) = ji16 := hji16; obtain rfl := Option.some.inj H
     go_enter Try.func98, Try.ntmps98
     try go_wp2_with (first | ((with_reducible refine gate_dst (N := 2) rfl ?_); refine boxZ 2 #[.slice A0_0 l0_0.length c0_0, .slice A0_1 l0_1.length c0_1, .slice A0_2 l0_2.length c0_2] 32 ?_; intro gb317 hg w17 hbox hb; replace BK317 := am_ (hbox); replace GW317 := am_ ((Zc : w.heap.size ≤ gb317)); replace GE317 := GW317; replace HB := (bsZ Zd hb); clear hb hbox hg) | ((with_reducible refine gate_dst (N := 3) rfl ?_); refine boxZ 3 #[.int .i64 a1_0, .int .i64 a1_1, .string a1_2, .int .i64 a1_3] 43 ?_; intro gb318 hg w18 hbox hb; replace BK318 := am_ (hbox); replace GW318 := am_ (((have z0_ := GE317; Ze) : w.heap.size ≤ gb318)); replace GE318 := GW318; replace HB := (bsZ (have z0_ := GE317; Zf) hb); replace NB317_318 := am_ (((have z0_ := BK317; Zbt) : gb317 ≠ gb318)); replace NB318_317 := am_ (((have z0_ := BK317; Zbu) : gb318 ≠ gb317)); replace BK317 := (have z0_ := BK317; bkZ hb); clear hb hbox hg; have hnb19 := NB317_318.out; have hnc19 := NB318_317.out; refine ci3 BK317 ?_; intros; refine ci4 BK318 ?_; intros) | ((with_reducible refine gate_callee (f := 113) rfl ?_); refine goesL_ (some 10) rfl rfl Try.func113 Zj rfl #[.slice A0_1 l0_1.length c0_1, .string a1_2] rfl Zo ?_; (with_reducible refine (impl_articleOf.calls k _ _ l0_1 a1_2 t319 _ ?side1 ?side2 A3.out).mono ?_); (case side1 => exact (have z0_ := HR0_1; Zae)); (case side2 => exact HC0_1.out); rintro e w22 ⟨rfl, hb⟩; refine ⟨_, rfl, ?_⟩; replace BK317 := (have z0_ := BK317; bkZ hb); replace BK318 := (have z0_ := BK318; bkZ hb); replace HB := (bsZ (have z0_ := GE317; have z1_ := GE318; Zi) hb); (try clear hb); (try clear hb2); (try clear hk); (try clear hi); refine ci3 BK317 ?_; intros; refine ci4 BK318 ?_; intros) | (go_at_call 130; (with_reducible refine (impl_isBeat.calls _ _ l0_0 a1_0 a1_1 true _ ?side1 ?side2 A11.out).mono ?_); (case side1 => exact (have z0_ := HR0_0; Zae)); (case side2 => exact HC0_0.out); rintro e w' ⟨rfl, ⟨nd, rfl⟩⟩))
     (try (rw [drewN_self w22]; generalize hq_ : World.drewN w22 _ = w22; replace BK317 : Aside0 (w22.heap[gb317]? = some (.cells #[.slice A0_0 l0_0.length c0_0, .slice A0_1 l0_1.length c0_1, .slice A0_2 l0_2.length c0_2] 32 (0, 0))) := ⟨by rw [← hq_]; exact (have z0_ := BK317; Zg)⟩; replace BK318 : Aside0 (w22.heap[gb318]? = some (.cells #[.int .i64 a1_0, .int .i64 a1_1, .string a1_2, .int .i64 a1_3] 43 (0, 0))) := ⟨by rw [← hq_]; exact (have z0_ := BK318; Zg)⟩; replace HB : Aside0 (Below w.heap.size w w22) := ⟨by rw [← hq_]; exact (have z0_ := GE317; have z1_ := GE318; Zi)⟩; clear hq_))
     replace BK317 := am_ (blk_drew BK317.out); replace BK318 := am_ (blk_drew BK318.out); replace HB := am_ (below_drew1 HB.out); have p322 : 0 ≤ (t319 : Int) := of_decide_eq_true Zp; have q322 : t319 < (l0_1.length : Int) := of_decide_eq_true Zp; obtain ⟨ad322, e322, hx322_0, hx322_1, hx322_2, hx322_3, hx322_4, hx322_5, hx322_6, hx322_7, hx322_8⟩ := at_T92 HR0_1.out t319 p322 q322; have hw322_8 := hx322_8; have hw322_7 := hx322_7; have hw322_6 := hx322_6; have hw322_5 := hx322_5; have hw322_4 := hx322_4; have hw322_3 := hx322_3; have hw322_2 := hx322_2; have hw322_1 := hx322_1; have hw322_0 := hx322_0
     cases e322
     replace hx322_0 := cbH HB hx322_0; replace hx322_1 := cbH HB hx322_1; replace hx322_2 := cbH HB hx322_2; replace hx322_3 := cbH HB hx322_3; replace hx322_4 := cbH HB hx322_4; replace hx322_5 := cbH HB hx322_5; replace hx322_6 := cbH HB hx322_6; replace hx322_7 := cbH HB hx322_7; replace hx322_8 := cbH HB hx322_8; replace p322 := eq_true p322; replace q322 := eq_true q322; refine start_ (n := 16) (S := fun w' => w'.cell? ⟨gb317, 0, none⟩ = some (.slice A0_0 l0_0.length c0_0) ∧ w'.cell? ⟨gb317, 1, none⟩ = some (.slice (some ad322) l0_1.length c0_1) ∧ w'.cell? ⟨gb317, 2, none⟩ = some (.slice A0_2 l0_2.length c0_2) ∧ w'.cell? ⟨gb318, 0, none⟩ = some (.int .i64 a1_0) ∧ w'.cell? ⟨gb318, 1, none⟩ = some (.int .i64 a1_1) ∧ w'.cell? ⟨gb318, 2, none⟩ = some (.string a1_2) ∧ w'.cell? ⟨gb318, 3, none⟩ = some (.int .i64 a1_3) ∧ w'.cell? (ad322.add ((t319).toNat * 9)) = some (.string ((rd_T92 l0_1 t319).f0)) ∧ w'.cell? ⟨(ad322.add ((t319).toNat * 9)).block, (ad322.add ((t319).toNat * 9)).off + 1, none⟩ = some (.int .i64 ((rd_T92 l0_1 t319).f1)) ∧ w'.cell? ⟨(ad322.add ((t319).toNat * 9)).block, (ad322.add ((t319).toNat * 9)).off + 2, none⟩ = some (.int .i64 ((rd_T92 l0_1 t319).f2)) ∧ w'.cell? ⟨(ad322.add ((t319).toNat * 9)).block, (ad322.add ((t319).toNat * 9)).off + 3, none⟩ = some (.int .i64 ((rd_T92 l0_1 t319).f3)) ∧ w'.cell? ⟨(ad322.add ((t319).toNat * 9)).block, (ad322.add ((t319).toNat * 9)).off + 4, none⟩ = some (.int .i64 ((rd_T92 l0_1 t319).f4)) ∧ w'.cell? ⟨(ad322.add ((t319).toNat * 9)).block, (ad322.add ((t319).toNat * 9)).off + 5, none⟩ = some (.int .i64 ((rd_T92 l0_1 t319).f5)) ∧ w'.cell? ⟨(ad322.add ((t319).toNat * 9)).block, (ad322.add ((t319).toNat * 9)).off + 6, none⟩ = some (.int .i64 ((rd_T92 l0_1 t319).f6)) ∧ w'.cell? ⟨(ad322.add ((t319).toNat * 9)).block, (ad322.add ((t319).toNat * 9)).off + 7, none⟩ = some (.int .i64 ((rd_T92 l0_1 t319).f7)) ∧ w'.cell? ⟨(ad322.add ((t319).toNat * 9)).block, (ad322.add ((t319).toNat * 9)).off + 8, none⟩ = some (.int .i64 ((rd_T92 l0_1 t319).f8))) (ds := []) (bT 16 0) Zj rfl rfl ⟨(blk_cell BK317.out 0).trans rfl, (blk_cell BK317.out 1).trans rfl, (blk_cell BK317.out 2).trans rfl, (blk_cell BK318.out 0).trans rfl, (blk_cell BK318.out 1).trans rfl, (blk_cell BK318.out 2).trans rfl, (blk_cell BK318.out 3).trans rfl, (cbH HB hw322_0 :), (cbH HB hw322_1 :), (cbH HB hw322_2 :), (cbH HB hw322_3 :), (cbH HB hw322_4 :), (cbH HB hw322_5 :), (cbH HB hw322_6 :), (cbH HB hw322_7 :), (cbH HB hw322_8 :)⟩ (fun hHeld => ?_); refine with_tabW impl_firedAt.tab4 impl_firedAt.bits4 (fun HT_ HW_ => ?_); generalize w22.drew = w25 at BK317 BK318 HB hx322_0 hx322_1 hx322_2 hx322_3 hx322_4 hx322_5 hx322_6 hx322_7 hx322_8 hHeld ⊢; refine pureZ HT_ 0 (some 23) (bT 16 1) ?_; refine pureZ HT_ 2 (some 25) #[true, false, true, false, false, false, false, false, false, false, false, false, false, false, false, false] ?_; refine pureZ HT_ 4 (some 27) #[true, false, true, false, true, false, false, false, false, false, false, false, false, false, false, false] ?_
     refine pureZ HT_ 7 (some 30) #[true, false, true, false, true, false, false, true, false, false, false, false, false, false, false, false] ?_; refine pureZ HT_ 9 (some 32) #[true, false, true, false, true, false, false, true, false, true, false, false, false, false, false, false] ?_; refine takeZ16 HT_ HW_ 1 (some 24) #[true, true, true, false, true, false, false, true, false, true, false, false, false, false, false, false] hHeld ?_; refine takeZ16 HT_ HW_ 3 (some 26) #[true, true, true, true, true, false, false, true, false, true, false, false, false, false, false, false] hHeld ?_; refine takeZ16 HT_ HW_ 5 (some 28) #[true, true, true, true, true, true, false, true, false, true, false, false, false, false, false, false] hHeld ?_; refine takeZ16 HT_ HW_ 8 (some 31) #[true, true, true, true, true, true, false, true, true, true, false, false, false, false, false, false] hHeld ?_; refine pureZ HT_ 10 (some 33) #[true, true, true, true, true, true, false, true, true, true, true, false, false, false, false, false] ?_; refine pureZ HT_ 11 (some 34) #[true, true, true, true, true, true, false, true, true, true, true, true, false, false, false, false] ?_; refine takeZ16 HT_ HW_ 12 (some 35) #[true, true, true, true, true, true, false, true, true, true, true, true, true, false, false, false] hHeld ?_; refine one_ (i := 6) (N := some 29) (bT 16 13) rfl rfl (one_of HT_.out Zj) (by decide) (fun K hK => ?_); refine goes_ Try.func131 Zj rfl #[.slice A0_0 l0_0.length c0_0, .int .i64 a1_0, .int .i64 a1_1] (by rfl) rfl rfl Zo ?_
     with_reducible refine (impl_beatTime.calls k _ _ l0_0 a1_0 a1_1 t321 _ ?side1 ?side2 A13.out).mono ?_
     (case side1 => exact (have z0_ := HR0_0; Zae))
     (case side2 => exact HC0_0.out)
     rintro e w26 ⟨rfl, hb⟩; refine ⟨_, rfl, ?_⟩; replace BK317 := (have z0_ := BK317; bkZ hb); replace BK318 := (have z0_ := BK318; bkZ hb); replace HB := (bsZ (have z0_ := GE317; have z1_ := GE318; Zi) hb)
     (try clear hb)
     (try clear hb2)
     (try clear hk)
     (try clear hi)
     refine hK.out _ _ (by exact ⟨(blk_cell BK317.out 0).trans rfl, (blk_cell BK317.out 1).trans rfl, (blk_cell BK317.out 2).trans rfl, (blk_cell BK318.out 0).trans rfl, (blk_cell BK318.out 1).trans rfl, (blk_cell BK318.out 2).trans rfl, (blk_cell BK318.out 3).trans rfl, (cbH HB hw322_0 :), (cbH HB hw322_1 :), (cbH HB hw322_2 :), (cbH HB hw322_3 :), (cbH HB hw322_4 :), (cbH HB hw322_5 :), (cbH HB hw322_6 :), (cbH HB hw322_7 :), (cbH HB hw322_8 :)⟩) (fun hHeld => ?_); clear hK K; refine normZ 29 ?_; refine pureZ HT_ 13 (some 36) (bT 16 14) ?_; refine pureZ HT_ 14 (some 37) (bT 16 15) ?_; refine pureZ HT_ 15 (some 4) (bT 16 16) ?_; refine done_ (done_of HT_.out Zj) ?_
     try go_wp2
     go_ret
     exact ⟨by first | rfl | (simp [errW_none, errW_some] <;> rfl) | (simp only [← hji16]; first | rfl | (simp [errW_none, errW_some] <;> rfl)) | (simp [*, errW_none, errW_some] <;> rfl), (have z0_ := GE317; have z1_ := GE318; Zi)⟩
    ·rw [if_neg c15] at H
     exact absurd H (by simp)
   ·rw [if_neg c14] at H
    exact absurd H (by simp)
  ·replace c12 := Bool.eq_false_iff.mpr c12
   subst c12
   have H1 : (some (-1)) = some r := by rw [if_neg (show ¬ (false = true) by decide)] at H; exact H
   clear H; have H := H1; clear H1; obtain rfl := Option.some.inj H
   go_enter Try.func98, Try.ntmps98
   go_wp2_with (first | ((with_reducible refine gate_dst (N := 2) rfl ?_); refine boxZ 2 #[.slice A0_0 l0_0.length c0_0, .slice A0_1 l0_1.length c0_1, .slice A0_2 l0_2.length c0_2] 32 ?_; intro gb317 hg w27 hbox hb; replace BK317 := am_ (hbox); replace GW317 := am_ ((Zc : w.heap.size ≤ gb317)); replace GE317 := GW317; replace HB := (bsZ Zd hb); clear hb hbox hg) | ((with_reducible refine gate_dst (N := 3) rfl ?_); refine boxZ 3 #[.int .i64 a1_0, .int .i64 a1_1, .string a1_2, .int .i64 a1_3] 43 ?_; intro gb318 hg w28 hbox hb; replace BK318 := am_ (hbox); replace GW318 := am_ (((have z0_ := GE317; Ze) : w.heap.size ≤ gb318)); replace GE318 := GW318; replace HB := (bsZ (have z0_ := GE317; Zf) hb); replace NB317_318 := am_ (((have z0_ := BK317; Zbt) : gb317 ≠ gb318)); replace NB318_317 := am_ (((have z0_ := BK317; Zbu) : gb318 ≠ gb317)); replace BK317 := (have z0_ := BK317; bkZ hb); clear hb hbox hg; have hnb29 := NB317_318.out; have hnc29 := NB318_317.out; refine ci3 BK317 ?_; intros; refine ci4 BK318 ?_; intros) | ((with_reducible refine gate_callee (f := 113) rfl ?_); refine goesL_ (some 10) rfl rfl Try.func113 Zj rfl #[.slice A0_1 l0_1.length c0_1, .string a1_2] rfl Zo ?_; (with_reducible refine (impl_articleOf.calls k _ _ l0_1 a1_2 t319 _ ?side1 ?side2 A3.out).mono ?_); (case side1 => exact (have z0_ := HR0_1; Zae)); (case side2 => exact HC0_1.out); rintro e w32 ⟨rfl, hb⟩; refine ⟨_, rfl, ?_⟩; replace BK317 := (have z0_ := BK317; bkZ hb); replace BK318 := (have z0_ := BK318; bkZ hb); replace HB := (bsZ (have z0_ := GE317; have z1_ := GE318; Zi) hb); (try clear hb); (try clear hb2); (try clear hk); (try clear hi); refine ci3 BK317 ?_; intros; refine ci4 BK318 ?_; intros) | (go_at_call 130; (with_reducible refine (impl_isBeat.calls _ _ l0_0 a1_0 a1_1 false _ ?side1 ?side2 A11.out).mono ?_); (case side1 => exact (have z0_ := HR0_0; Zae)); (case side2 => exact HC0_0.out); rintro e w' ⟨rfl, ⟨nd, rfl⟩⟩))
   go_ret
   exact ⟨Zk, (have z0_ := GE317; have z1_ := GE318; Zi)⟩
mutual
def impl_IsShow.j0 : Nat → Bool → List (S108) → List (S92) → List (S43) → Option (Bool)
 | 0, _, _, _, _ => none
 | k + 1, x20, x324000, x324001, x324002 => if x20 = true then (some false) else (impl_IsShow.l0 k x324002 (x324002.length : Int) 0 x324000 x324001 x324002)
def impl_IsShow.l0 : Nat → List (S43) → Int → Int → List (S108) → List (S92) → List (S43) → Option (Bool)
 | 0, _, _, _, _, _, _ => none
 | k + 1, x22, x23, x24, x324000, x324001, x324002 => if x24 < x23 then (if 0 ≤ x24 then (if x24 < (x22.length : Int) then ((impl_within.f ((rd_T43 x22 x24).f3) 0 11).bind fun t328 => (if t328 = true then ((impl_firedAt.f k x324000 x324001 x324002 ((rd_T43 x22 x24).f0) ((rd_T43 x22 x24).f1) ((rd_T43 x22 x24).f2) ((rd_T43 x22 x24).f3)).bind fun t329 => (if t329 < 0 then (some false) else (impl_IsShow.l0 k x22 x23 (wrap64 (x24 + 1)) x324000 x324001 x324002))) else (some false))) else (none)) else (none)) else (some true)
end
def impl_IsShow.f (k : Nat) (l0_0 : List (S108)) (l0_1 : List (S92)) (l0_2 : List (S43)) : Option (Bool) := (impl_IsScore.f k l0_0).bind fun t324 => (if t324 = true then ((impl_AreArticles.f k l0_1).bind fun t325 => (if t325 = true then (impl_IsShow.j0 k (decide ((l0_2.length : Int) > 20)) l0_0 l0_1 l0_2) else (impl_IsShow.j0 k true l0_0 l0_1 l0_2))) else (impl_IsShow.j0 k true l0_0 l0_1 l0_2))
set_option maxHeartbeats 8000000 in
set_option maxRecDepth 100000 in
theorem impl_IsShow.calls (k : Nat) (A0_0 : Option Addr) (c0_0 : Nat) (l0_0 : List (S108)) (A0_1 : Option Addr) (c0_1 : Nat) (l0_1 : List (S92)) (A0_2 : Option Addr) (c0_2 : Nat) (l0_2 : List (S43)) (r : Bool) (w : World) (hr0_0 : Kd.C k108 w A0_0 l0_0.length l0_0) (hc0_0 : l0_0.length ≤ c0_0) (hr0_1 : Kd.C k92 w A0_1 l0_1.length l0_1) (hc0_1 : l0_1.length ≤ c0_1) (hr0_2 : Kd.C k43 w A0_2 l0_2.length l0_2) (hc0_2 : l0_2.length ≤ c0_2) (h : impl_IsShow.f k l0_0 l0_1 l0_2 = some r) :
  Calls Try.prog 37 #[.agg #[.slice A0_0 l0_0.length c0_0, .slice A0_1 l0_1.length c0_1, .slice A0_2 l0_2.length c0_2]] w fun e w' => e = .returned (.bool r) ∧ Below w.heap.size w w' := by
 have hu32 := Try.underlying32; have hu43 := Try.underlying43; have HR0_0 := am_ hr0_0; have HC0_0 := am_ hc0_0; clear hr0_0 hc0_0; have HR0_1 := am_ hr0_1; have HC0_1 := am_ hc0_1; clear hr0_1 hc0_1; have HR0_2 := am_ hr0_2; have HC0_2 := am_ hc0_2; clear hr0_2 hc0_2; have HB := am_ (Below.refl w.heap.size w); have H : ((impl_IsScore.f k l0_0).bind fun t324 => (if t324 = true then ((impl_AreArticles.f k l0_1).bind fun t325 => (if t325 = true then (impl_IsShow.j0 k (decide ((l0_2.length : Int) > 20)) l0_0 l0_1 l0_2) else (impl_IsShow.j0 k true l0_0 l0_1 l0_2))) else (impl_IsShow.j0 k true l0_0 l0_1 l0_2))) = some r := h; clear h; have HC2 := am_ H; clear H
 go_enter Try.func37, Try.ntmps37
 go_upto_region 1 with (first | ((with_reducible refine gate_dst (N := 1) rfl ?_); (try (refine gate_guard (by rfl) ?_; dsimp only)); refine boxZ 1 #[.slice A0_0 l0_0.length c0_0, .slice A0_1 l0_1.length c0_1, .slice A0_2 l0_2.length c0_2] 32 ?_; intro gb323 hg w3 hbox hb; replace BK323 := am_ (hbox); replace GW323 := am_ ((Zc : w.heap.size ≤ gb323)); replace GE323 := GW323; replace HB := (bsZ Zd hb); clear hb hbox hg))
 (try simp only [Act.put, List.setIfInBounds_toArray, List.set_cons_zero, List.set_cons_succ])
 go_cut [20] (fun v20 wc => ∃ (kq : Nat) (x20_1 : Bool), v20 = .bool x20_1 ∧ Aside0 (impl_IsShow.j0 kq x20_1 l0_0 l0_1 l0_2 = some r) ∧ Aside0 (kq ≤ k) ∧ Aside0 (wc.heap[gb323]? = some (.cells #[(.slice A0_0 l0_0.length c0_0), (.slice A0_1 l0_1.length c0_1), (.slice A0_2 l0_2.length c0_2)] 32 (0, 0))) ∧ Aside0 (Below w.heap.size w wc))
 case first =>
  have H := HC2.out; clear HC2; replace H := Option.bind_eq_some_iff.mp H; obtain ⟨t324, A40, H⟩ := H; have A4 := am_ A40; clear A40
  by_cases c5 : t324 = true
  ·subst c5
   have H1 : ((impl_AreArticles.f k l0_1).bind fun t325 => (if t325 = true then (impl_IsShow.j0 k (decide ((l0_2.length : Int) > 20)) l0_0 l0_1 l0_2) else (impl_IsShow.j0 k true l0_0 l0_1 l0_2))) = some r := by rw [if_pos rfl] at H; exact H
   clear H; have H := H1; clear H1; replace H := Option.bind_eq_some_iff.mp H; obtain ⟨t325, A60, H⟩ := H; have A6 := am_ A60; clear A60
   by_cases c7 : t325 = true
   ·subst c7
    have H1 : (impl_IsShow.j0 k (decide ((l0_2.length : Int) > 20)) l0_0 l0_1 l0_2) = some r := by rw [if_pos rfl] at H; exact H
    clear H; have H := H1; clear H1; have H' := am_ H; clear H; obtain ⟨hcz8_0, hcz8_1, hcz8_2, hfz8_0, hfz8_1, hfz8_2⟩ := cz3 BK323
    go_wp2_with (first | ((with_reducible refine gate_callee (f := 96) rfl ?_); refine goesL_ (some 7) rfl rfl Try.func96 Zj rfl #[.slice A0_0 l0_0.length c0_0] rfl Zo ?_; (with_reducible refine (impl_IsScore.calls k _ _ l0_0 true _ ?side1 ?side2 A4.out).mono ?_); (case side1 => exact (have z0_ := HR0_0; Zae)); (case side2 => exact HC0_0.out); rintro e w9 ⟨rfl, hb⟩; refine ⟨_, rfl, ?_⟩; replace BK323 := (have z0_ := BK323; bkZ hb); replace HB := (bsZ (have z0_ := GE323; Zf) hb); (try clear hb); (try clear hb2); (try clear hk); (try clear hi); obtain ⟨hcz10_0, hcz10_1, hcz10_2, hfz10_0, hfz10_1, hfz10_2⟩ := cz3 BK323) | (go_at_call 97; (with_reducible refine (impl_AreArticles.calls k _ _ l0_1 true _ ?side1 ?side2 A6.out).mono ?_); (case side1 => exact (have z0_ := HR0_1; Zae)); (case side2 => exact HC0_1.out); rintro e w11 ⟨rfl, hb⟩; replace BK323 := (have z0_ := BK323; bkZ hb); replace HB := (bsZ (have z0_ := GE323; Zf) hb); (try clear hb); (try clear hb2); (try clear hk); (try clear hi); obtain ⟨hcz12_0, hcz12_1, hcz12_2, hfz12_0, hfz12_1, hfz12_2⟩ := cz3 BK323))
    go_meet
    case rel => exact ⟨_, (decide ((l0_2.length : Int) > 20)), Za, H', ⟨Zm⟩, ⟨(have z0_ := BK323; Zg)⟩, ⟨(have z0_ := GE323; Zf)⟩⟩
   ·replace c7 := Bool.eq_false_iff.mpr c7
    subst c7
    have H1 : (impl_IsShow.j0 k true l0_0 l0_1 l0_2) = some r := by rw [if_neg (show ¬ (false = true) by decide)] at H; exact H
    clear H; have H := H1; clear H1; have H' := am_ H; clear H; obtain ⟨hcz13_0, hcz13_1, hcz13_2, hfz13_0, hfz13_1, hfz13_2⟩ := cz3 BK323
    go_wp2_with (first | ((with_reducible refine gate_callee (f := 96) rfl ?_); refine goesL_ (some 7) rfl rfl Try.func96 Zj rfl #[.slice A0_0 l0_0.length c0_0] rfl Zo ?_; (with_reducible refine (impl_IsScore.calls k _ _ l0_0 true _ ?side1 ?side2 A4.out).mono ?_); (case side1 => exact (have z0_ := HR0_0; Zae)); (case side2 => exact HC0_0.out); rintro e w14 ⟨rfl, hb⟩; refine ⟨_, rfl, ?_⟩; replace BK323 := (have z0_ := BK323; bkZ hb); replace HB := (bsZ (have z0_ := GE323; Zf) hb); (try clear hb); (try clear hb2); (try clear hk); (try clear hi); obtain ⟨hcz15_0, hcz15_1, hcz15_2, hfz15_0, hfz15_1, hfz15_2⟩ := cz3 BK323) | (go_at_call 97; (with_reducible refine (impl_AreArticles.calls k _ _ l0_1 false _ ?side1 ?side2 A6.out).mono ?_); (case side1 => exact (have z0_ := HR0_1; Zae)); (case side2 => exact HC0_1.out); rintro e w16 ⟨rfl, hb⟩; replace BK323 := (have z0_ := BK323; bkZ hb); replace HB := (bsZ (have z0_ := GE323; Zf) hb); (try clear hb); (try clear hb2); (try clear hk); (try clear hi)))
    go_meet
    case rel => exact ⟨_, (true), Za, H', ⟨Zm⟩, ⟨(have z0_ := BK323; Zg)⟩, ⟨(have z0_ := GE323; Zf)⟩⟩
  ·replace c5 := Bool.eq_false_iff.mpr c5
   subst c5
   have H1 : (impl_IsShow.j0 k true l0_0 l0_1 l0_2) = some r := by rw [if_neg (show ¬ (false = true) by decide)] at H; exact H
   clear H; have H := H1; clear H1; have H' := am_ H; clear H; obtain ⟨hcz17_0, hcz17_1, hcz17_2, hfz17_0, hfz17_1, hfz17_2⟩ := cz3 BK323
   go_wp2_with (first | ((with_reducible refine gate_callee (f := 96) rfl ?_); refine goesL_ (some 7) rfl rfl Try.func96 Zj rfl #[.slice A0_0 l0_0.length c0_0] rfl Zo ?_; (with_reducible refine (impl_IsScore.calls k _ _ l0_0 false _ ?side1 ?side2 A4.out).mono ?_); (case side1 => exact (have z0_ := HR0_0; Zae)); (case side2 => exact HC0_0.out); rintro e w18 ⟨rfl, hb⟩; refine ⟨_, rfl, ?_⟩; replace BK323 := (have z0_ := BK323; bkZ hb); replace HB := (bsZ (have z0_ := GE323; Zf) hb); (try clear hb); (try clear hb2); (try clear hk); (try clear hi)))
   go_meet
   case rel => exact ⟨_, (true), Za, H', ⟨Zm⟩, ⟨(have z0_ := BK323; Zg)⟩, ⟨(have z0_ := GE323; Zf)⟩⟩
 case rest =>
  clear HC2
  try clear p2
  try clear c3
  try clear c5
  try clear c7
  try clear c9
  try clear hcz10_0
  try clear hcz10_1
  try clear hcz10_2
  try clear hcz12_0
  try clear hcz12_1
  try clear hcz12_2
  try clear hcz13_0
  try clear hcz13_1
  try clear hcz13_2
  try clear hcz15_0
  try clear hcz15_1
  try clear hcz15_2
  try clear hcz17_0
  try clear hcz17_1
  try clear hcz17_2
  try clear hcz8_0
  try clear hcz8_1
  try clear hcz8_2
  try clear hfz10_0
  try clear hfz10_1
  try clear hfz10_2
  try clear hfz12_0
  try clear hfz12_1
  try clear hfz12_2
  try clear hfz13_0
  try clear hfz13_1
  try clear hfz13_2
  try clear hfz15_0
  try clear hfz15_1
  try clear hfz15_2
  try clear hfz17_0
  try clear hfz17_1
  try clear hfz17_2
  try clear hfz8_0
  try clear hfz8_1
  try clear hfz8_2
  obtain ⟨kq, x20_1, rfl, HA, HJ1, BK323, HB⟩ := hcut
  cases kq with
  | zero => exact absurd HA.out (by simp [impl_IsShow.j0])
  | succ kj1 =>
   have H := HA.out; clear HA; simp only [impl_IsShow.j0] at H
   by_cases c19 : x20_1 = true
   ·subst c19
    have H1 : (some false) = some r := by rw [if_pos rfl] at H; exact H
    clear H; have H := H1; clear H1; obtain rfl := Option.some.inj H
    go_wp2
    go_ret
    exact ⟨Zk, (have z0_ := GE323; Zf)⟩
   ·replace c19 := Bool.eq_false_iff.mpr c19
    subst c19
    have H1 : (impl_IsShow.l0 kj1 l0_2 (l0_2.length : Int) 0 l0_0 l0_1 l0_2) = some r := by rw [if_neg (show ¬ (false = true) by decide)] at H; exact H
    clear H; have H := H1; clear H1; have H' := am_ H; clear H; obtain ⟨hcz20_0, hcz20_1, hcz20_2, hfz20_0, hfz20_1, hfz20_2⟩ := cz3 BK323
    go_wp2
    go_loopg [24] kj1 (fun kq v24 w' => ∃ (x24_2 : Int), v24 = .int .i64 x24_2 ∧ Aside0 (impl_IsShow.l0 kq l0_2 (l0_2.length : Int) x24_2 l0_0 l0_1 l0_2 = some r) ∧ Aside0 (kq ≤ kj1) ∧ Aside0 (w'.heap[gb323]? = some (.cells #[(.slice A0_0 l0_0.length c0_0), (.slice A0_1 l0_1.length c0_1), (.slice A0_2 l0_2.length c0_2)] 32 (0, 0))) ∧ Aside0 (Below w.heap.size w w'))
    case atStart => exact ⟨(0), Za, H', ⟨Nat.le_refl _⟩, ⟨(have z0_ := BK323; Zg)⟩, ⟨(have z0_ := GE323; Zf)⟩⟩
    case round =>
     clear H'
     try clear c1
     try clear p2
     try clear c3
     try clear c5
     try clear c7
     try clear c9
     try clear c19
     try clear hcz10_0
     try clear hcz10_1
     try clear hcz10_2
     try clear hcz12_0
     try clear hcz12_1
     try clear hcz12_2
     try clear hcz13_0
     try clear hcz13_1
     try clear hcz13_2
     try clear hcz15_0
     try clear hcz15_1
     try clear hcz15_2
     try clear hcz17_0
     try clear hcz17_1
     try clear hcz17_2
     try clear hcz20_0
     try clear hcz20_1
     try clear hcz20_2
     try clear hcz8_0
     try clear hcz8_1
     try clear hcz8_2
     try clear hfz10_0
     try clear hfz10_1
     try clear hfz10_2
     try clear hfz12_0
     try clear hfz12_1
     try clear hfz12_2
     try clear hfz13_0
     try clear hfz13_1
     try clear hfz13_2
     try clear hfz15_0
     try clear hfz15_1
     try clear hfz15_2
     try clear hfz17_0
     try clear hfz17_1
     try clear hfz17_2
     try clear hfz20_0
     try clear hfz20_1
     try clear hfz20_2
     try clear hfz8_0
     try clear hfz8_1
     try clear hfz8_2
     try clear p2
     obtain ⟨x24_2, rfl, HA, HK2, BK323, HB⟩ := hrel
     cases gk with
     | zero => exact absurd HA.out (by simp [impl_IsShow.l0])
     | succ k2 =>
      have H := HA.out; clear HA; simp only [impl_IsShow.l0] at H
      by_cases c21 : x24_2 < (l0_2.length : Int)
      ·rw [if_pos c21] at H
       have c21b0 := decide_eq_true c21; clear c21
       by_cases c22 : 0 ≤ x24_2
       ·rw [if_pos c22] at H
        have c22b0 := decide_eq_true c22; clear c22
        by_cases c23 : x24_2 < (l0_2.length : Int)
        ·rw [if_pos c23] at H
         have c23b0 := decide_eq_true c23; clear c23; replace H := Option.bind_eq_some_iff.mp H; obtain ⟨t328, A240, H⟩ := H; have A24 := am_ A240; clear A240
         by_cases c25 : t328 = true
         ·subst c25
          have H1 : ((impl_firedAt.f k2 l0_0 l0_1 l0_2 ((rd_T43 l0_2 x24_2).f0) ((rd_T43 l0_2 x24_2).f1) ((rd_T43 l0_2 x24_2).f2) ((rd_T43 l0_2 x24_2).f3)).bind fun t329 => (if t329 < 0 then (some false) else (impl_IsShow.l0 k2 l0_2 (l0_2.length : Int) (wrap64 (x24_2 + 1)) l0_0 l0_1 l0_2))) = some r := by rw [if_pos rfl] at H; exact H
          clear H; have H := H1; clear H1; replace H := Option.bind_eq_some_iff.mp H; obtain ⟨t329, A260, H⟩ := H; have A26 := am_ A260; clear A260
          by_cases c27 : t329 < 0
          ·rw [if_pos c27] at H
           have c27b0 := decide_eq_true c27; clear c27; obtain rfl := Option.some.inj H; have p326 : 0 ≤ (x24_2 : Int) := of_decide_eq_true Zp; have q326 : x24_2 < (l0_2.length : Int) := of_decide_eq_true Zp; obtain ⟨ad326, e326, hx326_0, hx326_1, hx326_2, hx326_3⟩ := at_T43 HR0_2.out x24_2 p326 q326
           cases e326
           replace hx326_0 := cbH HB hx326_0; replace hx326_1 := cbH HB hx326_1; replace hx326_2 := cbH HB hx326_2; replace hx326_3 := cbH HB hx326_3; replace p326 := eq_true p326; replace q326 := eq_true q326
           go_wp2_with (first | ((with_reducible refine gate_dst (N := 4) rfl ?_); (try (refine gate_guard (by rfl) ?_; dsimp only)); refine boxZ 4 #[.int .i64 0, .int .i64 0, .string (⟨#[]⟩ : ByteArray), .int .i64 0] 43 ?_; intro gb327 hg w28 hbox hb; replace BK327 := am_ (hbox); replace GW327 := am_ (((have z0_ := GE323; Ze) : w.heap.size ≤ gb327)); replace GE327 := GW327; replace HB := (bsZ (have z0_ := GE323; Zf) hb); replace NB323_327 := am_ (((have z0_ := BK323; Zbv) : gb323 ≠ gb327)); replace NB327_323 := am_ (((have z0_ := BK323; Zbw) : gb327 ≠ gb323)); replace BK323 := (have z0_ := BK323; bkZ hb); clear hb hbox hg; have hnb29 := NB327_323.out; have hnc29 := NB323_327.out; refine ci4 BK327 ?_; intros) | ((with_reducible refine gate_callee (f := 89) rfl ?_); refine goesL_ (some 30) rfl rfl Try.func89 Zj rfl #[.int .i64 ((rd_T43 l0_2 x24_2).f3), .int .i64 0, .int .i64 11] rfl Zo ?_; (with_reducible refine (impl_within.calls ((rd_T43 l0_2 x24_2).f3) 0 11 true _ A24.out).mono ?_); rintro e w' ⟨rfl, ⟨nd, rfl⟩⟩; refine ⟨_, rfl, ?_⟩; refine ci3 BK323 ?_; intros) | (go_at_call 98; (with_reducible refine (impl_firedAt.calls k2 _ _ l0_0 _ _ l0_1 _ _ l0_2 ((rd_T43 l0_2 x24_2).f0) ((rd_T43 l0_2 x24_2).f1) ((rd_T43 l0_2 x24_2).f2) ((rd_T43 l0_2 x24_2).f3) t329 _ ?side1 ?side2 ?side3 ?side4 ?side5 ?side6 A26.out).mono ?_); (case side1 => exact Kd.C_below HR0_0.out (have z0_ := GE323; have z1_ := GE327; Zi)); (case side2 => exact HC0_0.out); (case side3 => exact Kd.C_below HR0_1.out (have z0_ := GE323; have z1_ := GE327; Zi)); (case side4 => exact HC0_1.out); (case side5 => exact Kd.C_below HR0_2.out (have z0_ := GE323; have z1_ := GE327; Zi)); (case side6 => exact HC0_2.out); rintro e w32 ⟨rfl, hb⟩; replace BK323 := am_ (blk_below (g := gb323) (o := .cells #[.slice A0_0 l0_0.length c0_0, .slice A0_1 l0_1.length c0_1, .slice (some ad326) l0_2.length c0_2] 32 (0, 0)) (have z0_ := NB323_327; have z1_ := BK323; Zau) hb); replace BK327 := am_ (blk_below (g := gb327) (o := .cells #[.int .i64 ((rd_T43 l0_2 x24_2).f0), .int .i64 ((rd_T43 l0_2 x24_2).f1), .string ((rd_T43 l0_2 x24_2).f2), .int .i64 ((rd_T43 l0_2 x24_2).f3)] 43 (0, 0)) (have z0_ := BK327; Zbx) hb); replace HB := (bsZ (have z0_ := GE323; have z1_ := GE327; Zi) hb); (try clear hb); (try clear hb2); (try clear hk); (try clear hi)))
           go_ret
           exact ⟨Zk, (have z0_ := GE323; have z1_ := GE327; Zi)⟩
          ·rw [if_neg c27] at H
           have c27b0 := decide_eq_false c27; clear c27; have H' := am_ H; clear H; have p326 : 0 ≤ (x24_2 : Int) := of_decide_eq_true Zp; have q326 : x24_2 < (l0_2.length : Int) := of_decide_eq_true Zp; obtain ⟨ad326, e326, hx326_0, hx326_1, hx326_2, hx326_3⟩ := at_T43 HR0_2.out x24_2 p326 q326
           cases e326
           replace hx326_0 := cbH HB hx326_0; replace hx326_1 := cbH HB hx326_1; replace hx326_2 := cbH HB hx326_2; replace hx326_3 := cbH HB hx326_3; replace p326 := eq_true p326; replace q326 := eq_true q326
           go_wp2_with (first | ((with_reducible refine gate_dst (N := 4) rfl ?_); (try (refine gate_guard (by rfl) ?_; dsimp only)); refine boxZ 4 #[.int .i64 0, .int .i64 0, .string (⟨#[]⟩ : ByteArray), .int .i64 0] 43 ?_; intro gb327 hg w33 hbox hb; replace BK327 := am_ (hbox); replace GW327 := am_ (((have z0_ := GE323; Ze) : w.heap.size ≤ gb327)); replace GE327 := GW327; replace HB := (bsZ (have z0_ := GE323; Zf) hb); replace NB323_327 := am_ (((have z0_ := BK323; Zbv) : gb323 ≠ gb327)); replace NB327_323 := am_ (((have z0_ := BK323; Zbw) : gb327 ≠ gb323)); replace BK323 := (have z0_ := BK323; bkZ hb); clear hb hbox hg; have hnb34 := NB327_323.out; have hnc34 := NB323_327.out; refine ci4 BK327 ?_; intros) | ((with_reducible refine gate_callee (f := 89) rfl ?_); refine goesL_ (some 30) rfl rfl Try.func89 Zj rfl #[.int .i64 ((rd_T43 l0_2 x24_2).f3), .int .i64 0, .int .i64 11] rfl Zo ?_; (with_reducible refine (impl_within.calls ((rd_T43 l0_2 x24_2).f3) 0 11 true _ A24.out).mono ?_); rintro e w' ⟨rfl, ⟨nd, rfl⟩⟩; refine ⟨_, rfl, ?_⟩; refine ci3 BK323 ?_; intros) | (go_at_call 98; (with_reducible refine (impl_firedAt.calls k2 _ _ l0_0 _ _ l0_1 _ _ l0_2 ((rd_T43 l0_2 x24_2).f0) ((rd_T43 l0_2 x24_2).f1) ((rd_T43 l0_2 x24_2).f2) ((rd_T43 l0_2 x24_2).f3) t329 _ ?side1 ?side2 ?side3 ?side4 ?side5 ?side6 A26.out).mono ?_); (case side1 => exact Kd.C_below HR0_0.out (have z0_ := GE323; have z1_ := GE327; Zi)); (case side2 => exact HC0_0.out); (case side3 => exact Kd.C_below HR0_1.out (have z0_ := GE323; have z1_ := GE327; Zi)); (case side4 => exact HC0_1.out); (case side5 => exact Kd.C_below HR0_2.out (have z0_ := GE323; have z1_ := GE327; Zi)); (case side6 => exact HC0_2.out); rintro e w37 ⟨rfl, hb⟩; replace BK323 := am_ (blk_below (g := gb323) (o := .cells #[.slice A0_0 l0_0.length c0_0, .slice A0_1 l0_1.length c0_1, .slice (some ad326) l0_2.length c0_2] 32 (0, 0)) (have z0_ := NB323_327; have z1_ := BK323; Zau) hb); replace BK327 := am_ (blk_below (g := gb327) (o := .cells #[.int .i64 ((rd_T43 l0_2 x24_2).f0), .int .i64 ((rd_T43 l0_2 x24_2).f1), .string ((rd_T43 l0_2 x24_2).f2), .int .i64 ((rd_T43 l0_2 x24_2).f3)] 43 (0, 0)) (have z0_ := BK327; Zbx) hb); replace HB := (bsZ (have z0_ := GE323; have z1_ := GE327; Zi) hb); (try clear hb); (try clear hb2); (try clear hk); (try clear hi)))
           go_roundg k2
           case measure => have := HJ1.out; have := HK2.out; omega
           case rel => exact ⟨(wrap64 (x24_2 + 1)), Za, H', ⟨by have := HJ1.out; have := HK2.out; omega⟩, ⟨(have z0_ := BK323; Zg)⟩, ⟨(have z0_ := GE323; have z1_ := GE327; Zi)⟩⟩
         ·replace c25 := Bool.eq_false_iff.mpr c25
          subst c25
          have H1 : (some false) = some r := by rw [if_neg (show ¬ (false = true) by decide)] at H; exact H
          clear H; have H := H1; clear H1; obtain rfl := Option.some.inj H; have p326 : 0 ≤ (x24_2 : Int) := of_decide_eq_true Zp; have q326 : x24_2 < (l0_2.length : Int) := of_decide_eq_true Zp; obtain ⟨ad326, e326, hx326_0, hx326_1, hx326_2, hx326_3⟩ := at_T43 HR0_2.out x24_2 p326 q326
          cases e326
          replace hx326_0 := cbH HB hx326_0; replace hx326_1 := cbH HB hx326_1; replace hx326_2 := cbH HB hx326_2; replace hx326_3 := cbH HB hx326_3; replace p326 := eq_true p326; replace q326 := eq_true q326
          go_wp2_with (first | ((with_reducible refine gate_dst (N := 4) rfl ?_); (try (refine gate_guard (by rfl) ?_; dsimp only)); refine boxZ 4 #[.int .i64 0, .int .i64 0, .string (⟨#[]⟩ : ByteArray), .int .i64 0] 43 ?_; intro gb327 hg w38 hbox hb; replace BK327 := am_ (hbox); replace GW327 := am_ (((have z0_ := GE323; Ze) : w.heap.size ≤ gb327)); replace GE327 := GW327; replace HB := (bsZ (have z0_ := GE323; Zf) hb); replace NB323_327 := am_ (((have z0_ := BK323; Zbv) : gb323 ≠ gb327)); replace NB327_323 := am_ (((have z0_ := BK323; Zbw) : gb327 ≠ gb323)); replace BK323 := (have z0_ := BK323; bkZ hb); clear hb hbox hg; have hnb39 := NB327_323.out; have hnc39 := NB323_327.out; refine ci4 BK327 ?_; intros) | ((with_reducible refine gate_callee (f := 89) rfl ?_); refine goesL_ (some 30) rfl rfl Try.func89 Zj rfl #[.int .i64 ((rd_T43 l0_2 x24_2).f3), .int .i64 0, .int .i64 11] rfl Zo ?_; (with_reducible refine (impl_within.calls ((rd_T43 l0_2 x24_2).f3) 0 11 false _ A24.out).mono ?_); rintro e w' ⟨rfl, ⟨nd, rfl⟩⟩; refine ⟨_, rfl, ?_⟩))
          go_ret
          exact ⟨Zk, (have z0_ := GE323; have z1_ := GE327; Zi)⟩
        ·rw [if_neg c23] at H
         exact absurd H (by simp)
       ·rw [if_neg c22] at H
        exact absurd H (by simp)
      ·rw [if_neg c21] at H
       have c21b0 := decide_eq_false c21; clear c21; obtain rfl := Option.some.inj H
       go_wp2
       go_ret
       exact ⟨Zk, (have z0_ := GE323; Zf)⟩
def impl_copyShow.f (l0_0 : List (S108)) (l0_1 : List (S92)) (l0_2 : List (S43)) : Option ((List (S108)) × (List (S92)) × (List (S43))) := (some (([] : List (S108)) : List (S108))).bind fun y332 => (if y332.length + l0_0.length < 8796093022208 then ((some (([] : List (S92)) : List (S92))).bind fun y338 => (if y338.length + l0_1.length < 1759218604441 then ((some (([] : List (S43)) : List (S43))).bind fun y344 => (if y344.length + l0_2.length < 3518437208883 then (some ((y332 ++ l0_0), (y338 ++ l0_1), (y344 ++ l0_2))) else (none))) else (none))) else (none))
def impl_copyShow.T1 : Bool × List (List Nat × List Nat) := (true, [([], []), ([], []), ([1], [1]), ([0, 2], [0, 2]), ([], []), ([], []), ([5], [5]), ([4, 6, 3], [4, 6]), ([], []), ([], []), ([9], [9]), ([8, 10, 7], [8, 10]), ([3, 7, 11], [3, 7, 11]), ([12, 11, 0, 1, 2, 3, 4, 5, 6, 7, 8, 9, 10, 11, 12], [12])])
def impl_copyShow.B1 : List Nat := [0, 0, 2, 7, 0, 0, 32, 127, 0, 0, 512, 2047, 4095, 8191]
theorem impl_copyShow.tab1 : rtab .any (opsOf Try.f74 1) = impl_copyShow.T1 := by kernel_rfl
theorem impl_copyShow.bits1 : waitsOk impl_copyShow.T1.2 impl_copyShow.B1 = true := by kernel_rfl
set_option maxHeartbeats 8000000 in
set_option maxRecDepth 100000 in
theorem impl_copyShow.calls (A0_0 : Option Addr) (c0_0 : Nat) (l0_0 : List (S108)) (A0_1 : Option Addr) (c0_1 : Nat) (l0_1 : List (S92)) (A0_2 : Option Addr) (c0_2 : Nat) (l0_2 : List (S43)) (r1 : List (S108)) (r2 : List (S92)) (r3 : List (S43)) (w : World) (hr0_0 : Kd.C k108 w A0_0 l0_0.length l0_0) (hc0_0 : l0_0.length ≤ c0_0) (hr0_1 : Kd.C k92 w A0_1 l0_1.length l0_1) (hc0_1 : l0_1.length ≤ c0_1) (hr0_2 : Kd.C k43 w A0_2 l0_2.length l0_2) (hc0_2 : l0_2.length ≤ c0_2) (h : impl_copyShow.f l0_0 l0_1 l0_2 = some (r1, r2, r3)) :
  Calls Try.prog 74 #[.agg #[.slice A0_0 l0_0.length c0_0, .slice A0_1 l0_1.length c0_1, .slice A0_2 l0_2.length c0_2]] w fun e w' => ∃ v0_ v1_ v2_ : Value, e = .returned (.agg #[v0_, v1_, v2_]) ∧ Kd.R k108 108 w' w.heap.size (fun _ => True) v0_ r1 ∧ Kd.R k92 92 w' w.heap.size (fun _ => True) v1_ r2 ∧ Kd.R k43 43 w' w.heap.size (fun _ => True) v2_ r3 ∧ Below w.heap.size w w' := by
 have hu32 := Try.underlying32; have HR0_0 := am_ hr0_0; have HC0_0 := am_ hc0_0; clear hr0_0 hc0_0; have HR0_1 := am_ hr0_1; have HC0_1 := am_ hc0_1; clear hr0_1 hc0_1; have HR0_2 := am_ hr0_2; have HC0_2 := am_ hc0_2; clear hr0_2 hc0_2; have HB := am_ (Below.refl w.heap.size w); have H : ((some (([] : List (S108)) : List (S108))).bind fun y332 => (if y332.length + l0_0.length < 8796093022208 then ((some (([] : List (S92)) : List (S92))).bind fun y338 => (if y338.length + l0_1.length < 1759218604441 then ((some (([] : List (S43)) : List (S43))).bind fun y344 => (if y344.length + l0_2.length < 3518437208883 then (some ((y332 ++ l0_0), (y338 ++ l0_1), (y344 ++ l0_2))) else (none))) else (none))) else (none))) = some (r1, r2, r3) := h; clear h; obtain ⟨y332, hy332⟩ : ∃ y_ : List (S108), y_ = (([] : List (S108))) := ⟨_, rfl⟩
 replace H : (if y332.length + l0_0.length < 8796093022208 then ((some (([] : List (S92)) : List (S92))).bind fun y338 => (if y338.length + l0_1.length < 1759218604441 then ((some (([] : List (S43)) : List (S43))).bind fun y344 => (if y344.length + l0_2.length < 3518437208883 then (some ((y332 ++ l0_0), (y338 ++ l0_1), (y344 ++ l0_2))) else (none))) else (none))) else (none)) = some (r1, r2, r3) := by (try rw [hy332]); first | with_reducible exact H | with_reducible exact (Option.bind_some _ _).symm.trans H | exact H
 have Ny332 := am_ hy332; clear hy332
 by_cases c2 : y332.length + l0_0.length < 8796093022208
 ·rw [if_pos c2] at H
  have LMc2 := am_ c2; clear c2; obtain ⟨y335, hy335⟩ : ∃ y_ : List (S108), y_ = (y332 ++ l0_0) := ⟨_, rfl⟩
  (first | (rw [← hy335] at H; with_reducible replace H := bindZ H) | rw [← hy335] at H)
  have Ny335 := am_ hy335; clear hy335; obtain ⟨y338, hy338⟩ : ∃ y_ : List (S92), y_ = (([] : List (S92))) := ⟨_, rfl⟩
  replace H : (if y338.length + l0_1.length < 1759218604441 then ((some (([] : List (S43)) : List (S43))).bind fun y344 => (if y344.length + l0_2.length < 3518437208883 then (some (y335, (y338 ++ l0_1), (y344 ++ l0_2))) else (none))) else (none)) = some (r1, r2, r3) := by (try rw [hy338]); first | with_reducible exact H | with_reducible exact (Option.bind_some _ _).symm.trans H | exact H
  have Ny338 := am_ hy338; clear hy338
  by_cases c3 : y338.length + l0_1.length < 1759218604441
  ·rw [if_pos c3] at H
   have LMc3 := am_ c3; clear c3; obtain ⟨y341, hy341⟩ : ∃ y_ : List (S92), y_ = (y338 ++ l0_1) := ⟨_, rfl⟩
   (first | (rw [← hy341] at H; with_reducible replace H := bindZ H) | rw [← hy341] at H)
   have Ny341 := am_ hy341; clear hy341; obtain ⟨y344, hy344⟩ : ∃ y_ : List (S43), y_ = (([] : List (S43))) := ⟨_, rfl⟩
   replace H : (if y344.length + l0_2.length < 3518437208883 then (some (y335, y341, (y344 ++ l0_2))) else (none)) = some (r1, r2, r3) := by (try rw [hy344]); first | with_reducible exact H | with_reducible exact (Option.bind_some _ _).symm.trans H | exact H
   have Ny344 := am_ hy344; clear hy344
   by_cases c4 : y344.length + l0_2.length < 3518437208883
   ·rw [if_pos c4] at H
    have LMc4 := am_ c4; clear c4; obtain ⟨y347, hy347⟩ : ∃ y_ : List (S43), y_ = (y344 ++ l0_2) := ⟨_, rfl⟩
    (first | (rw [← hy347] at H; with_reducible replace H := bindZ H) | rw [← hy347] at H)
    have Ny347 := am_ hy347; clear hy347; simp only [Option.some.injEq, Prod.mk.injEq] at H; obtain ⟨rfl, rfl, rfl⟩ := H
    go_enter Try.func74, Try.ntmps74
    try go_wp2_with (first | ((with_reducible refine gate_dst (N := 1) rfl ?_); refine boxZ 1 #[.slice A0_0 l0_0.length c0_0, .slice A0_1 l0_1.length c0_1, .slice A0_2 l0_2.length c0_2] 32 ?_; intro gb330 hg w5 hbox hb; replace BK330 := am_ (hbox); replace GW330 := am_ ((Zc : w.heap.size ≤ gb330)); replace GE330 := GW330; replace HB := (bsZ Zd hb); clear hb hbox hg) | ((with_reducible refine gate_dst (N := 2) rfl ?_); refine boxZ 2 #[.slice none 0 0, .slice none 0 0, .slice none 0 0] 32 ?_; intro gb331 hg w6 hbox hb; replace BK331 := am_ (hbox); replace GW331 := am_ (((have z0_ := GE330; Ze) : w.heap.size ≤ gb331)); replace GE331 := GW331; replace HB := (bsZ (have z0_ := GE330; Zf) hb); replace NB330_331 := am_ ((by rw [hg]; exact Nat.ne_of_lt (blk_lt (g := gb330) (o := .cells #[.slice A0_0 l0_0.length c0_0, .slice A0_1 l0_1.length c0_1, .slice A0_2 l0_2.length c0_2] 32 (0, 0)) (have z0_ := BK330; Zg)) : gb330 ≠ gb331)); replace NB331_330 := am_ ((by rw [hg]; exact Nat.ne_of_gt (blk_lt (g := gb330) (o := .cells #[.slice A0_0 l0_0.length c0_0, .slice A0_1 l0_1.length c0_1, .slice A0_2 l0_2.length c0_2] 32 (0, 0)) (have z0_ := BK330; Zg)) : gb331 ≠ gb330)); replace BK330 := (have z0_ := BK330; bkZ hb); clear hb hbox hg))
    replace BK330 := am_ (blk_drew BK330.out); replace BK331 := am_ (blk_drew BK331.out); replace HB := am_ (below_drew1 HB.out); refine start_ (n := 14) (S := fun w' => w'.cell? ⟨gb330, 0, none⟩ = some (.slice A0_0 l0_0.length c0_0) ∧ w'.cell? ⟨gb330, 1, none⟩ = some (.slice A0_1 l0_1.length c0_1) ∧ w'.cell? ⟨gb330, 2, none⟩ = some (.slice A0_2 l0_2.length c0_2)) (ds := []) (bT 14 0) Zj rfl rfl ⟨(blk_cell BK330.out 0).trans rfl, (blk_cell BK330.out 1).trans rfl, (blk_cell BK330.out 2).trans rfl⟩ (fun hHeld => ?_); refine with_tabW impl_copyShow.tab1 impl_copyShow.bits1 (fun HT_ HW_ => ?_); generalize w6.drew = w7 at BK330 BK331 HB hHeld ⊢; refine pureZ HT_ 1 (some 4) #[false, true, false, false, false, false, false, false, false, false, false, false, false, false] ?_; refine pureZ HT_ 5 (some 8) #[false, true, false, false, false, true, false, false, false, false, false, false, false, false] ?_; refine pureZ HT_ 9 (some 12) #[false, true, false, false, false, true, false, false, false, true, false, false, false, false] ?_; refine takeZ3 HT_ HW_ 2 (some 5) #[false, true, true, false, false, true, false, false, false, true, false, false, false, false] hHeld ?_; refine takeZ3 HT_ HW_ 6 (some 9) #[false, true, true, false, false, true, true, false, false, true, false, false, false, false] hHeld ?_; refine takeZ3 HT_ HW_ 10 (some 13) #[false, true, true, false, false, true, true, false, false, true, true, false, false, false] hHeld ?_; refine join_ (σ := Value × Value × Value × Value × Value) 3 (bT 14 11) (fun s_ => [(3, s_.1), (6, s_.2.1), (7, s_.2.2.1), (10, s_.2.2.2.1), (11, s_.2.2.2.2)]) (fun s_ w' => (w'.cell? ⟨gb330, 0, none⟩ = some (.slice A0_0 l0_0.length c0_0) ∧ w'.cell? ⟨gb330, 1, none⟩ = some (.slice A0_1 l0_1.length c0_1) ∧ w'.cell? ⟨gb330, 2, none⟩ = some (.slice A0_2 l0_2.length c0_2)) ∧ (Kd.R k108 108 w' w.heap.size (fun _ => True) s_.2.1 y335) ∧ (Kd.R k92 92 w' w.heap.size (fun _ => True) s_.2.2.2.1 y341) ∧ (Kd.R k43 43 w' w.heap.size (fun _ => True) s_.2.2.2.2 y344) ∧ (w'.heap[gb330]? = some (.cells #[.slice A0_0 l0_0.length c0_0, .slice A0_1 l0_1.length c0_1, .slice A0_2 l0_2.length c0_2] 32 (0, 0))) ∧ (w'.heap[gb331]? = some (.cells #[.slice none 0 0, .slice none 0 0, .slice none 0 0] 32 (0, 0))) ∧ (Below w.heap.size w w')) ?_ ?_; rotate_left
    ·intro hJ0_3_4_7_8
     refine join_ (σ := Value × Value × Value × Value) 4 #[true, true, true, true, true, true, true, true, false, true, true, false, false, false] (fun s_ => [(3, s_.1), (6, s_.2.1), (7, s_.2.2.1), (10, s_.2.2.2)]) (fun s_ w' => (w'.cell? ⟨gb330, 0, none⟩ = some (.slice A0_0 l0_0.length c0_0) ∧ w'.cell? ⟨gb330, 1, none⟩ = some (.slice A0_1 l0_1.length c0_1) ∧ w'.cell? ⟨gb330, 2, none⟩ = some (.slice A0_2 l0_2.length c0_2)) ∧ (Kd.R k108 108 w' w.heap.size (fun _ => True) s_.2.1 y335) ∧ (Kd.R k92 92 w' w.heap.size (fun _ => True) s_.2.2.2 y341) ∧ (w'.heap[gb330]? = some (.cells #[.slice A0_0 l0_0.length c0_0, .slice A0_1 l0_1.length c0_1, .slice A0_2 l0_2.length c0_2] 32 (0, 0))) ∧ (w'.heap[gb331]? = some (.cells #[.slice none 0 0, .slice none 0 0, .slice none 0 0] 32 (0, 0))) ∧ (Below w.heap.size w w')) ?_ ?_; rotate_left
     ·intro hJ0_3_4_7
      refine join_ (σ := Value × Value × Value × Value) 4 #[true, true, true, true, true, true, true, false, true, true, true, false, false, false] (fun s_ => [(3, s_.1), (6, s_.2.1), (7, s_.2.2.1), (11, s_.2.2.2)]) (fun s_ w' => (w'.cell? ⟨gb330, 0, none⟩ = some (.slice A0_0 l0_0.length c0_0) ∧ w'.cell? ⟨gb330, 1, none⟩ = some (.slice A0_1 l0_1.length c0_1) ∧ w'.cell? ⟨gb330, 2, none⟩ = some (.slice A0_2 l0_2.length c0_2)) ∧ (Kd.R k108 108 w' w.heap.size (fun _ => True) s_.2.1 y335) ∧ (Kd.R k92 92 w' w.heap.size (fun _ => True) s_.2.2.1 y338) ∧ (Kd.R k43 43 w' w.heap.size (fun _ => True) s_.2.2.2 y344) ∧ (w'.heap[gb330]? = some (.cells #[.slice A0_0 l0_0.length c0_0, .slice A0_1 l0_1.length c0_1, .slice A0_2 l0_2.length c0_2] 32 (0, 0))) ∧ (w'.heap[gb331]? = some (.cells #[.slice none 0 0, .slice none 0 0, .slice none 0 0] 32 (0, 0))) ∧ (Below w.heap.size w w')) ?_ ?_; rotate_left
      ·intro hJ0_3_4_8
       refine join_ (σ := Value × Value × Value) 5 #[true, true, true, true, true, true, true, false, false, true, true, false, false, false] (fun s_ => [(3, s_.1), (6, s_.2.1), (7, s_.2.2)]) (fun s_ w' => (w'.cell? ⟨gb330, 0, none⟩ = some (.slice A0_0 l0_0.length c0_0) ∧ w'.cell? ⟨gb330, 1, none⟩ = some (.slice A0_1 l0_1.length c0_1) ∧ w'.cell? ⟨gb330, 2, none⟩ = some (.slice A0_2 l0_2.length c0_2)) ∧ (Kd.R k108 108 w' w.heap.size (fun _ => True) s_.2.1 y335) ∧ (Kd.R k92 92 w' w.heap.size (fun _ => True) s_.2.2 y338) ∧ (w'.heap[gb330]? = some (.cells #[.slice A0_0 l0_0.length c0_0, .slice A0_1 l0_1.length c0_1, .slice A0_2 l0_2.length c0_2] 32 (0, 0))) ∧ (w'.heap[gb331]? = some (.cells #[.slice none 0 0, .slice none 0 0, .slice none 0 0] 32 (0, 0))) ∧ (Below w.heap.size w w')) ?_ ?_; rotate_left
       ·intro hJ0_3_4
        refine join_ (σ := Value × Value × Value) 5 #[true, true, true, true, false, true, true, false, true, true, true, false, false, false] (fun s_ => [(3, s_.1), (6, s_.2.1), (11, s_.2.2)]) (fun s_ w' => (w'.cell? ⟨gb330, 0, none⟩ = some (.slice A0_0 l0_0.length c0_0) ∧ w'.cell? ⟨gb330, 1, none⟩ = some (.slice A0_1 l0_1.length c0_1) ∧ w'.cell? ⟨gb330, 2, none⟩ = some (.slice A0_2 l0_2.length c0_2)) ∧ (Kd.R k108 108 w' w.heap.size (fun _ => True) s_.2.1 y335) ∧ (Kd.R k43 43 w' w.heap.size (fun _ => True) s_.2.2 y344) ∧ (w'.heap[gb330]? = some (.cells #[.slice A0_0 l0_0.length c0_0, .slice A0_1 l0_1.length c0_1, .slice A0_2 l0_2.length c0_2] 32 (0, 0))) ∧ (w'.heap[gb331]? = some (.cells #[.slice none 0 0, .slice none 0 0, .slice none 0 0] 32 (0, 0))) ∧ (Below w.heap.size w w')) ?_ ?_; rotate_left
        ·intro hJ0_3_8
         refine join_ (σ := Value × Value × Value) 5 #[true, true, true, false, true, true, true, false, true, true, true, false, false, false] (fun s_ => [(3, s_.1), (7, s_.2.1), (11, s_.2.2)]) (fun s_ w' => (w'.cell? ⟨gb330, 0, none⟩ = some (.slice A0_0 l0_0.length c0_0) ∧ w'.cell? ⟨gb330, 1, none⟩ = some (.slice A0_1 l0_1.length c0_1) ∧ w'.cell? ⟨gb330, 2, none⟩ = some (.slice A0_2 l0_2.length c0_2)) ∧ (Kd.R k108 108 w' w.heap.size (fun _ => True) s_.1 y332) ∧ (Kd.R k92 92 w' w.heap.size (fun _ => True) s_.2.1 y338) ∧ (Kd.R k43 43 w' w.heap.size (fun _ => True) s_.2.2 y344) ∧ (w'.heap[gb330]? = some (.cells #[.slice A0_0 l0_0.length c0_0, .slice A0_1 l0_1.length c0_1, .slice A0_2 l0_2.length c0_2] 32 (0, 0))) ∧ (w'.heap[gb331]? = some (.cells #[.slice none 0 0, .slice none 0 0, .slice none 0 0] 32 (0, 0))) ∧ (Below w.heap.size w w')) ?_ ?_; rotate_left
         ·intro hJ0_4_8
          refine join_ (σ := Value × Value) 6 #[true, true, true, true, false, true, true, false, false, true, true, false, false, false] (fun s_ => [(3, s_.1), (6, s_.2)]) (fun s_ w' => (w'.cell? ⟨gb330, 0, none⟩ = some (.slice A0_0 l0_0.length c0_0) ∧ w'.cell? ⟨gb330, 1, none⟩ = some (.slice A0_1 l0_1.length c0_1) ∧ w'.cell? ⟨gb330, 2, none⟩ = some (.slice A0_2 l0_2.length c0_2)) ∧ (Kd.R k108 108 w' w.heap.size (fun _ => True) s_.2 y335) ∧ (w'.heap[gb330]? = some (.cells #[.slice A0_0 l0_0.length c0_0, .slice A0_1 l0_1.length c0_1, .slice A0_2 l0_2.length c0_2] 32 (0, 0))) ∧ (w'.heap[gb331]? = some (.cells #[.slice none 0 0, .slice none 0 0, .slice none 0 0] 32 (0, 0))) ∧ (Below w.heap.size w w')) ?_ ?_; rotate_left
          ·intro hJ0_3
           refine join_ (σ := Value × Value) 6 #[true, true, true, false, true, true, true, false, false, true, true, false, false, false] (fun s_ => [(3, s_.1), (7, s_.2)]) (fun s_ w' => (w'.cell? ⟨gb330, 0, none⟩ = some (.slice A0_0 l0_0.length c0_0) ∧ w'.cell? ⟨gb330, 1, none⟩ = some (.slice A0_1 l0_1.length c0_1) ∧ w'.cell? ⟨gb330, 2, none⟩ = some (.slice A0_2 l0_2.length c0_2)) ∧ (Kd.R k108 108 w' w.heap.size (fun _ => True) s_.1 y332) ∧ (Kd.R k92 92 w' w.heap.size (fun _ => True) s_.2 y338) ∧ (w'.heap[gb330]? = some (.cells #[.slice A0_0 l0_0.length c0_0, .slice A0_1 l0_1.length c0_1, .slice A0_2 l0_2.length c0_2] 32 (0, 0))) ∧ (w'.heap[gb331]? = some (.cells #[.slice none 0 0, .slice none 0 0, .slice none 0 0] 32 (0, 0))) ∧ (Below w.heap.size w w')) ?_ ?_; rotate_left
           ·intro hJ0_4
            refine join_ (σ := Value × Value) 6 #[true, true, true, false, false, true, true, false, true, true, true, false, false, false] (fun s_ => [(3, s_.1), (11, s_.2)]) (fun s_ w' => (w'.cell? ⟨gb330, 0, none⟩ = some (.slice A0_0 l0_0.length c0_0) ∧ w'.cell? ⟨gb330, 1, none⟩ = some (.slice A0_1 l0_1.length c0_1) ∧ w'.cell? ⟨gb330, 2, none⟩ = some (.slice A0_2 l0_2.length c0_2)) ∧ (Kd.R k108 108 w' w.heap.size (fun _ => True) s_.1 y332) ∧ (Kd.R k43 43 w' w.heap.size (fun _ => True) s_.2 y344) ∧ (w'.heap[gb330]? = some (.cells #[.slice A0_0 l0_0.length c0_0, .slice A0_1 l0_1.length c0_1, .slice A0_2 l0_2.length c0_2] 32 (0, 0))) ∧ (w'.heap[gb331]? = some (.cells #[.slice none 0 0, .slice none 0 0, .slice none 0 0] 32 (0, 0))) ∧ (Below w.heap.size w w')) ?_ ?_; rotate_left
            ·intro hJ0_8
             refine join_ (σ := Value × Value) 6 #[false, true, true, false, true, true, true, false, true, true, true, false, false, false] (fun s_ => [(7, s_.1), (11, s_.2)]) (fun s_ w' => (w'.cell? ⟨gb330, 0, none⟩ = some (.slice A0_0 l0_0.length c0_0) ∧ w'.cell? ⟨gb330, 1, none⟩ = some (.slice A0_1 l0_1.length c0_1) ∧ w'.cell? ⟨gb330, 2, none⟩ = some (.slice A0_2 l0_2.length c0_2)) ∧ (Kd.R k92 92 w' w.heap.size (fun _ => True) s_.1 y338) ∧ (Kd.R k43 43 w' w.heap.size (fun _ => True) s_.2 y344) ∧ (w'.heap[gb330]? = some (.cells #[.slice A0_0 l0_0.length c0_0, .slice A0_1 l0_1.length c0_1, .slice A0_2 l0_2.length c0_2] 32 (0, 0))) ∧ (w'.heap[gb331]? = some (.cells #[.slice none 0 0, .slice none 0 0, .slice none 0 0] 32 (0, 0))) ∧ (Below w.heap.size w w')) ?_ ?_; rotate_left
             ·intro hJ4_8
              refine join_ (σ := Value) 7 #[true, true, true, false, false, true, true, false, false, true, true, false, false, false] (fun s_ => [(3, s_)]) (fun s_ w' => (w'.cell? ⟨gb330, 0, none⟩ = some (.slice A0_0 l0_0.length c0_0) ∧ w'.cell? ⟨gb330, 1, none⟩ = some (.slice A0_1 l0_1.length c0_1) ∧ w'.cell? ⟨gb330, 2, none⟩ = some (.slice A0_2 l0_2.length c0_2)) ∧ (Kd.R k108 108 w' w.heap.size (fun _ => True) s_ y332) ∧ (w'.heap[gb330]? = some (.cells #[.slice A0_0 l0_0.length c0_0, .slice A0_1 l0_1.length c0_1, .slice A0_2 l0_2.length c0_2] 32 (0, 0))) ∧ (w'.heap[gb331]? = some (.cells #[.slice none 0 0, .slice none 0 0, .slice none 0 0] 32 (0, 0))) ∧ (Below w.heap.size w w')) ?_ ?_; rotate_left
              ·intro hJ0
               refine join_ (σ := Value) 7 #[false, true, true, false, true, true, true, false, false, true, true, false, false, false] (fun s_ => [(7, s_)]) (fun s_ w' => (w'.cell? ⟨gb330, 0, none⟩ = some (.slice A0_0 l0_0.length c0_0) ∧ w'.cell? ⟨gb330, 1, none⟩ = some (.slice A0_1 l0_1.length c0_1) ∧ w'.cell? ⟨gb330, 2, none⟩ = some (.slice A0_2 l0_2.length c0_2)) ∧ (Kd.R k92 92 w' w.heap.size (fun _ => True) s_ y338) ∧ (w'.heap[gb330]? = some (.cells #[.slice A0_0 l0_0.length c0_0, .slice A0_1 l0_1.length c0_1, .slice A0_2 l0_2.length c0_2] 32 (0, 0))) ∧ (w'.heap[gb331]? = some (.cells #[.slice none 0 0, .slice none 0 0, .slice none 0 0] 32 (0, 0))) ∧ (Below w.heap.size w w')) ?_ ?_; rotate_left
               ·intro hJ4
                refine join_ (σ := Value) 7 #[false, true, true, false, false, true, true, false, true, true, true, false, false, false] (fun s_ => [(11, s_)]) (fun s_ w' => (w'.cell? ⟨gb330, 0, none⟩ = some (.slice A0_0 l0_0.length c0_0) ∧ w'.cell? ⟨gb330, 1, none⟩ = some (.slice A0_1 l0_1.length c0_1) ∧ w'.cell? ⟨gb330, 2, none⟩ = some (.slice A0_2 l0_2.length c0_2)) ∧ (Kd.R k43 43 w' w.heap.size (fun _ => True) s_ y344) ∧ (w'.heap[gb330]? = some (.cells #[.slice A0_0 l0_0.length c0_0, .slice A0_1 l0_1.length c0_1, .slice A0_2 l0_2.length c0_2] 32 (0, 0))) ∧ (w'.heap[gb331]? = some (.cells #[.slice none 0 0, .slice none 0 0, .slice none 0 0] 32 (0, 0))) ∧ (Below w.heap.size w w')) ?_ ?_; rotate_left
                ·intro hJ8
                 refine three_ (i := 0) (j := 4) (k := 8) (Ni := some 3) (Nj := some 7) (Nk := some 11) #[true, true, true, false, false, true, true, false, false, true, true, false, false, false] #[false, true, true, false, true, true, true, false, false, true, true, false, false, false] #[false, true, true, false, false, true, true, false, true, true, true, false, false, false] rfl rfl rfl rfl rfl rfl (three_of HT_.out Zj) (by decide) (by decide) (by decide) (fun K hK => ?_) (fun K hK => ?_) (fun K hK => ?_)
                 ·skip
                  refine Kd.R_lit_step k108 _ 108 ?hg (N := 3) ?hd (xs := ([] : List (S108))) (inner := []) (ok := fun _ => True) (okp := fun _ => True) ?hr ?hp (fun _ hk => hk) trivial (Below.refl _ _) (Nat.le_refl _) (by simp) ?_; (case hd => rfl); (case hg => rfl); (case hr => first | (go_simp; done) | (go_simp; rfl)); (case hp => exact (Reps.none _ _)); intro v333 w8 ho9 hb hg_ hnew_; clear hg_ hnew_
                  (first | rw [← Ny332.out] at ho9 | (simp only [Int.reduceToNat] at ho9; rw [← Ny332.out] at ho9))
                  replace HO334 := am_ (Kd.R_lower ho9 (below_size (have z0_ := GE330; have z1_ := GE331; Zi))); replace BK330 := (have z0_ := BK330; bkZ hb); replace BK331 := (have z0_ := BK331; bkZ hb); replace HB := (bsZ (have z0_ := GE330; have z1_ := GE331; Zi) hb); clear hb ho9; refine hK.out _ _ (have z0_ := BK330; Zaw) (fun hHeld => ?_); clear hK K; refine normZ 3 ?_; exact norm_ Zax (hJ0 (v333) _ ⟨hHeld, (have z0_ := HO334; Zq), (have z0_ := BK330; Zg), (have z0_ := BK331; Zg), (have z0_ := GE330; have z1_ := GE331; Zi)⟩)
                 ·skip
                  refine Kd.R_lit_step k92 _ 92 ?hg (N := 7) ?hd (xs := ([] : List (S92))) (inner := []) (ok := fun _ => True) (okp := fun _ => True) ?hr ?hp (fun _ hk => hk) trivial (Below.refl _ _) (Nat.le_refl _) (by simp) ?_; (case hd => rfl); (case hg => rfl); (case hr => first | (go_simp; done) | (go_simp; rfl)); (case hp => exact (Reps.none _ _)); intro v339 w8 ho9 hb hg_ hnew_; clear hg_ hnew_
                  (first | rw [← Ny338.out] at ho9 | (simp only [Int.reduceToNat] at ho9; rw [← Ny338.out] at ho9))
                  replace HO340 := am_ (Kd.R_lower ho9 (below_size (have z0_ := GE330; have z1_ := GE331; Zi))); replace BK330 := (have z0_ := BK330; bkZ hb); replace BK331 := (have z0_ := BK331; bkZ hb); replace HB := (bsZ (have z0_ := GE330; have z1_ := GE331; Zi) hb); clear hb ho9; refine hK.out _ _ (have z0_ := BK330; Zaw) (fun hHeld => ?_); clear hK K; refine normZ 7 ?_; exact norm_ Zax (hJ4 (v339) _ ⟨hHeld, (have z0_ := HO340; Zq), (have z0_ := BK330; Zg), (have z0_ := BK331; Zg), (have z0_ := GE330; have z1_ := GE331; Zi)⟩)
                 ·skip
                  refine Kd.R_lit_step k43 _ 43 ?hg (N := 11) ?hd (xs := ([] : List (S43))) (inner := []) (ok := fun _ => True) (okp := fun _ => True) ?hr ?hp (fun _ hk => hk) trivial (Below.refl _ _) (Nat.le_refl _) (by simp) ?_; (case hd => rfl); (case hg => rfl); (case hr => first | (go_simp; done) | (go_simp; rfl)); (case hp => exact (Reps.none _ _)); intro v345 w8 ho9 hb hg_ hnew_; clear hg_ hnew_
                  (first | rw [← Ny344.out] at ho9 | (simp only [Int.reduceToNat] at ho9; rw [← Ny344.out] at ho9))
                  replace HO346 := am_ (Kd.R_lower ho9 (below_size (have z0_ := GE330; have z1_ := GE331; Zi))); replace BK330 := (have z0_ := BK330; bkZ hb); replace BK331 := (have z0_ := BK331; bkZ hb); replace HB := (bsZ (have z0_ := GE330; have z1_ := GE331; Zi) hb); clear hb ho9; refine hK.out _ _ (have z0_ := BK330; Zaw) (fun hHeld => ?_); clear hK K; refine normZ 11 ?_; exact norm_ Zax (hJ8 (v345) _ ⟨hHeld, (have z0_ := HO346; Zq), (have z0_ := BK330; Zg), (have z0_ := BK331; Zg), (have z0_ := GE330; have z1_ := GE331; Zi)⟩)
                ·skip
                 rintro v345 w10 ⟨hS_, h0_, h1_, h2_, h3_⟩
                 (try dsimp only at hS_ h0_ h1_ h2_ h3_)
                 replace HO346 := am_ h0_; replace BK330 := am_ h1_; replace BK331 := am_ h2_; replace HB := am_ h3_; clear h0_ h1_ h2_ h3_; have hHeld := hS_; refine normP ?_; refine two_ (i := 0) (j := 4) (Ni := some 3) (Nj := some 7) #[true, true, true, false, false, true, true, false, true, true, true, false, false, false] #[false, true, true, false, true, true, true, false, true, true, true, false, false, false] rfl rfl rfl rfl (two_of HT_.out Zj) (by decide) (by decide) (fun K hK => ?_) (fun K hK => ?_)
                 ·skip
                  refine Kd.R_lit_step k108 _ 108 ?hg (N := 3) ?hd (xs := ([] : List (S108))) (inner := []) (ok := fun _ => True) (okp := fun _ => True) ?hr ?hp (fun _ hk => hk) trivial (Below.refl _ _) (Nat.le_refl _) (by simp) ?_; (case hd => rfl); (case hg => rfl); (case hr => first | (go_simp; done) | (go_simp; rfl)); (case hp => exact (Reps.none _ _)); intro v333 w11 ho12 hb hg_ hnew_; clear hg_ hnew_
                  (first | rw [← Ny332.out] at ho12 | (simp only [Int.reduceToNat] at ho12; rw [← Ny332.out] at ho12))
                  replace HO346 := am_ (Kd.R_below (have z0_ := HO346; Zq) hb); replace HO334 := am_ (Kd.R_lower ho12 (below_size (have z0_ := GE330; have z1_ := GE331; Zi))); replace BK330 := (have z0_ := BK330; bkZ hb); replace BK331 := (have z0_ := BK331; bkZ hb); replace HB := (bsZ (have z0_ := GE330; have z1_ := GE331; Zi) hb); clear hb ho12; refine hK.out _ _ (have z0_ := BK330; Zaw) (fun hHeld => ?_); clear hK K; refine normZ 3 ?_; exact norm_ Zax (hJ0_8 (v333, v345) _ ⟨hHeld, (have z0_ := HO334; Zq), (have z0_ := HO346; Zq), (have z0_ := BK330; Zg), (have z0_ := BK331; Zg), (have z0_ := GE330; have z1_ := GE331; Zi)⟩)
                 ·skip
                  refine Kd.R_lit_step k92 _ 92 ?hg (N := 7) ?hd (xs := ([] : List (S92))) (inner := []) (ok := fun _ => True) (okp := fun _ => True) ?hr ?hp (fun _ hk => hk) trivial (Below.refl _ _) (Nat.le_refl _) (by simp) ?_; (case hd => rfl); (case hg => rfl); (case hr => first | (go_simp; done) | (go_simp; rfl)); (case hp => exact (Reps.none _ _)); intro v339 w11 ho12 hb hg_ hnew_; clear hg_ hnew_
                  (first | rw [← Ny338.out] at ho12 | (simp only [Int.reduceToNat] at ho12; rw [← Ny338.out] at ho12))
                  replace HO346 := am_ (Kd.R_below (have z0_ := HO346; Zq) hb); replace HO340 := am_ (Kd.R_lower ho12 (below_size (have z0_ := GE330; have z1_ := GE331; Zi))); replace BK330 := (have z0_ := BK330; bkZ hb); replace BK331 := (have z0_ := BK331; bkZ hb); replace HB := (bsZ (have z0_ := GE330; have z1_ := GE331; Zi) hb); clear hb ho12; refine hK.out _ _ (have z0_ := BK330; Zaw) (fun hHeld => ?_); clear hK K; refine normZ 7 ?_; exact norm_ Zax (hJ4_8 (v339, v345) _ ⟨hHeld, (have z0_ := HO340; Zq), (have z0_ := HO346; Zq), (have z0_ := BK330; Zg), (have z0_ := BK331; Zg), (have z0_ := GE330; have z1_ := GE331; Zi)⟩)
               ·skip
                rintro v339 w10 ⟨hS_, h0_, h1_, h2_, h3_⟩
                (try dsimp only at hS_ h0_ h1_ h2_ h3_)
                replace HO340 := am_ h0_; replace BK330 := am_ h1_; replace BK331 := am_ h2_; replace HB := am_ h3_; clear h0_ h1_ h2_ h3_; have hHeld := hS_; refine normP ?_; refine two_ (i := 0) (j := 8) (Ni := some 3) (Nj := some 11) #[true, true, true, false, true, true, true, false, false, true, true, false, false, false] #[false, true, true, false, true, true, true, false, true, true, true, false, false, false] rfl rfl rfl rfl (two_of HT_.out Zj) (by decide) (by decide) (fun K hK => ?_) (fun K hK => ?_)
                ·skip
                 refine Kd.R_lit_step k108 _ 108 ?hg (N := 3) ?hd (xs := ([] : List (S108))) (inner := []) (ok := fun _ => True) (okp := fun _ => True) ?hr ?hp (fun _ hk => hk) trivial (Below.refl _ _) (Nat.le_refl _) (by simp) ?_; (case hd => rfl); (case hg => rfl); (case hr => first | (go_simp; done) | (go_simp; rfl)); (case hp => exact (Reps.none _ _)); intro v333 w11 ho12 hb hg_ hnew_; clear hg_ hnew_
                 (first | rw [← Ny332.out] at ho12 | (simp only [Int.reduceToNat] at ho12; rw [← Ny332.out] at ho12))
                 replace HO340 := am_ (Kd.R_below (have z0_ := HO340; Zq) hb); replace HO334 := am_ (Kd.R_lower ho12 (below_size (have z0_ := GE330; have z1_ := GE331; Zi))); replace BK330 := (have z0_ := BK330; bkZ hb); replace BK331 := (have z0_ := BK331; bkZ hb); replace HB := (bsZ (have z0_ := GE330; have z1_ := GE331; Zi) hb); clear hb ho12; refine hK.out _ _ (have z0_ := BK330; Zaw) (fun hHeld => ?_); clear hK K; refine normZ 3 ?_; exact norm_ Zax (hJ0_4 (v333, v339) _ ⟨hHeld, (have z0_ := HO334; Zq), (have z0_ := HO340; Zq), (have z0_ := BK330; Zg), (have z0_ := BK331; Zg), (have z0_ := GE330; have z1_ := GE331; Zi)⟩)
                ·skip
                 refine Kd.R_lit_step k43 _ 43 ?hg (N := 11) ?hd (xs := ([] : List (S43))) (inner := []) (ok := fun _ => True) (okp := fun _ => True) ?hr ?hp (fun _ hk => hk) trivial (Below.refl _ _) (Nat.le_refl _) (by simp) ?_; (case hd => rfl); (case hg => rfl); (case hr => first | (go_simp; done) | (go_simp; rfl)); (case hp => exact (Reps.none _ _)); intro v345 w11 ho12 hb hg_ hnew_; clear hg_ hnew_
                 (first | rw [← Ny344.out] at ho12 | (simp only [Int.reduceToNat] at ho12; rw [← Ny344.out] at ho12))
                 replace HO340 := am_ (Kd.R_below (have z0_ := HO340; Zq) hb); replace HO346 := am_ (Kd.R_lower ho12 (below_size (have z0_ := GE330; have z1_ := GE331; Zi))); replace BK330 := (have z0_ := BK330; bkZ hb); replace BK331 := (have z0_ := BK331; bkZ hb); replace HB := (bsZ (have z0_ := GE330; have z1_ := GE331; Zi) hb); clear hb ho12; refine hK.out _ _ (have z0_ := BK330; Zaw) (fun hHeld => ?_); clear hK K; refine normZ 11 ?_; exact norm_ Zax (hJ4_8 (v339, v345) _ ⟨hHeld, (have z0_ := HO340; Zq), (have z0_ := HO346; Zq), (have z0_ := BK330; Zg), (have z0_ := BK331; Zg), (have z0_ := GE330; have z1_ := GE331; Zi)⟩)
              ·skip
               rintro v333 w10 ⟨hS_, h0_, h1_, h2_, h3_⟩
               (try dsimp only at hS_ h0_ h1_ h2_ h3_)
               replace HO334 := am_ h0_; replace BK330 := am_ h1_; replace BK331 := am_ h2_; replace HB := am_ h3_; clear h0_ h1_ h2_ h3_; have hHeld := hS_; refine normP ?_; refine three_ (i := 3) (j := 4) (k := 8) (Ni := some 6) (Nj := some 7) (Nk := some 11) #[true, true, true, true, false, true, true, false, false, true, true, false, false, false] #[true, true, true, false, true, true, true, false, false, true, true, false, false, false] #[true, true, true, false, false, true, true, false, true, true, true, false, false, false] rfl rfl rfl rfl rfl rfl (three_of HT_.out Zj) (by decide) (by decide) (by decide) (fun K hK => ?_) (fun K hK => ?_) (fun K hK => ?_)
               ·skip
                refine Kd.R_append_rows_step k108 (w0 := w) w.heap.size (by rfl) (.tmp 3) (.tmp 5) 28 108 (.agg #[(.int .i64 0), (.int .i64 0)]) 16 rfl Try.underlying28 info108 rfl (by decide) (by omega) v333 y332 l0_0 _ _ _ (fun _ => True) (fun _ => False) rfl rfl ?aO ?aR (fun _ _ h => h) (fun _ h => h.elim) ?aF ?aB ?aS ?aL ?_
                (case aR => repeat (first | exact (Kd.C_below HR0_0.out HB.out) | (with_reducible refine Kd.C_alloc ?_ _) | (with_reducible refine Kd.C_drewN ?_ _) | (with_reducible refine Kd.C_drew ?_)))
                (case aB => exact (have z0_ := GE330; have z1_ := GE331; Zi))
                (case aF => exact (fun _ _ => trivial))
                (case aO => exact (have z0_ := HO334; Zq))
                (case aS => exact (below_size (have z0_ := GE330; have z1_ := GE331; Zi)))
                (case aL => have := LMc2.out; omega)
                intro v336 w11 ho hb hg hat; rw [← Ny335.out] at ho; replace BK330 := am_ (blk_grown (g := gb330) (o := .cells #[.slice A0_0 l0_0.length c0_0, .slice A0_1 l0_1.length c0_1, .slice A0_2 l0_2.length c0_2] 32 (0, 0)) (have z0_ := BK330; Zg) hg (Kd.R_ne HO334.out BK330.out (by decide))); replace BK331 := am_ (blk_grown (g := gb331) (o := .cells #[.slice none 0 0, .slice none 0 0, .slice none 0 0] 32 (0, 0)) (have z0_ := BK331; Zg) hg (Kd.R_ne HO334.out BK331.out (by decide))); replace HB := am_ (hb); replace HO337 := am_ (ho); clear HO334; clear ho hb hg hat; refine hK.out _ _ (have z0_ := BK330; Zaw) (fun hHeld => ?_); clear hK K; refine normZ 6 ?_; exact norm_ Zax (hJ0_3 (v333, v336) _ ⟨hHeld, (have z0_ := HO337; Zq), (have z0_ := BK330; Zg), (have z0_ := BK331; Zg), (have z0_ := GE330; have z1_ := GE331; Zi)⟩)
               ·skip
                refine Kd.R_lit_step k92 _ 92 ?hg (N := 7) ?hd (xs := ([] : List (S92))) (inner := []) (ok := fun _ => True) (okp := fun _ => True) ?hr ?hp (fun _ hk => hk) trivial (Below.refl _ _) (Nat.le_refl _) (by simp) ?_; (case hd => rfl); (case hg => rfl); (case hr => first | (go_simp; done) | (go_simp; rfl)); (case hp => exact (Reps.none _ _)); intro v339 w11 ho12 hb hg_ hnew_; clear hg_ hnew_
                (first | rw [← Ny338.out] at ho12 | (simp only [Int.reduceToNat] at ho12; rw [← Ny338.out] at ho12))
                replace HO334 := am_ (Kd.R_below (have z0_ := HO334; Zq) hb); replace HO340 := am_ (Kd.R_lower ho12 (below_size (have z0_ := GE330; have z1_ := GE331; Zi))); replace BK330 := (have z0_ := BK330; bkZ hb); replace BK331 := (have z0_ := BK331; bkZ hb); replace HB := (bsZ (have z0_ := GE330; have z1_ := GE331; Zi) hb); clear hb ho12; refine hK.out _ _ (have z0_ := BK330; Zaw) (fun hHeld => ?_); clear hK K; refine normZ 7 ?_; exact norm_ Zax (hJ0_4 (v333, v339) _ ⟨hHeld, (have z0_ := HO334; Zq), (have z0_ := HO340; Zq), (have z0_ := BK330; Zg), (have z0_ := BK331; Zg), (have z0_ := GE330; have z1_ := GE331; Zi)⟩)
               ·skip
                refine Kd.R_lit_step k43 _ 43 ?hg (N := 11) ?hd (xs := ([] : List (S43))) (inner := []) (ok := fun _ => True) (okp := fun _ => True) ?hr ?hp (fun _ hk => hk) trivial (Below.refl _ _) (Nat.le_refl _) (by simp) ?_; (case hd => rfl); (case hg => rfl); (case hr => first | (go_simp; done) | (go_simp; rfl)); (case hp => exact (Reps.none _ _)); intro v345 w11 ho12 hb hg_ hnew_; clear hg_ hnew_
                (first | rw [← Ny344.out] at ho12 | (simp only [Int.reduceToNat] at ho12; rw [← Ny344.out] at ho12))
                replace HO334 := am_ (Kd.R_below (have z0_ := HO334; Zq) hb); replace HO346 := am_ (Kd.R_lower ho12 (below_size (have z0_ := GE330; have z1_ := GE331; Zi))); replace BK330 := (have z0_ := BK330; bkZ hb); replace BK331 := (have z0_ := BK331; bkZ hb); replace HB := (bsZ (have z0_ := GE330; have z1_ := GE331; Zi) hb); clear hb ho12; refine hK.out _ _ (have z0_ := BK330; Zaw) (fun hHeld => ?_); clear hK K; refine normZ 11 ?_; exact norm_ Zax (hJ0_8 (v333, v345) _ ⟨hHeld, (have z0_ := HO334; Zq), (have z0_ := HO346; Zq), (have z0_ := BK330; Zg), (have z0_ := BK331; Zg), (have z0_ := GE330; have z1_ := GE331; Zi)⟩)
             ·skip
              rintro ⟨v339, v345⟩ w12 ⟨hS_, h0_, h1_, h2_, h3_, h4_⟩
              (try dsimp only at hS_ h0_ h1_ h2_ h3_ h4_)
              replace HO340 := am_ h0_; replace HO346 := am_ h1_; replace BK330 := am_ h2_; replace BK331 := am_ h3_; replace HB := am_ h4_; clear h0_ h1_ h2_ h3_ h4_; have hHeld := hS_; refine normP ?_; refine one_ (i := 0) (N := some 3) #[true, true, true, false, true, true, true, false, true, true, true, false, false, false] rfl rfl (one_of HT_.out Zj) (by decide) (fun K hK => ?_); refine Kd.R_lit_step k108 _ 108 ?hg (N := 3) ?hd (xs := ([] : List (S108))) (inner := []) (ok := fun _ => True) (okp := fun _ => True) ?hr ?hp (fun _ hk => hk) trivial (Below.refl _ _) (Nat.le_refl _) (by simp) ?_; (case hd => rfl); (case hg => rfl); (case hr => first | (go_simp; done) | (go_simp; rfl)); (case hp => exact (Reps.none _ _)); intro v333 w13 ho14 hb hg_ hnew_; clear hg_ hnew_
              (first | rw [← Ny332.out] at ho14 | (simp only [Int.reduceToNat] at ho14; rw [← Ny332.out] at ho14))
              replace HO340 := am_ (Kd.R_below (have z0_ := HO340; Zq) hb); replace HO346 := am_ (Kd.R_below (have z0_ := HO346; Zq) hb); replace HO334 := am_ (Kd.R_lower ho14 (below_size (have z0_ := GE330; have z1_ := GE331; Zi))); replace BK330 := (have z0_ := BK330; bkZ hb); replace BK331 := (have z0_ := BK331; bkZ hb); replace HB := (bsZ (have z0_ := GE330; have z1_ := GE331; Zi) hb); clear hb ho14; refine hK.out _ _ (have z0_ := BK330; Zaw) (fun hHeld => ?_); clear hK K; refine normZ 3 ?_; exact norm_ Zax (hJ0_4_8 (v333, v339, v345) _ ⟨hHeld, (have z0_ := HO334; Zq), (have z0_ := HO340; Zq), (have z0_ := HO346; Zq), (have z0_ := BK330; Zg), (have z0_ := BK331; Zg), (have z0_ := GE330; have z1_ := GE331; Zi)⟩)
            ·skip
             rintro ⟨v333, v345⟩ w12 ⟨hS_, h0_, h1_, h2_, h3_, h4_⟩
             (try dsimp only at hS_ h0_ h1_ h2_ h3_ h4_)
             replace HO334 := am_ h0_; replace HO346 := am_ h1_; replace BK330 := am_ h2_; replace BK331 := am_ h3_; replace HB := am_ h4_; clear h0_ h1_ h2_ h3_ h4_; have hHeld := hS_; refine normP ?_; refine two_ (i := 3) (j := 4) (Ni := some 6) (Nj := some 7) #[true, true, true, true, false, true, true, false, true, true, true, false, false, false] #[true, true, true, false, true, true, true, false, true, true, true, false, false, false] rfl rfl rfl rfl (two_of HT_.out Zj) (by decide) (by decide) (fun K hK => ?_) (fun K hK => ?_)
             ·skip
              refine Kd.R_append_rows_step k108 (w0 := w) w.heap.size (by rfl) (.tmp 3) (.tmp 5) 28 108 (.agg #[(.int .i64 0), (.int .i64 0)]) 16 rfl Try.underlying28 info108 rfl (by decide) (by omega) v333 y332 l0_0 _ _ _ (fun _ => True) (fun _ => False) rfl rfl ?aO ?aR (fun _ _ h => h) (fun _ h => h.elim) ?aF ?aB ?aS ?aL ?_
              (case aR => repeat (first | exact (Kd.C_below HR0_0.out HB.out) | (with_reducible refine Kd.C_alloc ?_ _) | (with_reducible refine Kd.C_drewN ?_ _) | (with_reducible refine Kd.C_drew ?_)))
              (case aB => exact (have z0_ := GE330; have z1_ := GE331; Zi))
              (case aF => exact (fun _ _ => trivial))
              (case aO => exact (have z0_ := HO334; Zq))
              (case aS => exact (below_size (have z0_ := GE330; have z1_ := GE331; Zi)))
              (case aL => have := LMc2.out; omega)
              intro v336 w13 ho hb hg hat; rw [← Ny335.out] at ho; replace BK330 := am_ (blk_grown (g := gb330) (o := .cells #[.slice A0_0 l0_0.length c0_0, .slice A0_1 l0_1.length c0_1, .slice A0_2 l0_2.length c0_2] 32 (0, 0)) (have z0_ := BK330; Zg) hg (Kd.R_ne HO334.out BK330.out (by decide))); replace BK331 := am_ (blk_grown (g := gb331) (o := .cells #[.slice none 0 0, .slice none 0 0, .slice none 0 0] 32 (0, 0)) (have z0_ := BK331; Zg) hg (Kd.R_ne HO334.out BK331.out (by decide))); replace HO346 := am_ (Kd.R_over' (have z0_ := HO346; Zq) (Kd.R_typed (have z0_ := HO334; Zq)) (by decide) hg); replace HB := am_ (hb); replace HO337 := am_ (ho); clear HO334; clear ho hb hg hat; refine hK.out _ _ (have z0_ := BK330; Zaw) (fun hHeld => ?_); clear hK K; refine normZ 6 ?_; exact norm_ Zax (hJ0_3_8 (v333, v336, v345) _ ⟨hHeld, (have z0_ := HO337; Zq), (have z0_ := HO346; Zq), (have z0_ := BK330; Zg), (have z0_ := BK331; Zg), (have z0_ := GE330; have z1_ := GE331; Zi)⟩)
             ·skip
              refine Kd.R_lit_step k92 _ 92 ?hg (N := 7) ?hd (xs := ([] : List (S92))) (inner := []) (ok := fun _ => True) (okp := fun _ => True) ?hr ?hp (fun _ hk => hk) trivial (Below.refl _ _) (Nat.le_refl _) (by simp) ?_; (case hd => rfl); (case hg => rfl); (case hr => first | (go_simp; done) | (go_simp; rfl)); (case hp => exact (Reps.none _ _)); intro v339 w13 ho14 hb hg_ hnew_; clear hg_ hnew_
              (first | rw [← Ny338.out] at ho14 | (simp only [Int.reduceToNat] at ho14; rw [← Ny338.out] at ho14))
              replace HO334 := am_ (Kd.R_below (have z0_ := HO334; Zq) hb); replace HO346 := am_ (Kd.R_below (have z0_ := HO346; Zq) hb); replace HO340 := am_ (Kd.R_lower ho14 (below_size (have z0_ := GE330; have z1_ := GE331; Zi))); replace BK330 := (have z0_ := BK330; bkZ hb); replace BK331 := (have z0_ := BK331; bkZ hb); replace HB := (bsZ (have z0_ := GE330; have z1_ := GE331; Zi) hb); clear hb ho14; refine hK.out _ _ (have z0_ := BK330; Zaw) (fun hHeld => ?_); clear hK K; refine normZ 7 ?_; exact norm_ Zax (hJ0_4_8 (v333, v339, v345) _ ⟨hHeld, (have z0_ := HO334; Zq), (have z0_ := HO340; Zq), (have z0_ := HO346; Zq), (have z0_ := BK330; Zg), (have z0_ := BK331; Zg), (have z0_ := GE330; have z1_ := GE331; Zi)⟩)
           ·skip
            rintro ⟨v333, v339⟩ w12 ⟨hS_, h0_, h1_, h2_, h3_, h4_⟩
            (try dsimp only at hS_ h0_ h1_ h2_ h3_ h4_)
            replace HO334 := am_ h0_; replace HO340 := am_ h1_; replace BK330 := am_ h2_; replace BK331 := am_ h3_; replace HB := am_ h4_; clear h0_ h1_ h2_ h3_ h4_; have hHeld := hS_; refine normP ?_; refine two_ (i := 3) (j := 8) (Ni := some 6) (Nj := some 11) #[true, true, true, true, true, true, true, false, false, true, true, false, false, false] #[true, true, true, false, true, true, true, false, true, true, true, false, false, false] rfl rfl rfl rfl (two_of HT_.out Zj) (by decide) (by decide) (fun K hK => ?_) (fun K hK => ?_)
            ·skip
             refine Kd.R_append_rows_step k108 (w0 := w) w.heap.size (by rfl) (.tmp 3) (.tmp 5) 28 108 (.agg #[(.int .i64 0), (.int .i64 0)]) 16 rfl Try.underlying28 info108 rfl (by decide) (by omega) v333 y332 l0_0 _ _ _ (fun _ => True) (fun _ => False) rfl rfl ?aO ?aR (fun _ _ h => h) (fun _ h => h.elim) ?aF ?aB ?aS ?aL ?_
             (case aR => repeat (first | exact (Kd.C_below HR0_0.out HB.out) | (with_reducible refine Kd.C_alloc ?_ _) | (with_reducible refine Kd.C_drewN ?_ _) | (with_reducible refine Kd.C_drew ?_)))
             (case aB => exact (have z0_ := GE330; have z1_ := GE331; Zi))
             (case aF => exact (fun _ _ => trivial))
             (case aO => exact (have z0_ := HO334; Zq))
             (case aS => exact (below_size (have z0_ := GE330; have z1_ := GE331; Zi)))
             (case aL => have := LMc2.out; omega)
             intro v336 w13 ho hb hg hat; rw [← Ny335.out] at ho; replace BK330 := am_ (blk_grown (g := gb330) (o := .cells #[.slice A0_0 l0_0.length c0_0, .slice A0_1 l0_1.length c0_1, .slice A0_2 l0_2.length c0_2] 32 (0, 0)) (have z0_ := BK330; Zg) hg (Kd.R_ne HO334.out BK330.out (by decide))); replace BK331 := am_ (blk_grown (g := gb331) (o := .cells #[.slice none 0 0, .slice none 0 0, .slice none 0 0] 32 (0, 0)) (have z0_ := BK331; Zg) hg (Kd.R_ne HO334.out BK331.out (by decide))); replace HO340 := am_ (Kd.R_over' (have z0_ := HO340; Zq) (Kd.R_typed (have z0_ := HO334; Zq)) (by decide) hg); replace HB := am_ (hb); replace HO337 := am_ (ho); clear HO334; clear ho hb hg hat; refine hK.out _ _ (have z0_ := BK330; Zaw) (fun hHeld => ?_); clear hK K; refine normZ 6 ?_; exact norm_ Zax (hJ0_3_4 (v333, v336, v339) _ ⟨hHeld, (have z0_ := HO337; Zq), (have z0_ := HO340; Zq), (have z0_ := BK330; Zg), (have z0_ := BK331; Zg), (have z0_ := GE330; have z1_ := GE331; Zi)⟩)
            ·skip
             refine Kd.R_lit_step k43 _ 43 ?hg (N := 11) ?hd (xs := ([] : List (S43))) (inner := []) (ok := fun _ => True) (okp := fun _ => True) ?hr ?hp (fun _ hk => hk) trivial (Below.refl _ _) (Nat.le_refl _) (by simp) ?_; (case hd => rfl); (case hg => rfl); (case hr => first | (go_simp; done) | (go_simp; rfl)); (case hp => exact (Reps.none _ _)); intro v345 w13 ho14 hb hg_ hnew_; clear hg_ hnew_
             (first | rw [← Ny344.out] at ho14 | (simp only [Int.reduceToNat] at ho14; rw [← Ny344.out] at ho14))
             replace HO334 := am_ (Kd.R_below (have z0_ := HO334; Zq) hb); replace HO340 := am_ (Kd.R_below (have z0_ := HO340; Zq) hb); replace HO346 := am_ (Kd.R_lower ho14 (below_size (have z0_ := GE330; have z1_ := GE331; Zi))); replace BK330 := (have z0_ := BK330; bkZ hb); replace BK331 := (have z0_ := BK331; bkZ hb); replace HB := (bsZ (have z0_ := GE330; have z1_ := GE331; Zi) hb); clear hb ho14; refine hK.out _ _ (have z0_ := BK330; Zaw) (fun hHeld => ?_); clear hK K; refine normZ 11 ?_; exact norm_ Zax (hJ0_4_8 (v333, v339, v345) _ ⟨hHeld, (have z0_ := HO334; Zq), (have z0_ := HO340; Zq), (have z0_ := HO346; Zq), (have z0_ := BK330; Zg), (have z0_ := BK331; Zg), (have z0_ := GE330; have z1_ := GE331; Zi)⟩)
          ·skip
           rintro ⟨v333, v336⟩ w11 ⟨hS_, h0_, h1_, h2_, h3_⟩
           (try dsimp only at hS_ h0_ h1_ h2_ h3_)
           replace HO337 := am_ h0_; replace BK330 := am_ h1_; replace BK331 := am_ h2_; replace HB := am_ h3_; clear h0_ h1_ h2_ h3_; have hHeld := hS_; refine normP ?_; refine two_ (i := 4) (j := 8) (Ni := some 7) (Nj := some 11) #[true, true, true, true, true, true, true, false, false, true, true, false, false, false] #[true, true, true, true, false, true, true, false, true, true, true, false, false, false] rfl rfl rfl rfl (two_of HT_.out Zj) (by decide) (by decide) (fun K hK => ?_) (fun K hK => ?_)
           ·skip
            refine Kd.R_lit_step k92 _ 92 ?hg (N := 7) ?hd (xs := ([] : List (S92))) (inner := []) (ok := fun _ => True) (okp := fun _ => True) ?hr ?hp (fun _ hk => hk) trivial (Below.refl _ _) (Nat.le_refl _) (by simp) ?_; (case hd => rfl); (case hg => rfl); (case hr => first | (go_simp; done) | (go_simp; rfl)); (case hp => exact (Reps.none _ _)); intro v339 w12 ho13 hb hg_ hnew_; clear hg_ hnew_
            (first | rw [← Ny338.out] at ho13 | (simp only [Int.reduceToNat] at ho13; rw [← Ny338.out] at ho13))
            replace HO337 := am_ (Kd.R_below (have z0_ := HO337; Zq) hb); replace HO340 := am_ (Kd.R_lower ho13 (below_size (have z0_ := GE330; have z1_ := GE331; Zi))); replace BK330 := (have z0_ := BK330; bkZ hb); replace BK331 := (have z0_ := BK331; bkZ hb); replace HB := (bsZ (have z0_ := GE330; have z1_ := GE331; Zi) hb); clear hb ho13; refine hK.out _ _ (have z0_ := BK330; Zaw) (fun hHeld => ?_); clear hK K; refine normZ 7 ?_; exact norm_ Zax (hJ0_3_4 (v333, v336, v339) _ ⟨hHeld, (have z0_ := HO337; Zq), (have z0_ := HO340; Zq), (have z0_ := BK330; Zg), (have z0_ := BK331; Zg), (have z0_ := GE330; have z1_ := GE331; Zi)⟩)
           ·skip
            refine Kd.R_lit_step k43 _ 43 ?hg (N := 11) ?hd (xs := ([] : List (S43))) (inner := []) (ok := fun _ => True) (okp := fun _ => True) ?hr ?hp (fun _ hk => hk) trivial (Below.refl _ _) (Nat.le_refl _) (by simp) ?_; (case hd => rfl); (case hg => rfl); (case hr => first | (go_simp; done) | (go_simp; rfl)); (case hp => exact (Reps.none _ _)); intro v345 w12 ho13 hb hg_ hnew_; clear hg_ hnew_
            (first | rw [← Ny344.out] at ho13 | (simp only [Int.reduceToNat] at ho13; rw [← Ny344.out] at ho13))
            replace HO337 := am_ (Kd.R_below (have z0_ := HO337; Zq) hb); replace HO346 := am_ (Kd.R_lower ho13 (below_size (have z0_ := GE330; have z1_ := GE331; Zi))); replace BK330 := (have z0_ := BK330; bkZ hb); replace BK331 := (have z0_ := BK331; bkZ hb); replace HB := (bsZ (have z0_ := GE330; have z1_ := GE331; Zi) hb); clear hb ho13; refine hK.out _ _ (have z0_ := BK330; Zaw) (fun hHeld => ?_); clear hK K; refine normZ 11 ?_; exact norm_ Zax (hJ0_3_8 (v333, v336, v345) _ ⟨hHeld, (have z0_ := HO337; Zq), (have z0_ := HO346; Zq), (have z0_ := BK330; Zg), (have z0_ := BK331; Zg), (have z0_ := GE330; have z1_ := GE331; Zi)⟩)
         ·skip
          rintro ⟨v333, v339, v345⟩ w14 ⟨hS_, h0_, h1_, h2_, h3_, h4_, h5_⟩
          (try dsimp only at hS_ h0_ h1_ h2_ h3_ h4_ h5_)
          replace HO334 := am_ h0_; replace HO340 := am_ h1_; replace HO346 := am_ h2_; replace BK330 := am_ h3_; replace BK331 := am_ h4_; replace HB := am_ h5_; clear h0_ h1_ h2_ h3_ h4_ h5_; have hHeld := hS_; refine normP ?_; refine one_ (i := 3) (N := some 6) #[true, true, true, true, true, true, true, false, true, true, true, false, false, false] rfl rfl (one_of HT_.out Zj) (by decide) (fun K hK => ?_); refine Kd.R_append_rows_step k108 (w0 := w) w.heap.size (by rfl) (.tmp 3) (.tmp 5) 28 108 (.agg #[(.int .i64 0), (.int .i64 0)]) 16 rfl Try.underlying28 info108 rfl (by decide) (by omega) v333 y332 l0_0 _ _ _ (fun _ => True) (fun _ => False) rfl rfl ?aO ?aR (fun _ _ h => h) (fun _ h => h.elim) ?aF ?aB ?aS ?aL ?_
          (case aR => repeat (first | exact (Kd.C_below HR0_0.out HB.out) | (with_reducible refine Kd.C_alloc ?_ _) | (with_reducible refine Kd.C_drewN ?_ _) | (with_reducible refine Kd.C_drew ?_)))
          (case aB => exact (have z0_ := GE330; have z1_ := GE331; Zi))
          (case aF => exact (fun _ _ => trivial))
          (case aO => exact (have z0_ := HO334; Zq))
          (case aS => exact (below_size (have z0_ := GE330; have z1_ := GE331; Zi)))
          (case aL => have := LMc2.out; omega)
          intro v336 w15 ho hb hg hat; rw [← Ny335.out] at ho; replace BK330 := am_ (blk_grown (g := gb330) (o := .cells #[.slice A0_0 l0_0.length c0_0, .slice A0_1 l0_1.length c0_1, .slice A0_2 l0_2.length c0_2] 32 (0, 0)) (have z0_ := BK330; Zg) hg (Kd.R_ne HO334.out BK330.out (by decide))); replace BK331 := am_ (blk_grown (g := gb331) (o := .cells #[.slice none 0 0, .slice none 0 0, .slice none 0 0] 32 (0, 0)) (have z0_ := BK331; Zg) hg (Kd.R_ne HO334.out BK331.out (by decide))); replace HO340 := am_ (Kd.R_over' (have z0_ := HO340; Zq) (Kd.R_typed (have z0_ := HO334; Zq)) (by decide) hg); replace HO346 := am_ (Kd.R_over' (have z0_ := HO346; Zq) (Kd.R_typed (have z0_ := HO334; Zq)) (by decide) hg); replace HB := am_ (hb); replace HO337 := am_ (ho); clear HO334; clear ho hb hg hat; refine hK.out _ _ (have z0_ := BK330; Zaw) (fun hHeld => ?_); clear hK K; refine normZ 6 ?_; exact norm_ Zax (hJ0_3_4_8 (v333, v336, v339, v345) _ ⟨hHeld, (have z0_ := HO337; Zq), (have z0_ := HO340; Zq), (have z0_ := HO346; Zq), (have z0_ := BK330; Zg), (have z0_ := BK331; Zg), (have z0_ := GE330; have z1_ := GE331; Zi)⟩)
        ·skip
         rintro ⟨v333, v336, v345⟩ w13 ⟨hS_, h0_, h1_, h2_, h3_, h4_⟩
         (try dsimp only at hS_ h0_ h1_ h2_ h3_ h4_)
         replace HO337 := am_ h0_; replace HO346 := am_ h1_; replace BK330 := am_ h2_; replace BK331 := am_ h3_; replace HB := am_ h4_; clear h0_ h1_ h2_ h3_ h4_; have hHeld := hS_; refine normP ?_; refine one_ (i := 4) (N := some 7) #[true, true, true, true, true, true, true, false, true, true, true, false, false, false] rfl rfl (one_of HT_.out Zj) (by decide) (fun K hK => ?_); refine Kd.R_lit_step k92 _ 92 ?hg (N := 7) ?hd (xs := ([] : List (S92))) (inner := []) (ok := fun _ => True) (okp := fun _ => True) ?hr ?hp (fun _ hk => hk) trivial (Below.refl _ _) (Nat.le_refl _) (by simp) ?_; (case hd => rfl); (case hg => rfl); (case hr => first | (go_simp; done) | (go_simp; rfl)); (case hp => exact (Reps.none _ _)); intro v339 w14 ho15 hb hg_ hnew_; clear hg_ hnew_
         (first | rw [← Ny338.out] at ho15 | (simp only [Int.reduceToNat] at ho15; rw [← Ny338.out] at ho15))
         replace HO337 := am_ (Kd.R_below (have z0_ := HO337; Zq) hb); replace HO346 := am_ (Kd.R_below (have z0_ := HO346; Zq) hb); replace HO340 := am_ (Kd.R_lower ho15 (below_size (have z0_ := GE330; have z1_ := GE331; Zi))); replace BK330 := (have z0_ := BK330; bkZ hb); replace BK331 := (have z0_ := BK331; bkZ hb); replace HB := (bsZ (have z0_ := GE330; have z1_ := GE331; Zi) hb); clear hb ho15; refine hK.out _ _ (have z0_ := BK330; Zaw) (fun hHeld => ?_); clear hK K; refine normZ 7 ?_; exact norm_ Zax (hJ0_3_4_8 (v333, v336, v339, v345) _ ⟨hHeld, (have z0_ := HO337; Zq), (have z0_ := HO340; Zq), (have z0_ := HO346; Zq), (have z0_ := BK330; Zg), (have z0_ := BK331; Zg), (have z0_ := GE330; have z1_ := GE331; Zi)⟩)
       ·skip
        rintro ⟨v333, v336, v339⟩ w13 ⟨hS_, h0_, h1_, h2_, h3_, h4_⟩
        (try dsimp only at hS_ h0_ h1_ h2_ h3_ h4_)
        replace HO337 := am_ h0_; replace HO340 := am_ h1_; replace BK330 := am_ h2_; replace BK331 := am_ h3_; replace HB := am_ h4_; clear h0_ h1_ h2_ h3_ h4_; have hHeld := hS_; refine normP ?_; refine two_ (i := 7) (j := 8) (Ni := some 10) (Nj := some 11) #[true, true, true, true, true, true, true, true, false, true, true, false, false, false] #[true, true, true, true, true, true, true, false, true, true, true, false, false, false] rfl rfl rfl rfl (two_of HT_.out Zj) (by decide) (by decide) (fun K hK => ?_) (fun K hK => ?_)
        ·skip
         refine Kd.R_append_rows_step k92 (w0 := w) w.heap.size (by rfl) (.tmp 7) (.tmp 9) 29 92 (.agg #[(.string ⟨#[]⟩), (.int .i64 0), (.int .i64 0), (.int .i64 0), (.int .i64 0), (.int .i64 0), (.int .i64 0), (.int .i64 0), (.int .i64 0)]) 80 rfl Try.underlying29 info92 rfl (by decide) (by omega) v339 y338 l0_1 _ _ _ (fun _ => True) (fun _ => False) rfl rfl ?aO ?aR (fun _ _ h => h) (fun _ h => h.elim) ?aF ?aB ?aS ?aL ?_
         (case aR => repeat (first | exact (Kd.C_below HR0_1.out HB.out) | (with_reducible refine Kd.C_alloc ?_ _) | (with_reducible refine Kd.C_drewN ?_ _) | (with_reducible refine Kd.C_drew ?_)))
         (case aB => exact (have z0_ := GE330; have z1_ := GE331; Zi))
         (case aF => exact (fun _ _ => trivial))
         (case aO => exact (have z0_ := HO340; Zq))
         (case aS => exact (below_size (have z0_ := GE330; have z1_ := GE331; Zi)))
         (case aL => have := LMc3.out; omega)
         intro v342 w14 ho hb hg hat; rw [← Ny341.out] at ho; replace BK330 := am_ (blk_grown (g := gb330) (o := .cells #[.slice A0_0 l0_0.length c0_0, .slice A0_1 l0_1.length c0_1, .slice A0_2 l0_2.length c0_2] 32 (0, 0)) (have z0_ := BK330; Zg) hg (Kd.R_ne HO340.out BK330.out (by decide))); replace BK331 := am_ (blk_grown (g := gb331) (o := .cells #[.slice none 0 0, .slice none 0 0, .slice none 0 0] 32 (0, 0)) (have z0_ := BK331; Zg) hg (Kd.R_ne HO340.out BK331.out (by decide))); replace HO337 := am_ (Kd.R_over' (have z0_ := HO337; Zq) (Kd.R_typed (have z0_ := HO340; Zq)) (by decide) hg); replace HB := am_ (hb); replace HO343 := am_ (ho); clear HO340; clear ho hb hg hat; refine hK.out _ _ (have z0_ := BK330; Zaw) (fun hHeld => ?_); clear hK K; refine normZ 10 ?_; exact norm_ Zax (hJ0_3_4_7 (v333, v336, v339, v342) _ ⟨hHeld, (have z0_ := HO337; Zq), (have z0_ := HO343; Zq), (have z0_ := BK330; Zg), (have z0_ := BK331; Zg), (have z0_ := GE330; have z1_ := GE331; Zi)⟩)
        ·skip
         refine Kd.R_lit_step k43 _ 43 ?hg (N := 11) ?hd (xs := ([] : List (S43))) (inner := []) (ok := fun _ => True) (okp := fun _ => True) ?hr ?hp (fun _ hk => hk) trivial (Below.refl _ _) (Nat.le_refl _) (by simp) ?_; (case hd => rfl); (case hg => rfl); (case hr => first | (go_simp; done) | (go_simp; rfl)); (case hp => exact (Reps.none _ _)); intro v345 w14 ho15 hb hg_ hnew_; clear hg_ hnew_
         (first | rw [← Ny344.out] at ho15 | (simp only [Int.reduceToNat] at ho15; rw [← Ny344.out] at ho15))
         replace HO337 := am_ (Kd.R_below (have z0_ := HO337; Zq) hb); replace HO340 := am_ (Kd.R_below (have z0_ := HO340; Zq) hb); replace HO346 := am_ (Kd.R_lower ho15 (below_size (have z0_ := GE330; have z1_ := GE331; Zi))); replace BK330 := (have z0_ := BK330; bkZ hb); replace BK331 := (have z0_ := BK331; bkZ hb); replace HB := (bsZ (have z0_ := GE330; have z1_ := GE331; Zi) hb); clear hb ho15; refine hK.out _ _ (have z0_ := BK330; Zaw) (fun hHeld => ?_); clear hK K; refine normZ 11 ?_; exact norm_ Zax (hJ0_3_4_8 (v333, v336, v339, v345) _ ⟨hHeld, (have z0_ := HO337; Zq), (have z0_ := HO340; Zq), (have z0_ := HO346; Zq), (have z0_ := BK330; Zg), (have z0_ := BK331; Zg), (have z0_ := GE330; have z1_ := GE331; Zi)⟩)
      ·skip
       rintro ⟨v333, v336, v339, v345⟩ w15 ⟨hS_, h0_, h1_, h2_, h3_, h4_, h5_⟩
       (try dsimp only at hS_ h0_ h1_ h2_ h3_ h4_ h5_)
       replace HO337 := am_ h0_; replace HO340 := am_ h1_; replace HO346 := am_ h2_; replace BK330 := am_ h3_; replace BK331 := am_ h4_; replace HB := am_ h5_; clear h0_ h1_ h2_ h3_ h4_ h5_; have hHeld := hS_; refine normP ?_; refine one_ (i := 7) (N := some 10) (bT 14 11) rfl rfl (one_of HT_.out Zj) (by decide) (fun K hK => ?_); refine Kd.R_append_rows_step k92 (w0 := w) w.heap.size (by rfl) (.tmp 7) (.tmp 9) 29 92 (.agg #[(.string ⟨#[]⟩), (.int .i64 0), (.int .i64 0), (.int .i64 0), (.int .i64 0), (.int .i64 0), (.int .i64 0), (.int .i64 0), (.int .i64 0)]) 80 rfl Try.underlying29 info92 rfl (by decide) (by omega) v339 y338 l0_1 _ _ _ (fun _ => True) (fun _ => False) rfl rfl ?aO ?aR (fun _ _ h => h) (fun _ h => h.elim) ?aF ?aB ?aS ?aL ?_
       (case aR => repeat (first | exact (Kd.C_below HR0_1.out HB.out) | (with_reducible refine Kd.C_alloc ?_ _) | (with_reducible refine Kd.C_drewN ?_ _) | (with_reducible refine Kd.C_drew ?_)))
       (case aB => exact (have z0_ := GE330; have z1_ := GE331; Zi))
       (case aF => exact (fun _ _ => trivial))
       (case aO => exact (have z0_ := HO340; Zq))
       (case aS => exact (below_size (have z0_ := GE330; have z1_ := GE331; Zi)))
       (case aL => have := LMc3.out; omega)
       intro v342 w16 ho hb hg hat; rw [← Ny341.out] at ho; replace BK330 := am_ (blk_grown (g := gb330) (o := .cells #[.slice A0_0 l0_0.length c0_0, .slice A0_1 l0_1.length c0_1, .slice A0_2 l0_2.length c0_2] 32 (0, 0)) (have z0_ := BK330; Zg) hg (Kd.R_ne HO340.out BK330.out (by decide))); replace BK331 := am_ (blk_grown (g := gb331) (o := .cells #[.slice none 0 0, .slice none 0 0, .slice none 0 0] 32 (0, 0)) (have z0_ := BK331; Zg) hg (Kd.R_ne HO340.out BK331.out (by decide))); replace HO337 := am_ (Kd.R_over' (have z0_ := HO337; Zq) (Kd.R_typed (have z0_ := HO340; Zq)) (by decide) hg); replace HO346 := am_ (Kd.R_over' (have z0_ := HO346; Zq) (Kd.R_typed (have z0_ := HO340; Zq)) (by decide) hg); replace HB := am_ (hb); replace HO343 := am_ (ho); clear HO340; clear ho hb hg hat; refine hK.out _ _ (have z0_ := BK330; Zaw) (fun hHeld => ?_); clear hK K; refine normZ 10 ?_; exact norm_ Zax (hJ0_3_4_7_8 (v333, v336, v339, v342, v345) _ ⟨hHeld, (have z0_ := HO337; Zq), (have z0_ := HO343; Zq), (have z0_ := HO346; Zq), (have z0_ := BK330; Zg), (have z0_ := BK331; Zg), (have z0_ := GE330; have z1_ := GE331; Zi)⟩)
     ·skip
      rintro ⟨v333, v336, v339, v342⟩ w14 ⟨hS_, h0_, h1_, h2_, h3_, h4_⟩
      (try dsimp only at hS_ h0_ h1_ h2_ h3_ h4_)
      replace HO337 := am_ h0_; replace HO343 := am_ h1_; replace BK330 := am_ h2_; replace BK331 := am_ h3_; replace HB := am_ h4_; clear h0_ h1_ h2_ h3_ h4_; have hHeld := hS_; refine normP ?_; refine one_ (i := 8) (N := some 11) (bT 14 11) rfl rfl (one_of HT_.out Zj) (by decide) (fun K hK => ?_); refine Kd.R_lit_step k43 _ 43 ?hg (N := 11) ?hd (xs := ([] : List (S43))) (inner := []) (ok := fun _ => True) (okp := fun _ => True) ?hr ?hp (fun _ hk => hk) trivial (Below.refl _ _) (Nat.le_refl _) (by simp) ?_; (case hd => rfl); (case hg => rfl); (case hr => first | (go_simp; done) | (go_simp; rfl)); (case hp => exact (Reps.none _ _)); intro v345 w15 ho16 hb hg_ hnew_; clear hg_ hnew_
      (first | rw [← Ny344.out] at ho16 | (simp only [Int.reduceToNat] at ho16; rw [← Ny344.out] at ho16))
      replace HO337 := am_ (Kd.R_below (have z0_ := HO337; Zq) hb); replace HO343 := am_ (Kd.R_below (have z0_ := HO343; Zq) hb); replace HO346 := am_ (Kd.R_lower ho16 (below_size (have z0_ := GE330; have z1_ := GE331; Zi))); replace BK330 := (have z0_ := BK330; bkZ hb); replace BK331 := (have z0_ := BK331; bkZ hb); replace HB := (bsZ (have z0_ := GE330; have z1_ := GE331; Zi) hb); clear hb ho16; refine hK.out _ _ (have z0_ := BK330; Zaw) (fun hHeld => ?_); clear hK K; refine normZ 11 ?_; exact norm_ Zax (hJ0_3_4_7_8 (v333, v336, v339, v342, v345) _ ⟨hHeld, (have z0_ := HO337; Zq), (have z0_ := HO343; Zq), (have z0_ := HO346; Zq), (have z0_ := BK330; Zg), (have z0_ := BK331; Zg), (have z0_ := GE330; have z1_ := GE331; Zi)⟩)
    rintro ⟨v333, v336, v339, v342, v345⟩ w16 ⟨hS_, h0_, h1_, h2_, h3_, h4_, h5_⟩
    (try dsimp only at hS_ h0_ h1_ h2_ h3_ h4_ h5_)
    replace HO337 := am_ h0_; replace HO343 := am_ h1_; replace HO346 := am_ h2_; replace BK330 := am_ h3_; replace BK331 := am_ h4_; replace HB := am_ h5_; clear h0_ h1_ h2_ h3_ h4_ h5_; have hHeld := hS_; refine normP ?_; refine one_ (i := 11) (N := some 14) (bT 14 12) rfl rfl (one_of HT_.out Zj) (by decide) (fun K hK => ?_); refine Kd.R_append_rows_step k43 (w0 := w) w.heap.size (by rfl) (.tmp 11) (.tmp 13) 30 43 (.agg #[(.int .i64 0), (.int .i64 0), (.string ⟨#[]⟩), (.int .i64 0)]) 40 rfl Try.underlying30 info43 rfl (by decide) (by omega) v345 y344 l0_2 _ _ _ (fun _ => True) (fun _ => False) rfl rfl ?aO ?aR (fun _ _ h => h) (fun _ h => h.elim) ?aF ?aB ?aS ?aL ?_
    (case aR => repeat (first | exact (Kd.C_below HR0_2.out HB.out) | (with_reducible refine Kd.C_alloc ?_ _) | (with_reducible refine Kd.C_drewN ?_ _) | (with_reducible refine Kd.C_drew ?_)))
    (case aB => exact (have z0_ := GE330; have z1_ := GE331; Zi))
    (case aF => exact (fun _ _ => trivial))
    (case aO => exact (have z0_ := HO346; Zq))
    (case aS => exact (below_size (have z0_ := GE330; have z1_ := GE331; Zi)))
    (case aL => have := LMc4.out; omega)
    intro v348 w17 ho hb hg hat; rw [← Ny347.out] at ho; replace BK330 := am_ (blk_grown (g := gb330) (o := .cells #[.slice A0_0 l0_0.length c0_0, .slice A0_1 l0_1.length c0_1, .slice A0_2 l0_2.length c0_2] 32 (0, 0)) (have z0_ := BK330; Zg) hg (Kd.R_ne HO346.out BK330.out (by decide))); replace BK331 := am_ (blk_grown (g := gb331) (o := .cells #[.slice none 0 0, .slice none 0 0, .slice none 0 0] 32 (0, 0)) (have z0_ := BK331; Zg) hg (Kd.R_ne HO346.out BK331.out (by decide))); replace HO337 := am_ (Kd.R_over' (have z0_ := HO337; Zq) (Kd.R_typed (have z0_ := HO346; Zq)) (by decide) hg); replace HO343 := am_ (Kd.R_over' (have z0_ := HO343; Zq) (Kd.R_typed (have z0_ := HO346; Zq)) (by decide) hg); replace HB := am_ (hb); replace HO349 := am_ (ho); clear HO346; clear ho hb hg hat; obtain ⟨Ao18, co18, eo18⟩ := Kd.R_slice HO349.out
    (first | subst eo18 | (injection eo18 with f1_ f2_ f3_; have f4_ := f1_.symm; have f5_ := f3_.symm; clear f1_ f2_ f3_; subst f4_; subst f5_))
    obtain ⟨Ao19, co19, eo19⟩ := Kd.R_slice HO343.out
    (first | subst eo19 | (injection eo19 with f1_ f2_ f3_; have f4_ := f1_.symm; have f5_ := f3_.symm; clear f1_ f2_ f3_; subst f4_; subst f5_))
    obtain ⟨Ao20, co20, eo20⟩ := Kd.R_slice HO337.out
    (first | subst eo20 | (injection eo20 with f1_ f2_ f3_; have f4_ := f1_.symm; have f5_ := f3_.symm; clear f1_ f2_ f3_; subst f4_; subst f5_))
    refine hK.out _ _ (have z0_ := BK330; Zaw) (fun hHeld => ?_); clear hK K; refine normZ 14 ?_; refine pureZ HT_ 12 (some 15) (bT 14 13) ?_; refine one_ (i := 13) (N := none) (bT 14 14) rfl rfl (one_of HT_.out Zj) (by decide) (fun K hK => ?_); have hs21 : w17.cell? ⟨gb331, 0, none⟩ = some (.slice none 0 0) := (blk_cell BK331.out 0).trans rfl; have hfs21 := blk_frozen BK331.out 0; have hns21_0 := NB330_331.out; have hms21_0 := NB331_330.out; have hs22 : w17.cell? ⟨gb331, 1, none⟩ = some (.slice none 0 0) := (blk_cell BK331.out 1).trans rfl; have hfs22 := blk_frozen BK331.out 1; have hns22_0 := NB330_331.out; have hms22_0 := NB331_330.out; have hs23 : w17.cell? ⟨gb331, 2, none⟩ = some (.slice none 0 0) := (blk_cell BK331.out 2).trans rfl; have hfs23 := blk_frozen BK331.out 2; have hns23_0 := NB330_331.out; have hms23_0 := NB331_330.out; refine skip_ (w1 := ?_) (by rfl) rfl ?_ ?_; rotate_left
    ·go_simp
     rfl
    refine hK.out _ _ ⟨((cell_far (p := ⟨gb331, _, none⟩) NB330_331.out _).trans (((cell_far (p := ⟨gb331, _, none⟩) NB330_331.out _).trans (((cell_far (p := ⟨gb331, _, none⟩) NB330_331.out _).trans (hHeld.1)))))), ((cell_far (p := ⟨gb331, _, none⟩) NB330_331.out _).trans (((cell_far (p := ⟨gb331, _, none⟩) NB330_331.out _).trans (((cell_far (p := ⟨gb331, _, none⟩) NB330_331.out _).trans (hHeld.2.1)))))), ((cell_far (p := ⟨gb331, _, none⟩) NB330_331.out _).trans (((cell_far (p := ⟨gb331, _, none⟩) NB330_331.out _).trans (((cell_far (p := ⟨gb331, _, none⟩) NB330_331.out _).trans (hHeld.2.2))))))⟩ (fun hHeld => ?_); clear hK K; refine done_ (done_of HT_.out Zj) ?_
    try go_wp2
    refine bodyPost_ret (results_cell_row rfl _ _ gb331 32 #[.slice Ao20 y335.length co20, .slice Ao19 y341.length co19, .slice Ao18 y347.length co18] (0, 0) _ rfl (by (with_reducible repeat (first | refine blk_drewN ?_ _ | refine blk_drew ?_ | refine blk_alloc ?_ _)); refine blk_put (cs := #[.slice Ao20 y335.length co20, .slice Ao19 y341.length co19, .slice none 0 0]) ?_ 2 _ rfl; refine blk_put (cs := #[.slice Ao20 y335.length co20, .slice none 0 0, .slice none 0 0]) ?_ 1 _ rfl; refine blk_put (cs := #[.slice none 0 0, .slice none 0 0, .slice none 0 0]) ?_ 0 _ rfl; (with_reducible repeat (first | refine blk_drewN ?_ _ | refine blk_drew ?_ | refine blk_alloc ?_ _)); exact BK331.out) Try.underlying32 rfl Zj) rfl ?_; exact ⟨_, _, _, Zk, (have z0_ := HO337; have z1_ := BK331; Zby), (have z0_ := HO343; have z1_ := BK331; Zby), (have z0_ := HO349; have z1_ := BK331; Zby), (have z0_ := GE330; have z1_ := GE331; Zi)⟩
   ·rw [if_neg c4] at H
    exact absurd H (by simp)
  ·rw [if_neg c3] at H
   exact absurd H (by simp)
 ·rw [if_neg c2] at H
  exact absurd H (by simp)
def impl_AddCue.f (k : Nat) (l0_0 : List (S108)) (l0_1 : List (S92)) (l0_2 : List (S43)) (a1_0 : Int) (a1_1 : Int) (a1_2 : ByteArray) (a1_3 : Int) : Option ((List (S108)) × (List (S92)) × (List (S43)) × Int) := (impl_IsShow.f k l0_0 l0_1 l0_2).bind fun t594 => (if t594 = true then (if (l0_2.length : Int) = 20 then (some (([] : List (S108)), ([] : List (S92)), ([] : List (S43)), 3)) else ((impl_copyShow.f l0_0 l0_1 l0_2).bind fun bt595 => (if bt595.2.2.length < 3518437208883 then ((some (bt595.2.2 ++ [(⟨a1_0, a1_1, a1_2, a1_3⟩ : S43)] : List (S43))).bind fun y605 => ((impl_IsShow.f k bt595.1 bt595.2.1 y605).bind fun t608 => (if t608 = true then (some (bt595.1, bt595.2.1, y605, 0)) else (some (([] : List (S108)), ([] : List (S92)), ([] : List (S43)), 5))))) else (none)))) else (some (([] : List (S108)), ([] : List (S92)), ([] : List (S43)), 1)))
set_option maxHeartbeats 8000000 in
set_option maxRecDepth 100000 in
theorem impl_AddCue.calls (k : Nat) (A0_0 : Option Addr) (c0_0 : Nat) (l0_0 : List (S108)) (A0_1 : Option Addr) (c0_1 : Nat) (l0_1 : List (S92)) (A0_2 : Option Addr) (c0_2 : Nat) (l0_2 : List (S43)) (a1_0 : Int) (a1_1 : Int) (a1_2 : ByteArray) (a1_3 : Int) (r1 : List (S108)) (r2 : List (S92)) (r3 : List (S43)) (r4 : Int) (w : World) (hr0_0 : Kd.C k108 w A0_0 l0_0.length l0_0) (hc0_0 : l0_0.length ≤ c0_0) (hr0_1 : Kd.C k92 w A0_1 l0_1.length l0_1) (hc0_1 : l0_1.length ≤ c0_1) (hr0_2 : Kd.C k43 w A0_2 l0_2.length l0_2) (hc0_2 : l0_2.length ≤ c0_2) (h : impl_AddCue.f k l0_0 l0_1 l0_2 a1_0 a1_1 a1_2 a1_3 = some (r1, r2, r3, r4)) :
  Calls Try.prog 30 #[.agg #[.slice A0_0 l0_0.length c0_0, .slice A0_1 l0_1.length c0_1, .slice A0_2 l0_2.length c0_2], .agg #[.int .i64 a1_0, .int .i64 a1_1, .string a1_2, .int .i64 a1_3]] w fun e w' => ∃ v0_ v1_ v2_ : Value, e = .returned (.tuple #[.agg #[v0_, v1_, v2_], .int .i64 r4]) ∧ Kd.R k108 108 w' w.heap.size (fun _ => True) v0_ r1 ∧ Kd.R k92 92 w' w.heap.size (fun _ => True) v1_ r2 ∧ Kd.R k43 43 w' w.heap.size (fun _ => True) v2_ r3 ∧ Below w.heap.size w w' := by
 have hu32 := Try.underlying32; have hu43 := Try.underlying43; have HR0_0 := am_ hr0_0; have HC0_0 := am_ hc0_0; clear hr0_0 hc0_0; have HR0_1 := am_ hr0_1; have HC0_1 := am_ hc0_1; clear hr0_1 hc0_1; have HR0_2 := am_ hr0_2; have HC0_2 := am_ hc0_2; clear hr0_2 hc0_2; have HB := am_ (Below.refl w.heap.size w); have H : ((impl_IsShow.f k l0_0 l0_1 l0_2).bind fun t594 => (if t594 = true then (if (l0_2.length : Int) = 20 then (some (([] : List (S108)), ([] : List (S92)), ([] : List (S43)), 3)) else ((impl_copyShow.f l0_0 l0_1 l0_2).bind fun bt595 => (if bt595.2.2.length < 3518437208883 then ((some (bt595.2.2 ++ [(⟨a1_0, a1_1, a1_2, a1_3⟩ : S43)] : List (S43))).bind fun y605 => ((impl_IsShow.f k bt595.1 bt595.2.1 y605).bind fun t608 => (if t608 = true then (some (bt595.1, bt595.2.1, y605, 0)) else (some (([] : List (S108)), ([] : List (S92)), ([] : List (S43)), 5))))) else (none)))) else (some (([] : List (S108)), ([] : List (S92)), ([] : List (S43)), 1)))) = some (r1, r2, r3, r4) := h; clear h; replace H := Option.bind_eq_some_iff.mp H; obtain ⟨t594, A30, H⟩ := H; have A3 := am_ A30; clear A30
 by_cases c4 : t594 = true
 ·subst c4
  have H1 : (if (l0_2.length : Int) = 20 then (some (([] : List (S108)), ([] : List (S92)), ([] : List (S43)), 3)) else ((impl_copyShow.f l0_0 l0_1 l0_2).bind fun bt595 => (if bt595.2.2.length < 3518437208883 then ((some (bt595.2.2 ++ [(⟨a1_0, a1_1, a1_2, a1_3⟩ : S43)] : List (S43))).bind fun y605 => ((impl_IsShow.f k bt595.1 bt595.2.1 y605).bind fun t608 => (if t608 = true then (some (bt595.1, bt595.2.1, y605, 0)) else (some (([] : List (S108)), ([] : List (S92)), ([] : List (S43)), 5))))) else (none)))) = some (r1, r2, r3, r4) := by rw [if_pos rfl] at H; exact H
  clear H; have H := H1; clear H1
  by_cases c5 : (l0_2.length : Int) = 20
  ·rw [if_pos c5] at H
   have c5b0 := beq_iff_eq.mpr c5; have c5b1 := bne_eq_false_iff_eq.mpr c5; clear c5; simp only [Option.some.injEq, Prod.mk.injEq] at H; obtain ⟨rfl, rfl, rfl, rfl⟩ := H
   go_enter Try.func30, Try.ntmps30
   go_wp2_with (first | ((with_reducible refine gate_dst (N := 2) rfl ?_); refine boxZ 2 #[.slice A0_0 l0_0.length c0_0, .slice A0_1 l0_1.length c0_1, .slice A0_2 l0_2.length c0_2] 32 ?_; intro gb591 hg w6 hbox hb; replace BK591 := am_ (hbox); replace GW591 := am_ ((Zc : w.heap.size ≤ gb591)); replace GE591 := GW591; replace HB := (bsZ Zd hb); clear hb hbox hg) | ((with_reducible refine gate_dst (N := 3) rfl ?_); refine boxZ 3 #[.int .i64 a1_0, .int .i64 a1_1, .string a1_2, .int .i64 a1_3] 43 ?_; intro gb592 hg w7 hbox hb; replace BK592 := am_ (hbox); replace GW592 := am_ (((have z0_ := GE591; Ze) : w.heap.size ≤ gb592)); replace GE592 := GW592; replace HB := (bsZ (have z0_ := GE591; Zf) hb); replace NB591_592 := am_ (((have z0_ := BK591; Zbz) : gb591 ≠ gb592)); replace NB592_591 := am_ (((have z0_ := BK591; Zca) : gb592 ≠ gb591)); replace BK591 := (have z0_ := BK591; bkZ hb); clear hb hbox hg) | ((with_reducible refine gate_dst (N := 4) rfl ?_); refine boxZ 4 #[.slice none 0 0, .slice none 0 0, .slice none 0 0] 32 ?_; intro gb593 hg w8 hbox hb; replace BK593 := am_ (hbox); replace GW593 := am_ (((have z0_ := GE591; have z1_ := GE592; Zh) : w.heap.size ≤ gb593)); replace GE593 := GW593; replace HB := (bsZ (have z0_ := GE591; have z1_ := GE592; Zi) hb); replace NB591_593 := am_ (((have z0_ := BK591; Zbz) : gb591 ≠ gb593)); replace NB593_591 := am_ (((have z0_ := BK591; Zca) : gb593 ≠ gb591)); replace BK591 := (have z0_ := BK591; bkZ hb); replace NB592_593 := am_ (((have z0_ := BK592; Zcb) : gb592 ≠ gb593)); replace NB593_592 := am_ (((have z0_ := BK592; Zcc) : gb593 ≠ gb592)); replace BK592 := (have z0_ := BK592; bkZ hb); clear hb hbox hg; have hnb9 := NB591_592.out; have hnc9 := NB592_591.out; have hnb10 := NB591_593.out; have hnc10 := NB593_591.out; refine ci3 BK591 ?_; intros) | ((with_reducible refine gate_callee (f := 37) rfl ?_); refine goesL_ (some 8) rfl rfl Try.func37 Zj rfl #[.agg #[.slice A0_0 l0_0.length c0_0, .slice A0_1 l0_1.length c0_1, .slice A0_2 l0_2.length c0_2]] rfl Zo ?_; (with_reducible refine (impl_IsShow.calls k _ _ l0_0 _ _ l0_1 _ _ l0_2 true _ ?side1 ?side2 ?side3 ?side4 ?side5 ?side6 A3.out).mono ?_); (case side1 => exact (have z0_ := HR0_0; Zae)); (case side2 => exact HC0_0.out); (case side3 => exact (have z0_ := HR0_1; Zae)); (case side4 => exact HC0_1.out); (case side5 => exact (have z0_ := HR0_2; Zae)); (case side6 => exact HC0_2.out); rintro e w12 ⟨rfl, hb⟩; refine ⟨_, rfl, ?_⟩; replace BK591 := (have z0_ := BK591; bkZ hb); replace BK592 := (have z0_ := BK592; bkZ hb); replace BK593 := (have z0_ := BK593; bkZ hb); replace HB := (bsZ (have z0_ := GE591; have z1_ := GE592; have z2_ := GE593; Zl) hb); (try clear hb); (try clear hb2); (try clear hk); (try clear hi); refine ci3 BK591 ?_; intros; have hnb14 := NB593_592.out; have hnc14 := NB592_593.out; refine ci3 BK593 ?_; intros))
   refine bodyPost_ret (results_ct rfl _ _ gb593 32 #[.slice none 0 0, .slice none 0 0, .slice none 0 0] (0, 0) _ rfl (have z0_ := BK593; Zbd) Try.underlying32 rfl Zj) rfl ?_; exact ⟨_, _, _, Zk, Zn, Zn, Zn, (have z0_ := GE591; have z1_ := GE592; have z2_ := GE593; Zl)⟩
  ·rw [if_neg c5] at H
   have c5b0 := beq_eq_false_iff_ne.mpr c5; have c5b1 := bne_iff_ne.mpr c5; replace H := Option.bind_eq_some_iff.mp H; obtain ⟨⟨t595, t598, t601⟩, A160, H⟩ := H; replace H : (if t601.length < 3518437208883 then ((some (t601 ++ [(⟨a1_0, a1_1, a1_2, a1_3⟩ : S43)] : List (S43))).bind fun y605 => ((impl_IsShow.f k t595 t598 y605).bind fun t608 => (if t608 = true then (some (t595, t598, y605, 0)) else (some (([] : List (S108)), ([] : List (S92)), ([] : List (S43)), 5))))) else (none)) = some (r1, r2, r3, r4) := H; have A16 := am_ A160; clear A160
   by_cases c17 : t601.length < 3518437208883
   ·rw [if_pos c17] at H
    have LMc17 := am_ c17; clear c17; obtain ⟨y605, hy605⟩ : ∃ y_ : List (S43), y_ = (t601 ++ [(⟨a1_0, a1_1, a1_2, a1_3⟩ : S43)]) := ⟨_, rfl⟩
    (first | (rw [← hy605] at H; with_reducible replace H := bindZ H) | rw [← hy605] at H)
    have Ny605 := am_ hy605; clear hy605; replace H := Option.bind_eq_some_iff.mp H; obtain ⟨t608, A180, H⟩ := H; have A18 := am_ A180; clear A180
    by_cases c19 : t608 = true
    ·subst c19
     have H1 : (some (t595, t598, y605, 0)) = some (r1, r2, r3, r4) := by rw [if_pos rfl] at H; exact H
     clear H; have H := H1; clear H1; simp only [Option.some.injEq, Prod.mk.injEq] at H; obtain ⟨rfl, rfl, rfl, rfl⟩ := H
     go_enter Try.func30, Try.ntmps30
     go_wp2_with (first | ((with_reducible refine gate_dst (N := 2) rfl ?_); refine boxZ 2 #[.slice A0_0 l0_0.length c0_0, .slice A0_1 l0_1.length c0_1, .slice A0_2 l0_2.length c0_2] 32 ?_; intro gb591 hg w20 hbox hb; replace BK591 := am_ (hbox); replace GW591 := am_ ((Zc : w.heap.size ≤ gb591)); replace GE591 := GW591; replace HB := (bsZ Zd hb); clear hb hbox hg) | ((with_reducible refine gate_dst (N := 3) rfl ?_); refine boxZ 3 #[.int .i64 a1_0, .int .i64 a1_1, .string a1_2, .int .i64 a1_3] 43 ?_; intro gb592 hg w21 hbox hb; replace BK592 := am_ (hbox); replace GW592 := am_ (((have z0_ := GE591; Ze) : w.heap.size ≤ gb592)); replace GE592 := GW592; replace HB := (bsZ (have z0_ := GE591; Zf) hb); replace NB591_592 := am_ (((have z0_ := BK591; Zbz) : gb591 ≠ gb592)); replace NB592_591 := am_ (((have z0_ := BK591; Zca) : gb592 ≠ gb591)); replace BK591 := (have z0_ := BK591; bkZ hb); clear hb hbox hg) | ((with_reducible refine gate_dst (N := 4) rfl ?_); refine boxZ 4 #[.slice none 0 0, .slice none 0 0, .slice none 0 0] 32 ?_; intro gb593 hg w22 hbox hb; replace BK593 := am_ (hbox); replace GW593 := am_ (((have z0_ := GE591; have z1_ := GE592; Zh) : w.heap.size ≤ gb593)); replace GE593 := GW593; replace HB := (bsZ (have z0_ := GE591; have z1_ := GE592; Zi) hb); replace NB591_593 := am_ (((have z0_ := BK591; Zbz) : gb591 ≠ gb593)); replace NB593_591 := am_ (((have z0_ := BK591; Zca) : gb593 ≠ gb591)); replace BK591 := (have z0_ := BK591; bkZ hb); replace NB592_593 := am_ (((have z0_ := BK592; Zcb) : gb592 ≠ gb593)); replace NB593_592 := am_ (((have z0_ := BK592; Zcc) : gb593 ≠ gb592)); replace BK592 := (have z0_ := BK592; bkZ hb); clear hb hbox hg; have hnb23 := NB591_592.out; have hnc23 := NB592_591.out; have hnb24 := NB591_593.out; have hnc24 := NB593_591.out; refine ci3 BK591 ?_; intros) | ((with_reducible refine gate_callee (f := 37) rfl ?_); refine goesL_ (some 8) rfl rfl Try.func37 Zj rfl #[.agg #[.slice A0_0 l0_0.length c0_0, .slice A0_1 l0_1.length c0_1, .slice A0_2 l0_2.length c0_2]] rfl Zo ?_; (with_reducible refine (impl_IsShow.calls k _ _ l0_0 _ _ l0_1 _ _ l0_2 true _ ?side1 ?side2 ?side3 ?side4 ?side5 ?side6 A3.out).mono ?_); (case side1 => exact (have z0_ := HR0_0; Zae)); (case side2 => exact HC0_0.out); (case side3 => exact (have z0_ := HR0_1; Zae)); (case side4 => exact HC0_1.out); (case side5 => exact (have z0_ := HR0_2; Zae)); (case side6 => exact HC0_2.out); rintro e w26 ⟨rfl, hb⟩; refine ⟨_, rfl, ?_⟩; replace BK591 := (have z0_ := BK591; bkZ hb); replace BK592 := (have z0_ := BK592; bkZ hb); replace BK593 := (have z0_ := BK593; bkZ hb); replace HB := (bsZ (have z0_ := GE591; have z1_ := GE592; have z2_ := GE593; Zl) hb); (try clear hb); (try clear hb2); (try clear hk); (try clear hi); refine ci3 BK591 ?_; intros) | ((with_reducible refine gate_callee (f := 74) rfl ?_); refine goesL_ (some 17) rfl rfl Try.func74 Zj rfl #[.agg #[.slice A0_0 l0_0.length c0_0, .slice A0_1 l0_1.length c0_1, .slice A0_2 l0_2.length c0_2]] rfl Zo ?_; (with_reducible refine (impl_copyShow.calls _ _ l0_0 _ _ l0_1 _ _ l0_2 t595 t598 t601 _ ?side1 ?side2 ?side3 ?side4 ?side5 ?side6 A16.out).mono ?_); (case side1 => exact (have z0_ := HR0_0; Zae)); (case side2 => exact HC0_0.out); (case side3 => exact (have z0_ := HR0_1; Zae)); (case side4 => exact HC0_1.out); (case side5 => exact (have z0_ := HR0_2; Zae)); (case side6 => exact HC0_2.out); rintro e w28 ⟨v596, v599, v602, rfl, ho0, ho1, ho2, hb⟩; refine ⟨_, rfl, ?_⟩; replace HO597 := am_ (Kd.R_lower ho0 (below_size (have z0_ := GE591; have z1_ := GE592; have z2_ := GE593; Zl))); replace HO600 := am_ (Kd.R_lower ho1 (below_size (have z0_ := GE591; have z1_ := GE592; have z2_ := GE593; Zl))); replace HO603 := am_ (Kd.R_lower (Kd.R_newB ho2 (g := gb592) (o := .cells #[.int .i64 a1_0, .int .i64 a1_1, .string a1_2, .int .i64 a1_3] 43 (0, 0)) (have z0_ := BK592; Zg)) (below_size (have z0_ := GE591; have z1_ := GE592; have z2_ := GE593; Zl))); replace BK591 := (have z0_ := BK591; bkZ hb); replace BK592 := (have z0_ := BK592; bkZ hb); replace BK593 := (have z0_ := BK593; bkZ hb); replace HB := (bsZ (have z0_ := GE591; have z1_ := GE592; have z2_ := GE593; Zl) hb); (try clear hb); (try clear hb2); (try clear hk); (try clear hi); (try clear ho0); (try clear ho1); (try clear ho2)) | ((with_reducible refine gate_dst (N := 6) rfl ?_); refine boxZ 6 #[.slice none 0 0, .slice none 0 0, .slice none 0 0] 32 ?_; intro gb604 hg w29 hbox hb; replace HO597 := am_ (Kd.R_below (have z0_ := HO597; Zq) hb); replace HO600 := am_ (Kd.R_below (have z0_ := HO600; Zq) hb); replace HO603 := am_ (Kd.R_below (have z0_ := HO603; Zq) hb); replace BK604 := am_ (hbox); replace GW604 := am_ (((have z0_ := GE591; have z1_ := GE592; have z2_ := GE593; Zbg) : w.heap.size ≤ gb604)); replace GE604 := GW604; replace HB := (bsZ (have z0_ := GE591; have z1_ := GE592; have z2_ := GE593; Zl) hb); replace NB591_604 := am_ (((have z0_ := BK591; Zbz) : gb591 ≠ gb604)); replace NB604_591 := am_ (((have z0_ := BK591; Zca) : gb604 ≠ gb591)); replace BK591 := (have z0_ := BK591; bkZ hb); replace NB592_604 := am_ (((have z0_ := BK592; Zcb) : gb592 ≠ gb604)); replace NB604_592 := am_ (((have z0_ := BK592; Zcc) : gb604 ≠ gb592)); replace BK592 := (have z0_ := BK592; bkZ hb); replace NB593_604 := am_ (((have z0_ := BK593; Zcd) : gb593 ≠ gb604)); replace NB604_593 := am_ (((have z0_ := BK593; Zce) : gb604 ≠ gb593)); replace BK593 := (have z0_ := BK593; bkZ hb); clear hb hbox hg; obtain ⟨Ao30, co30, eo30⟩ := Kd.R_slice HO597.out; subst eo30; have hnb31 := NB604_591.out; have hnc31 := NB591_604.out; have hnb32 := NB604_592.out; have hnc32 := NB592_604.out; have hnb33 := NB604_593.out; have hnc33 := NB593_604.out; refine ci3 BK604 ?_; intros; obtain ⟨Ao35, co35, eo35⟩ := Kd.R_slice HO600.out; subst eo35; obtain ⟨Ao36, co36, eo36⟩ := Kd.R_slice HO603.out; subst eo36; have hnb37 := NB592_593.out; have hnc37 := NB593_592.out; refine ci4 BK592 ?_; intros) | ((with_reducible refine gate_builtin (b := .append) (xs := #[.tmp 19, .tmp 21]) rfl ?_); at_builtin; refine Kd.R_append k43 (w0 := w) w.heap.size rfl (.tmp 19) (.tmp 21) 30 43 (.agg #[(.int .i64 0), (.int .i64 0), (.string ⟨#[]⟩), (.int .i64 0)]) 40 rfl Try.underlying30 info43 rfl (by decide) (by omega) (.slice Ao36 t601.length co36) t601 (⟨a1_0, a1_1, a1_2, a1_3⟩ : S43) [.int .i64 a1_0, .int .i64 a1_1, .string a1_2, .int .i64 a1_3] (fun k_ => k_ ≠ gb592) (fun _ => False) rfl Zcf ?aP (fun _ hk => hk.elim) ?aF ?aO ?aB ?aS ?aL ?_; (case aP => exact k43_mkM _ _ _ (⟨a1_0, a1_1, a1_2, a1_3⟩ : S43)); (case aB => exact (have z0_ := GE591; have z1_ := GE592; have z2_ := GE593; have z3_ := GE604; Zbj)); (case aF => exact (fun k_ hk => Kd.freshB (g := gb592) (o := .cells #[.int .i64 a1_0, .int .i64 a1_1, .string a1_2, .int .i64 a1_3] 43 (0, 0)) (have z0_ := NB592_604; have z1_ := BK592; Zbo) k_ hk)); (case aO => exact (by (with_reducible repeat (first | apply Kd.R_alloc | apply Kd.R_drewN | apply Kd.R_drew)); exact Kd.R_mono (Kd.R_far (p := ⟨gb604, 2, none⟩) (Kd.R_far (p := ⟨gb604, 1, none⟩) (Kd.R_far (p := ⟨gb604, 0, none⟩) (Kd.R_types HO603.out BK604.out (by decide)) (fun _ hk => hk.2) (.slice Ao30 t595.length co30)) (fun _ hk => hk.2) (.slice Ao35 t598.length co35)) (fun _ hk => hk.2) (.slice Ao36 t601.length co36)) (fun _ hk => hk.1.2))); (case aS => exact (below_size (have z0_ := GE591; have z1_ := GE592; have z2_ := GE593; have z3_ := GE604; Zbj))); (case aL => have := LMc17.out; omega); intro v606 w39 ho hb hg hat; rw [← Ny605.out] at ho; replace BK591 := am_ (blk_grown (g := gb591) (o := .cells #[.slice A0_0 l0_0.length c0_0, .slice A0_1 l0_1.length c0_1, .slice A0_2 l0_2.length c0_2] 32 (0, 0)) (have z0_ := NB591_604; have z1_ := BK591; Zbo) hg (Kd.R_ne HO603.out BK591.out (by decide))); replace BK592 := am_ (blk_grown (g := gb592) (o := .cells #[.int .i64 a1_0, .int .i64 a1_1, .string a1_2, .int .i64 a1_3] 43 (0, 0)) (have z0_ := NB592_604; have z1_ := BK592; Zbo) hg (Kd.R_away HO603.out (fun _ hk => hk.2))); replace BK593 := am_ (blk_grown (g := gb593) (o := .cells #[.slice none 0 0, .slice none 0 0, .slice none 0 0] 32 (0, 0)) (have z0_ := NB593_604; have z1_ := BK593; Zbo) hg (Kd.R_ne HO603.out BK593.out (by decide))); replace HO597 := am_ (Kd.R_over' (have z0_ := HO597; have z1_ := BK604; Zcg) (Kd.R_typed (have z0_ := HO603; have z1_ := BK604; Zcg)) (by decide) hg); replace HO600 := am_ (Kd.R_over' (have z0_ := HO600; have z1_ := BK604; Zcg) (Kd.R_typed (have z0_ := HO603; have z1_ := BK604; Zcg)) (by decide) hg); replace BK604 := am_ (blk_grown (g := gb604) (o := .cells #[.slice Ao30 t595.length co30, .slice Ao35 t598.length co35, .slice Ao36 t601.length co36] 32 (0, 0)) (have z0_ := BK604; Zch) hg (Kd.R_ne HO603.out BK604.out (by decide))); replace HB := am_ (hb); replace HO607 := am_ (ho); clear HO603; clear ho hb hg hat; obtain ⟨Ao40, co40, eo40⟩ := Kd.R_slice HO607.out; subst eo40; refine ci3 BK604 ?_; intros) | ((with_reducible refine gate_callee (f := 37) rfl ?_); refine goesL_ (some 25) rfl rfl Try.func37 Zj rfl #[.agg #[.slice Ao30 t595.length co30, .slice Ao35 t598.length co35, .slice Ao40 y605.length co40]] rfl Zo ?_; (with_reducible refine (impl_IsShow.calls k _ _ t595 _ _ t598 _ _ y605 true _ ?side1 ?side2 ?side3 ?side4 ?side5 ?side6 A18.out).mono ?_); (case side1 => refine (Kd.R_reads' (e := 108) (base := w.heap.size) (ok := fun k_ => True) (n := t595.length) (c := co30) ?_).2.2; exact (have z0_ := HO597; have z1_ := BK604; Zci)); (case side2 => exact (Kd.R_reads' HO597.out).2.1); (case side3 => refine (Kd.R_reads' (e := 92) (base := w.heap.size) (ok := fun k_ => True) (n := t598.length) (c := co35) ?_).2.2; exact (have z0_ := HO600; have z1_ := BK604; Zci)); (case side4 => exact (Kd.R_reads' HO600.out).2.1); (case side5 => refine (Kd.R_reads' (e := 43) (base := w.heap.size) (ok := fun k_ => k_ ≠ gb592) (n := y605.length) (c := co40) ?_).2.2; exact (have z0_ := HO607; have z1_ := BK604; Zci)); (case side6 => exact (Kd.R_reads' HO607.out).2.1); rintro e w42 ⟨rfl, hb⟩; refine ⟨_, rfl, ?_⟩; replace HO597 := am_ (Kd.R_below (have z0_ := HO597; have z1_ := BK604; Zci) hb); replace HO600 := am_ (Kd.R_below (have z0_ := HO600; have z1_ := BK604; Zci) hb); replace HO607 := am_ (Kd.R_below (have z0_ := HO607; have z1_ := BK604; Zci) hb); replace BK591 := am_ (blk_below (g := gb591) (o := .cells #[.slice A0_0 l0_0.length c0_0, .slice A0_1 l0_1.length c0_1, .slice A0_2 l0_2.length c0_2] 32 (0, 0)) (have z0_ := NB591_604; have z1_ := BK591; Zaj) hb); replace BK592 := am_ (blk_below (g := gb592) (o := .cells #[.int .i64 a1_0, .int .i64 a1_1, .string a1_2, .int .i64 a1_3] 43 (0, 0)) (have z0_ := NB592_604; have z1_ := BK592; Zaj) hb); replace BK593 := am_ (blk_below (g := gb593) (o := .cells #[.slice none 0 0, .slice none 0 0, .slice none 0 0] 32 (0, 0)) (have z0_ := NB593_604; have z1_ := BK593; Zaj) hb); replace BK604 := am_ (blk_below (g := gb604) (o := .cells #[.slice Ao30 t595.length co30, .slice Ao35 t598.length co35, .slice Ao40 y605.length co40] 32 (0, 0)) (by (with_reducible repeat (first | refine blk_drewN ?_ _ | refine blk_drew ?_ | refine blk_alloc ?_ _)); refine blk_put (cs := #[.slice Ao30 t595.length co30, .slice Ao35 t598.length co35, .slice Ao36 t601.length co36]) ?_ 2 _ rfl; (with_reducible repeat (first | refine blk_drewN ?_ _ | refine blk_drew ?_ | refine blk_alloc ?_ _)); exact BK604.out) hb); replace HB := (bsZ (have z0_ := GE591; have z1_ := GE592; have z2_ := GE593; have z3_ := GE604; Zbj) hb); (try clear hb); (try clear hb2); (try clear hk); (try clear hi); refine ci3 BK604 ?_; intros; refine ci3 BK593 ?_; intros))
     refine bodyPost_ret (results_ct rfl _ _ gb593 32 #[.slice Ao30 t595.length co30, .slice Ao35 t598.length co35, .slice Ao40 y605.length co40] (0, 0) _ rfl (have z0_ := BK593; Zch) Try.underlying32 rfl Zj) rfl ?_; exact ⟨_, _, _, Zk, (have z0_ := HO597; have z1_ := BK593; Zcj), (have z0_ := HO600; have z1_ := BK593; Zcj), (have z0_ := HO607; have z1_ := BK593; Zcj), (have z0_ := GE591; have z1_ := GE592; have z2_ := GE593; have z3_ := GE604; Zbj)⟩
    ·replace c19 := Bool.eq_false_iff.mpr c19
     subst c19
     have H1 : (some (([] : List (S108)), ([] : List (S92)), ([] : List (S43)), 5)) = some (r1, r2, r3, r4) := by rw [if_neg (show ¬ (false = true) by decide)] at H; exact H
     clear H; have H := H1; clear H1; simp only [Option.some.injEq, Prod.mk.injEq] at H; obtain ⟨rfl, rfl, rfl, rfl⟩ := H
     go_enter Try.func30, Try.ntmps30
     go_wp2_with (first | ((with_reducible refine gate_dst (N := 2) rfl ?_); refine boxZ 2 #[.slice A0_0 l0_0.length c0_0, .slice A0_1 l0_1.length c0_1, .slice A0_2 l0_2.length c0_2] 32 ?_; intro gb591 hg w45 hbox hb; replace BK591 := am_ (hbox); replace GW591 := am_ ((Zc : w.heap.size ≤ gb591)); replace GE591 := GW591; replace HB := (bsZ Zd hb); clear hb hbox hg) | ((with_reducible refine gate_dst (N := 3) rfl ?_); refine boxZ 3 #[.int .i64 a1_0, .int .i64 a1_1, .string a1_2, .int .i64 a1_3] 43 ?_; intro gb592 hg w46 hbox hb; replace BK592 := am_ (hbox); replace GW592 := am_ (((have z0_ := GE591; Ze) : w.heap.size ≤ gb592)); replace GE592 := GW592; replace HB := (bsZ (have z0_ := GE591; Zf) hb); replace NB591_592 := am_ (((have z0_ := BK591; Zbz) : gb591 ≠ gb592)); replace NB592_591 := am_ (((have z0_ := BK591; Zca) : gb592 ≠ gb591)); replace BK591 := (have z0_ := BK591; bkZ hb); clear hb hbox hg) | ((with_reducible refine gate_dst (N := 4) rfl ?_); refine boxZ 4 #[.slice none 0 0, .slice none 0 0, .slice none 0 0] 32 ?_; intro gb593 hg w47 hbox hb; replace BK593 := am_ (hbox); replace GW593 := am_ (((have z0_ := GE591; have z1_ := GE592; Zh) : w.heap.size ≤ gb593)); replace GE593 := GW593; replace HB := (bsZ (have z0_ := GE591; have z1_ := GE592; Zi) hb); replace NB591_593 := am_ (((have z0_ := BK591; Zbz) : gb591 ≠ gb593)); replace NB593_591 := am_ (((have z0_ := BK591; Zca) : gb593 ≠ gb591)); replace BK591 := (have z0_ := BK591; bkZ hb); replace NB592_593 := am_ (((have z0_ := BK592; Zcb) : gb592 ≠ gb593)); replace NB593_592 := am_ (((have z0_ := BK592; Zcc) : gb593 ≠ gb592)); replace BK592 := (have z0_ := BK592; bkZ hb); clear hb hbox hg; have hnb48 := NB591_592.out; have hnc48 := NB592_591.out; have hnb49 := NB591_593.out; have hnc49 := NB593_591.out; refine ci3 BK591 ?_; intros) | ((with_reducible refine gate_callee (f := 37) rfl ?_); refine goesL_ (some 8) rfl rfl Try.func37 Zj rfl #[.agg #[.slice A0_0 l0_0.length c0_0, .slice A0_1 l0_1.length c0_1, .slice A0_2 l0_2.length c0_2]] rfl Zo ?_; (with_reducible refine (impl_IsShow.calls k _ _ l0_0 _ _ l0_1 _ _ l0_2 true _ ?side1 ?side2 ?side3 ?side4 ?side5 ?side6 A3.out).mono ?_); (case side1 => exact (have z0_ := HR0_0; Zae)); (case side2 => exact HC0_0.out); (case side3 => exact (have z0_ := HR0_1; Zae)); (case side4 => exact HC0_1.out); (case side5 => exact (have z0_ := HR0_2; Zae)); (case side6 => exact HC0_2.out); rintro e w51 ⟨rfl, hb⟩; refine ⟨_, rfl, ?_⟩; replace BK591 := (have z0_ := BK591; bkZ hb); replace BK592 := (have z0_ := BK592; bkZ hb); replace BK593 := (have z0_ := BK593; bkZ hb); replace HB := (bsZ (have z0_ := GE591; have z1_ := GE592; have z2_ := GE593; Zl) hb); (try clear hb); (try clear hb2); (try clear hk); (try clear hi); refine ci3 BK591 ?_; intros) | ((with_reducible refine gate_callee (f := 74) rfl ?_); refine goesL_ (some 17) rfl rfl Try.func74 Zj rfl #[.agg #[.slice A0_0 l0_0.length c0_0, .slice A0_1 l0_1.length c0_1, .slice A0_2 l0_2.length c0_2]] rfl Zo ?_; (with_reducible refine (impl_copyShow.calls _ _ l0_0 _ _ l0_1 _ _ l0_2 t595 t598 t601 _ ?side1 ?side2 ?side3 ?side4 ?side5 ?side6 A16.out).mono ?_); (case side1 => exact (have z0_ := HR0_0; Zae)); (case side2 => exact HC0_0.out); (case side3 => exact (have z0_ := HR0_1; Zae)); (case side4 => exact HC0_1.out); (case side5 => exact (have z0_ := HR0_2; Zae)); (case side6 => exact HC0_2.out); rintro e w53 ⟨v596, v599, v602, rfl, ho0, ho1, ho2, hb⟩; refine ⟨_, rfl, ?_⟩; replace HO597 := am_ (Kd.R_lower ho0 (below_size (have z0_ := GE591; have z1_ := GE592; have z2_ := GE593; Zl))); replace HO600 := am_ (Kd.R_lower ho1 (below_size (have z0_ := GE591; have z1_ := GE592; have z2_ := GE593; Zl))); replace HO603 := am_ (Kd.R_lower (Kd.R_newB ho2 (g := gb592) (o := .cells #[.int .i64 a1_0, .int .i64 a1_1, .string a1_2, .int .i64 a1_3] 43 (0, 0)) (have z0_ := BK592; Zg)) (below_size (have z0_ := GE591; have z1_ := GE592; have z2_ := GE593; Zl))); replace BK591 := (have z0_ := BK591; bkZ hb); replace BK592 := (have z0_ := BK592; bkZ hb); replace BK593 := (have z0_ := BK593; bkZ hb); replace HB := (bsZ (have z0_ := GE591; have z1_ := GE592; have z2_ := GE593; Zl) hb); (try clear hb); (try clear hb2); (try clear hk); (try clear hi); (try clear ho0); (try clear ho1); (try clear ho2)) | ((with_reducible refine gate_dst (N := 6) rfl ?_); refine boxZ 6 #[.slice none 0 0, .slice none 0 0, .slice none 0 0] 32 ?_; intro gb604 hg w54 hbox hb; replace HO597 := am_ (Kd.R_below (have z0_ := HO597; Zq) hb); replace HO600 := am_ (Kd.R_below (have z0_ := HO600; Zq) hb); replace HO603 := am_ (Kd.R_below (have z0_ := HO603; Zq) hb); replace BK604 := am_ (hbox); replace GW604 := am_ (((have z0_ := GE591; have z1_ := GE592; have z2_ := GE593; Zbg) : w.heap.size ≤ gb604)); replace GE604 := GW604; replace HB := (bsZ (have z0_ := GE591; have z1_ := GE592; have z2_ := GE593; Zl) hb); replace NB591_604 := am_ (((have z0_ := BK591; Zbz) : gb591 ≠ gb604)); replace NB604_591 := am_ (((have z0_ := BK591; Zca) : gb604 ≠ gb591)); replace BK591 := (have z0_ := BK591; bkZ hb); replace NB592_604 := am_ (((have z0_ := BK592; Zcb) : gb592 ≠ gb604)); replace NB604_592 := am_ (((have z0_ := BK592; Zcc) : gb604 ≠ gb592)); replace BK592 := (have z0_ := BK592; bkZ hb); replace NB593_604 := am_ (((have z0_ := BK593; Zcd) : gb593 ≠ gb604)); replace NB604_593 := am_ (((have z0_ := BK593; Zce) : gb604 ≠ gb593)); replace BK593 := (have z0_ := BK593; bkZ hb); clear hb hbox hg; obtain ⟨Ao55, co55, eo55⟩ := Kd.R_slice HO597.out; subst eo55; have hnb56 := NB604_591.out; have hnc56 := NB591_604.out; have hnb57 := NB604_592.out; have hnc57 := NB592_604.out; have hnb58 := NB604_593.out; have hnc58 := NB593_604.out; refine ci3 BK604 ?_; intros; obtain ⟨Ao60, co60, eo60⟩ := Kd.R_slice HO600.out; subst eo60; obtain ⟨Ao61, co61, eo61⟩ := Kd.R_slice HO603.out; subst eo61; have hnb62 := NB592_593.out; have hnc62 := NB593_592.out; refine ci4 BK592 ?_; intros) | ((with_reducible refine gate_builtin (b := .append) (xs := #[.tmp 19, .tmp 21]) rfl ?_); at_builtin; refine Kd.R_append k43 (w0 := w) w.heap.size rfl (.tmp 19) (.tmp 21) 30 43 (.agg #[(.int .i64 0), (.int .i64 0), (.string ⟨#[]⟩), (.int .i64 0)]) 40 rfl Try.underlying30 info43 rfl (by decide) (by omega) (.slice Ao61 t601.length co61) t601 (⟨a1_0, a1_1, a1_2, a1_3⟩ : S43) [.int .i64 a1_0, .int .i64 a1_1, .string a1_2, .int .i64 a1_3] (fun k_ => k_ ≠ gb592) (fun _ => False) rfl Zcf ?aP (fun _ hk => hk.elim) ?aF ?aO ?aB ?aS ?aL ?_; (case aP => exact k43_mkM _ _ _ (⟨a1_0, a1_1, a1_2, a1_3⟩ : S43)); (case aB => exact (have z0_ := GE591; have z1_ := GE592; have z2_ := GE593; have z3_ := GE604; Zbj)); (case aF => exact (fun k_ hk => Kd.freshB (g := gb592) (o := .cells #[.int .i64 a1_0, .int .i64 a1_1, .string a1_2, .int .i64 a1_3] 43 (0, 0)) (have z0_ := NB592_604; have z1_ := BK592; Zbo) k_ hk)); (case aO => exact (by (with_reducible repeat (first | apply Kd.R_alloc | apply Kd.R_drewN | apply Kd.R_drew)); exact Kd.R_mono (Kd.R_far (p := ⟨gb604, 2, none⟩) (Kd.R_far (p := ⟨gb604, 1, none⟩) (Kd.R_far (p := ⟨gb604, 0, none⟩) (Kd.R_types HO603.out BK604.out (by decide)) (fun _ hk => hk.2) (.slice Ao55 t595.length co55)) (fun _ hk => hk.2) (.slice Ao60 t598.length co60)) (fun _ hk => hk.2) (.slice Ao61 t601.length co61)) (fun _ hk => hk.1.2))); (case aS => exact (below_size (have z0_ := GE591; have z1_ := GE592; have z2_ := GE593; have z3_ := GE604; Zbj))); (case aL => have := LMc17.out; omega); intro v606 w64 ho hb hg hat; rw [← Ny605.out] at ho; replace BK591 := am_ (blk_grown (g := gb591) (o := .cells #[.slice A0_0 l0_0.length c0_0, .slice A0_1 l0_1.length c0_1, .slice A0_2 l0_2.length c0_2] 32 (0, 0)) (have z0_ := NB591_604; have z1_ := BK591; Zbo) hg (Kd.R_ne HO603.out BK591.out (by decide))); replace BK592 := am_ (blk_grown (g := gb592) (o := .cells #[.int .i64 a1_0, .int .i64 a1_1, .string a1_2, .int .i64 a1_3] 43 (0, 0)) (have z0_ := NB592_604; have z1_ := BK592; Zbo) hg (Kd.R_away HO603.out (fun _ hk => hk.2))); replace BK593 := am_ (blk_grown (g := gb593) (o := .cells #[.slice none 0 0, .slice none 0 0, .slice none 0 0] 32 (0, 0)) (have z0_ := NB593_604; have z1_ := BK593; Zbo) hg (Kd.R_ne HO603.out BK593.out (by decide))); replace HO597 := am_ (Kd.R_over' (have z0_ := HO597; have z1_ := BK604; Zck) (Kd.R_typed (have z0_ := HO603; have z1_ := BK604; Zck)) (by decide) hg); replace HO600 := am_ (Kd.R_over' (have z0_ := HO600; have z1_ := BK604; Zck) (Kd.R_typed (have z0_ := HO603; have z1_ := BK604; Zck)) (by decide) hg); replace BK604 := am_ (blk_grown (g := gb604) (o := .cells #[.slice Ao55 t595.length co55, .slice Ao60 t598.length co60, .slice Ao61 t601.length co61] 32 (0, 0)) (by (with_reducible repeat (first | refine blk_drewN ?_ _ | refine blk_drew ?_ | refine blk_alloc ?_ _)); refine blk_put (cs := #[.slice Ao55 t595.length co55, .slice Ao60 t598.length co60, .slice none 0 0]) ?_ 2 _ rfl; refine blk_put (cs := #[.slice Ao55 t595.length co55, .slice none 0 0, .slice none 0 0]) ?_ 1 _ rfl; refine blk_put (cs := #[.slice none 0 0, .slice none 0 0, .slice none 0 0]) ?_ 0 _ rfl; (with_reducible repeat (first | refine blk_drewN ?_ _ | refine blk_drew ?_ | refine blk_alloc ?_ _)); exact BK604.out) hg (Kd.R_ne HO603.out BK604.out (by decide))); replace HB := am_ (hb); replace HO607 := am_ (ho); clear HO603; clear ho hb hg hat; obtain ⟨Ao65, co65, eo65⟩ := Kd.R_slice HO607.out; subst eo65; refine ci3 BK604 ?_; intros) | ((with_reducible refine gate_callee (f := 37) rfl ?_); refine goesL_ (some 25) rfl rfl Try.func37 Zj rfl #[.agg #[.slice Ao55 t595.length co55, .slice Ao60 t598.length co60, .slice Ao65 y605.length co65]] rfl Zo ?_; (with_reducible refine (impl_IsShow.calls k _ _ t595 _ _ t598 _ _ y605 false _ ?side1 ?side2 ?side3 ?side4 ?side5 ?side6 A18.out).mono ?_); (case side1 => refine (Kd.R_reads' (e := 108) (base := w.heap.size) (ok := fun k_ => True) (n := t595.length) (c := co55) ?_).2.2; exact (have z0_ := HO597; have z1_ := BK604; Zcl)); (case side2 => exact (Kd.R_reads' HO597.out).2.1); (case side3 => refine (Kd.R_reads' (e := 92) (base := w.heap.size) (ok := fun k_ => True) (n := t598.length) (c := co60) ?_).2.2; exact (have z0_ := HO600; have z1_ := BK604; Zcl)); (case side4 => exact (Kd.R_reads' HO600.out).2.1); (case side5 => refine (Kd.R_reads' (e := 43) (base := w.heap.size) (ok := fun k_ => k_ ≠ gb592) (n := y605.length) (c := co65) ?_).2.2; exact (have z0_ := HO607; have z1_ := BK604; Zcl)); (case side6 => exact (Kd.R_reads' HO607.out).2.1); rintro e w67 ⟨rfl, hb⟩; refine ⟨_, rfl, ?_⟩; replace HO597 := am_ (Kd.R_below (have z0_ := HO597; have z1_ := BK604; Zcl) hb); replace HO600 := am_ (Kd.R_below (have z0_ := HO600; have z1_ := BK604; Zcl) hb); replace HO607 := am_ (Kd.R_below (have z0_ := HO607; have z1_ := BK604; Zcl) hb); replace BK591 := am_ (blk_below (g := gb591) (o := .cells #[.slice A0_0 l0_0.length c0_0, .slice A0_1 l0_1.length c0_1, .slice A0_2 l0_2.length c0_2] 32 (0, 0)) (have z0_ := NB591_604; have z1_ := BK591; Zaj) hb); replace BK592 := am_ (blk_below (g := gb592) (o := .cells #[.int .i64 a1_0, .int .i64 a1_1, .string a1_2, .int .i64 a1_3] 43 (0, 0)) (have z0_ := NB592_604; have z1_ := BK592; Zaj) hb); replace BK593 := am_ (blk_below (g := gb593) (o := .cells #[.slice none 0 0, .slice none 0 0, .slice none 0 0] 32 (0, 0)) (have z0_ := NB593_604; have z1_ := BK593; Zaj) hb); replace BK604 := am_ (blk_below (g := gb604) (o := .cells #[.slice Ao55 t595.length co55, .slice Ao60 t598.length co60, .slice Ao65 y605.length co65] 32 (0, 0)) (by (with_reducible repeat (first | refine blk_drewN ?_ _ | refine blk_drew ?_ | refine blk_alloc ?_ _)); refine blk_put (cs := #[.slice Ao55 t595.length co55, .slice Ao60 t598.length co60, .slice Ao61 t601.length co61]) ?_ 2 _ rfl; (with_reducible repeat (first | refine blk_drewN ?_ _ | refine blk_drew ?_ | refine blk_alloc ?_ _)); exact BK604.out) hb); replace HB := (bsZ (have z0_ := GE591; have z1_ := GE592; have z2_ := GE593; have z3_ := GE604; Zbj) hb); (try clear hb); (try clear hb2); (try clear hk); (try clear hi); refine ci3 BK593 ?_; intros))
     refine bodyPost_ret (results_ct rfl _ _ gb593 32 #[.slice none 0 0, .slice none 0 0, .slice none 0 0] (0, 0) _ rfl (have z0_ := BK593; Zbd) Try.underlying32 rfl Zj) rfl ?_; exact ⟨_, _, _, Zk, Zn, Zn, Zn, (have z0_ := GE591; have z1_ := GE592; have z2_ := GE593; have z3_ := GE604; Zbj)⟩
   ·rw [if_neg c17] at H
    exact absurd H (by simp)
 ·replace c4 := Bool.eq_false_iff.mpr c4
  subst c4
  have H1 : (some (([] : List (S108)), ([] : List (S92)), ([] : List (S43)), 1)) = some (r1, r2, r3, r4) := by rw [if_neg (show ¬ (false = true) by decide)] at H; exact H
  clear H; have H := H1; clear H1; simp only [Option.some.injEq, Prod.mk.injEq] at H; obtain ⟨rfl, rfl, rfl, rfl⟩ := H
  go_enter Try.func30, Try.ntmps30
  go_wp2_with (first | ((with_reducible refine gate_dst (N := 2) rfl ?_); refine boxZ 2 #[.slice A0_0 l0_0.length c0_0, .slice A0_1 l0_1.length c0_1, .slice A0_2 l0_2.length c0_2] 32 ?_; intro gb591 hg w69 hbox hb; replace BK591 := am_ (hbox); replace GW591 := am_ ((Zc : w.heap.size ≤ gb591)); replace GE591 := GW591; replace HB := (bsZ Zd hb); clear hb hbox hg) | ((with_reducible refine gate_dst (N := 3) rfl ?_); refine boxZ 3 #[.int .i64 a1_0, .int .i64 a1_1, .string a1_2, .int .i64 a1_3] 43 ?_; intro gb592 hg w70 hbox hb; replace BK592 := am_ (hbox); replace GW592 := am_ (((have z0_ := GE591; Ze) : w.heap.size ≤ gb592)); replace GE592 := GW592; replace HB := (bsZ (have z0_ := GE591; Zf) hb); replace NB591_592 := am_ (((have z0_ := BK591; Zbz) : gb591 ≠ gb592)); replace NB592_591 := am_ (((have z0_ := BK591; Zca) : gb592 ≠ gb591)); replace BK591 := (have z0_ := BK591; bkZ hb); clear hb hbox hg) | ((with_reducible refine gate_dst (N := 4) rfl ?_); refine boxZ 4 #[.slice none 0 0, .slice none 0 0, .slice none 0 0] 32 ?_; intro gb593 hg w71 hbox hb; replace BK593 := am_ (hbox); replace GW593 := am_ (((have z0_ := GE591; have z1_ := GE592; Zh) : w.heap.size ≤ gb593)); replace GE593 := GW593; replace HB := (bsZ (have z0_ := GE591; have z1_ := GE592; Zi) hb); replace NB591_593 := am_ (((have z0_ := BK591; Zbz) : gb591 ≠ gb593)); replace NB593_591 := am_ (((have z0_ := BK591; Zca) : gb593 ≠ gb591)); replace BK591 := (have z0_ := BK591; bkZ hb); replace NB592_593 := am_ (((have z0_ := BK592; Zcb) : gb592 ≠ gb593)); replace NB593_592 := am_ (((have z0_ := BK592; Zcc) : gb593 ≠ gb592)); replace BK592 := (have z0_ := BK592; bkZ hb); clear hb hbox hg; have hnb72 := NB591_592.out; have hnc72 := NB592_591.out; have hnb73 := NB591_593.out; have hnc73 := NB593_591.out; refine ci3 BK591 ?_; intros) | ((with_reducible refine gate_callee (f := 37) rfl ?_); refine goesL_ (some 8) rfl rfl Try.func37 Zj rfl #[.agg #[.slice A0_0 l0_0.length c0_0, .slice A0_1 l0_1.length c0_1, .slice A0_2 l0_2.length c0_2]] rfl Zo ?_; (with_reducible refine (impl_IsShow.calls k _ _ l0_0 _ _ l0_1 _ _ l0_2 false _ ?side1 ?side2 ?side3 ?side4 ?side5 ?side6 A3.out).mono ?_); (case side1 => exact (have z0_ := HR0_0; Zae)); (case side2 => exact HC0_0.out); (case side3 => exact (have z0_ := HR0_1; Zae)); (case side4 => exact HC0_1.out); (case side5 => exact (have z0_ := HR0_2; Zae)); (case side6 => exact HC0_2.out); rintro e w75 ⟨rfl, hb⟩; refine ⟨_, rfl, ?_⟩; replace BK591 := (have z0_ := BK591; bkZ hb); replace BK592 := (have z0_ := BK592; bkZ hb); replace BK593 := (have z0_ := BK593; bkZ hb); replace HB := (bsZ (have z0_ := GE591; have z1_ := GE592; have z2_ := GE593; Zl) hb); (try clear hb); (try clear hb2); (try clear hk); (try clear hi); have hnb76 := NB593_592.out; have hnc76 := NB592_593.out; refine ci3 BK593 ?_; intros))
  refine bodyPost_ret (results_ct rfl _ _ gb593 32 #[.slice none 0 0, .slice none 0 0, .slice none 0 0] (0, 0) _ rfl (have z0_ := BK593; Zbd) Try.underlying32 rfl Zj) rfl ?_; exact ⟨_, _, _, Zk, Zn, Zn, Zn, (have z0_ := GE591; have z1_ := GE592; have z2_ := GE593; Zl)⟩
end Go.Proofs.Ytnlbaflbhicooaa.F
