import Derived.Test.YtgboijlipcimkaaF0
import Derived.Test.YtgboijlipcimkaaFimplArePieces
import Derived.Test.YtgboijlipcimkaaFimpl0isDelay
import Derived.Test.YtgboijlipcimkaaFimpl0fewestPieces
import Derived.Test.YtgboijlipcimkaaFimpl0abs
namespace Go.Proofs.Ytgboijlipcimkaa.F
open Go.RowKit Go.Proofs.YtgboijlipcimkaaW.PrintWords Go.Proofs.YtgboijlipcimkaaW.PrintLast Go.Proofs.YtgboijlipcimkaaW.PrintMore
attribute [local go_sem] max2_int min2_int max_two min_two max_three min_three max_four min_four   -- for this text's walks alone
set_option linter.unusedVariables false
set_option linter.unusedSimpArgs false

/-! ### impl_NearestMix: function 6 -/
def impl_NearestMix.l0 : Nat → Int → Int → List Int → Int → Int → Option (Int × Int)
 | 0, _, _, _, _, _ => none
 | k + 1, x1, x6, x16, x17, x18 => if x18 < x17 then (if 0 ≤ x18 then (if x18 < (x16.length : Int) then (if (rd x16 x18) ≤ 30 then ((impl_abs.f (wrap64 (x18 - x1))).bind fun t158 => ((impl_abs.f (wrap64 (x6 - x1))).bind fun t159 => (if t158 < t159 then (impl_NearestMix.l0 k x1 x18 x16 x17 (wrap64 (x18 + 1))) else (impl_NearestMix.l0 k x1 x6 x16 x17 (wrap64 (x18 + 1)))))) else (impl_NearestMix.l0 k x1 x6 x16 x17 (wrap64 (x18 + 1)))) else (none)) else (none)) else (some (x6, 0))
def impl_NearestMix.f (k : Nat) (l0 : List Int) (a1 : Int) : Option (Int × Int) := (impl_ArePieces.f k l0).bind fun t152 => (if t152 = true then ((impl_isDelay.f a1).bind fun t153 => (if t153 = true then ((impl_fewestPieces.f k l0).bind fun t154 => (impl_NearestMix.l0 k a1 0 t154 (t154.length : Int) 0)) else (some (0, 2)))) else (some (0, 1)))
theorem impl_NearestMix.mono_l : ∀ k, (∀ y0 y1 y2 y3 y4, LeO (impl_NearestMix.l0 k y0 y1 y2 y3 y4) (impl_NearestMix.l0 (k + 1) y0 y1 y2 y3 y4))
 | 0 => fun _ _ _ _ _ r h => by simp [impl_NearestMix.l0] at h
 | k + 1 => by
  have ih0 := impl_NearestMix.mono_l k
  ·intro y0 y1 y2 y3 y4
   unfold impl_NearestMix.l0
   repeat' first
   | (with_reducible exact ih0 _ _ _ _ _)
   | (with_reducible exact impl_ArePieces.mono _ _)
   | (with_reducible exact impl_fewestPieces.mono _ _)
   | (with_reducible exact LeO.refl _)
   | (with_reducible exact LeO.none _)
   | (with_reducible refine LeO.ite ?_ ?_)
   | (with_reducible refine LeO.bind ?_ (fun _ => ?_))
   | exact ih0 _ _ _ _ _
   | exact impl_ArePieces.mono _ _
   | exact impl_fewestPieces.mono _ _
   | exact LeO.none _
   | refine LeO.ite ?_ ?_
   | refine LeO.bind ?_ (fun _ => ?_)
theorem impl_NearestMix.mono : ∀ a0 a1 k, LeO (impl_NearestMix.f k a0 a1) (impl_NearestMix.f (k + 1) a0 a1) := by
 intro a0 a1 k
 have ih0 := impl_NearestMix.mono_l k
 unfold impl_NearestMix.f
 repeat' first
   | (with_reducible exact ih0 _ _ _ _ _)
   | (with_reducible exact impl_ArePieces.mono _ _)
   | (with_reducible exact impl_fewestPieces.mono _ _)
   | (with_reducible exact LeO.refl _)
   | (with_reducible exact LeO.none _)
   | (with_reducible refine LeO.ite ?_ ?_)
   | (with_reducible refine LeO.bind ?_ (fun _ => ?_))
   | exact ih0 _ _ _ _ _
   | exact impl_ArePieces.mono _ _
   | exact impl_fewestPieces.mono _ _
   | exact LeO.none _
   | refine LeO.ite ?_ ?_
   | refine LeO.bind ?_ (fun _ => ?_)
set_option maxHeartbeats 8000000 in
set_option maxRecDepth 100000 in
theorem impl_NearestMix.calls (k : Nat) (A0 : Option Addr) (c0 : Nat) (l0 : List Int) (a1 : Int) (r1 : Int) (r2 : Int) (w : World) (hr0 : Kd.C (Kd.int .i64) w A0 l0.length l0) (hc0 : l0.length ≤ c0) (h : impl_NearestMix.f k l0 a1 = some (r1, r2)) :
  Calls Try.prog 6 #[.slice A0 l0.length c0, .int .i64 a1] w fun e w' => e = .returned (.tuple #[.int .i64 r1, .int .i64 r2]) ∧ Below w.heap.size w w' := by
 have HR0 := Aside0.mk hr0
 have HC0 := Aside0.mk hc0
 clear hr0 hc0
 have HB := Aside0.mk (Below.refl w.heap.size w)
 have H : ((impl_ArePieces.f k l0).bind fun t152 => (if t152 = true then ((impl_isDelay.f a1).bind fun t153 => (if t153 = true then ((impl_fewestPieces.f k l0).bind fun t154 => (impl_NearestMix.l0 k a1 0 t154 (t154.length : Int) 0)) else (some (0, 2)))) else (some (0, 1)))) = some (r1, r2) := h
 clear h
 replace H := Option.bind_eq_some_iff.mp H
 obtain ⟨t152, A30, H⟩ := H
 replace H : (if t152 = true then ((impl_isDelay.f a1).bind fun t153 => (if t153 = true then ((impl_fewestPieces.f k l0).bind fun t154 => (impl_NearestMix.l0 k a1 0 t154 (t154.length : Int) 0)) else (some (0, 2)))) else (some (0, 1))) = some (r1, r2) := H
 have A3 := Aside0.mk A30
 clear A30
 have HS_ := Aside0.mk H
 clear H
 go_enter Try.func6, Try.ntmps6
 go_wp2_with (first | ((with_reducible refine gate_callee (f := 11) rfl ?_); refine goesL_ (some 10) rfl rfl Try.func11 (by kernel_rfl) rfl #[.slice A0 l0.length c0] rfl (by (try simp only [List.map_toArray, List.map_cons, List.map_nil]); first | done | rfl | (simp only [List.length_drop, List.length_take]; rfl)) ?_; (with_reducible refine (impl_ArePieces.calls k _ _ l0 t152 _ ?side1 ?side2 A3.out).mono ?_); (case side1 => repeat (first | exact HR0.out | (with_reducible refine Kd.C_alloc ?_ _) | (with_reducible refine Kd.C_drewN ?_ _) | (with_reducible refine Kd.C_drew ?_))); (case side2 => exact HC0.out); rintro e w' ⟨rfl, ⟨nd, rfl⟩⟩; refine ⟨_, rfl, ?_⟩; refine ?roundEnd))
 case roundEnd =>
  by_cases c4 : t152 = true
  ·have H := HS_.out
   clear HS_
   subst c4
   have H1 : ((impl_isDelay.f a1).bind fun t153 => (if t153 = true then ((impl_fewestPieces.f k l0).bind fun t154 => (impl_NearestMix.l0 k a1 0 t154 (t154.length : Int) 0)) else (some (0, 2)))) = some (r1, r2) := by rw [if_pos rfl] at H; exact H
   clear H
   have H := H1
   clear H1
   replace H := Option.bind_eq_some_iff.mp H
   obtain ⟨t153, A50, H⟩ := H
   replace H : (if t153 = true then ((impl_fewestPieces.f k l0).bind fun t154 => (impl_NearestMix.l0 k a1 0 t154 (t154.length : Int) 0)) else (some (0, 2))) = some (r1, r2) := H
   have A5 := Aside0.mk A50
   clear A50
   have HS_ := Aside0.mk H
   clear H
   go_wp2_with (first | ((with_reducible refine gate_callee (f := 12) rfl ?_); refine goesL_ (some 13) rfl rfl Try.func12 (by kernel_rfl) rfl #[.int .i64 a1] rfl (by (try simp only [List.map_toArray, List.map_cons, List.map_nil]); first | done | rfl | (simp only [List.length_drop, List.length_take]; rfl)) ?_; (with_reducible refine (impl_isDelay.calls a1 t153 _ A5.out).mono ?_); rintro e w' ⟨rfl, ⟨nd, rfl⟩⟩; refine ⟨_, rfl, ?_⟩; refine ?roundEnd))
   case roundEnd =>
    by_cases c6 : t153 = true
    ·have H := HS_.out
     clear HS_
     subst c6
     have H1 : ((impl_fewestPieces.f k l0).bind fun t154 => (impl_NearestMix.l0 k a1 0 t154 (t154.length : Int) 0)) = some (r1, r2) := by rw [if_pos rfl] at H; exact H
     clear H
     have H := H1
     clear H1
     replace H := Option.bind_eq_some_iff.mp H
     obtain ⟨t154, A70, H⟩ := H
     replace H : (impl_NearestMix.l0 k a1 0 t154 (t154.length : Int) 0) = some (r1, r2) := H
     have A7 := Aside0.mk A70
     clear A70
     have H' := Aside0.mk H
     clear H
     go_wp2_with (first | ((with_reducible refine gate_callee (f := 13) rfl ?_); refine goesL_ (some 16) rfl rfl Try.func13 (by kernel_rfl) rfl #[.slice A0 l0.length c0] rfl (by (try simp only [List.map_toArray, List.map_cons, List.map_nil]); first | done | rfl | (simp only [List.length_drop, List.length_take]; rfl)) ?_; (with_reducible refine (impl_fewestPieces.calls k _ _ l0 t154 _ ?side1 ?side2 A7.out).mono ?_); (case side1 => repeat (first | exact HR0.out | (with_reducible refine Kd.C_alloc ?_ _) | (with_reducible refine Kd.C_drewN ?_ _) | (with_reducible refine Kd.C_drew ?_))); (case side2 => exact HC0.out); rintro e w8 ⟨v155, rfl, ho0, hb⟩; refine ⟨_, rfl, ?_⟩; have n0_ := Aside0.mk (Kd.R_lower ho0 (below_size (by repeat (first | (with_reducible first | exact HB.out | apply below_alloc | apply pw_below_drewN | apply below_drew1) | exact HB.out)))); have n1_ := Aside0.mk (below_step (by repeat (first | (with_reducible first | exact HB.out | apply below_alloc | apply pw_below_drewN | apply below_drew1) | exact HB.out)) hb); clear HB; have HO156 := n0_; have HB := n1_; clear n0_ n1_; (try clear hb); (try clear hb2); (try clear hk); (try clear hi); (try clear ho0); obtain ⟨Ao9, co9, eo9⟩ := Kd.R_slice HO156.out; subst eo9))
     go_loopg [6, 18] k (fun kq v6 v18 w' => ∃ (x6_1 : Int) (x18_1 : Int), v6 = .int .i64 x6_1 ∧ v18 = .int .i64 x18_1 ∧ Aside0 (impl_NearestMix.l0 kq a1 x6_1 t154 (t154.length : Int) x18_1 = some (r1, r2)) ∧ Aside0 (kq ≤ k) ∧ Aside0 (Kd.R (Kd.int .i64) 2 w' w.heap.size (fun _ => True) (.slice Ao9 t154.length co9) t154) ∧ Aside0 (Below w.heap.size w w'))
     case atStart => exact ⟨(0), (0), (by first | rfl | (simp; done) | (simp [*]; done)), (by first | rfl | (simp; done) | (simp [*]; done)), H', ⟨Nat.le_refl _⟩, ⟨by (with_reducible repeat (first | apply Kd.R_alloc | apply Kd.R_drewN | apply Kd.R_drew)); exact HO156.out⟩, ⟨by repeat (first | (with_reducible first | exact HB.out | apply below_alloc | apply pw_below_drewN | apply below_drew1) | exact HB.out)⟩⟩
     case round =>
      clear H'
      try clear c1
      try clear p2
      try clear c4
      try clear c6
      obtain ⟨x6_1, x18_1, rfl, rfl, HA, HK1, HO_16, HB⟩ := hrel
      cases gk with
      | zero => exact absurd HA.out (by simp [impl_NearestMix.l0])
      | succ k1 =>
       have H := HA.out
       clear HA
       simp only [impl_NearestMix.l0] at H
       by_cases c10 : x18_1 < (t154.length : Int)
       ·rw [if_pos c10] at H
        have c10b0 : decide (x18_1 < (t154.length : Int)) = true := decide_eq_true c10
        clear c10
        by_cases c11 : 0 ≤ x18_1
        ·rw [if_pos c11] at H
         have c11b0 : decide (0 ≤ x18_1) = true := decide_eq_true c11
         clear c11
         by_cases c12 : x18_1 < (t154.length : Int)
         ·rw [if_pos c12] at H
          have c12b0 : decide (x18_1 < (t154.length : Int)) = true := decide_eq_true c12
          clear c12
          by_cases c13 : (rd t154 x18_1) ≤ 30
          ·rw [if_pos c13] at H
           have c13b0 : decide ((rd t154 x18_1) ≤ 30) = true := decide_eq_true c13
           clear c13
           replace H := Option.bind_eq_some_iff.mp H
           obtain ⟨t158, A140, H⟩ := H
           replace H : ((impl_abs.f (wrap64 (x6_1 - a1))).bind fun t159 => (if t158 < t159 then (impl_NearestMix.l0 k1 a1 x18_1 t154 (t154.length : Int) (wrap64 (x18_1 + 1))) else (impl_NearestMix.l0 k1 a1 x6_1 t154 (t154.length : Int) (wrap64 (x18_1 + 1))))) = some (r1, r2) := H
           have A14 := Aside0.mk A140
           clear A140
           replace H := Option.bind_eq_some_iff.mp H
           obtain ⟨t159, A150, H⟩ := H
           replace H : (if t158 < t159 then (impl_NearestMix.l0 k1 a1 x18_1 t154 (t154.length : Int) (wrap64 (x18_1 + 1))) else (impl_NearestMix.l0 k1 a1 x6_1 t154 (t154.length : Int) (wrap64 (x18_1 + 1)))) = some (r1, r2) := H
           have A15 := Aside0.mk A150
           clear A150
           have HS_ := Aside0.mk H
           clear H
           have p157 : 0 ≤ (x18_1 : Int) := of_decide_eq_true (by first | (with_reducible assumption) | assumption)
           have q157 : x18_1 < (t154.length : Int) := of_decide_eq_true (by first | (with_reducible assumption) | assumption)
           obtain ⟨ad157, e157, hx157_0⟩ := Kd.at_int (Kd.R_reads' HO_16.out).2.2 x18_1 p157 q157
           cases e157
           replace p157 := eq_true p157
           replace q157 := eq_true q157
           go_wp2_with (first | (go_at_call 14; (with_reducible refine (impl_abs.calls (wrap64 (x18_1 - a1)) t158 _ A14.out).mono ?_); rintro e w' ⟨rfl, ⟨nd, rfl⟩⟩) | (go_at_call 14; (with_reducible refine (impl_abs.calls (wrap64 (x6_1 - a1)) t159 _ A15.out).mono ?_); rintro e w' ⟨rfl, ⟨nd, rfl⟩⟩; refine ?roundEnd))
           case roundEnd =>
            by_cases c16 : t158 < t159
            ·have H := HS_.out
             clear HS_
             rw [if_pos c16] at H
             have c16b0 : decide (t158 < t159) = true := decide_eq_true c16
             clear c16
             have H' := Aside0.mk H
             clear H
             go_wp2_with (first | fail)
             go_roundg k1
             case measure => have := HK1.out; omega
             case rel => exact ⟨(x18_1), (wrap64 (x18_1 + 1)), (by first | rfl | (simp; done) | (simp [*]; done)), (by first | rfl | (simp; done) | (simp [*]; done)), H', ⟨by have := HK1.out; omega⟩, ⟨by (with_reducible repeat (first | apply Kd.R_alloc | apply Kd.R_drewN | apply Kd.R_drew)); exact HO_16.out⟩, ⟨by repeat (first | (with_reducible first | exact HB.out | apply below_alloc | apply pw_below_drewN | apply below_drew1) | exact HB.out)⟩⟩
            ·have H := HS_.out
             clear HS_
             rw [if_neg c16] at H
             have c16b0 : decide (t158 < t159) = false := decide_eq_false c16
             clear c16
             have H' := Aside0.mk H
             clear H
             go_wp2_with (first | fail)
             go_roundg k1
             case measure => have := HK1.out; omega
             case rel => exact ⟨(x6_1), (wrap64 (x18_1 + 1)), (by first | rfl | (simp; done) | (simp [*]; done)), (by first | rfl | (simp; done) | (simp [*]; done)), H', ⟨by have := HK1.out; omega⟩, ⟨by (with_reducible repeat (first | apply Kd.R_alloc | apply Kd.R_drewN | apply Kd.R_drew)); exact HO_16.out⟩, ⟨by repeat (first | (with_reducible first | exact HB.out | apply below_alloc | apply pw_below_drewN | apply below_drew1) | exact HB.out)⟩⟩
          ·rw [if_neg c13] at H
           have c13b0 : decide ((rd t154 x18_1) ≤ 30) = false := decide_eq_false c13
           clear c13
           have H' := Aside0.mk H
           clear H
           have p157 : 0 ≤ (x18_1 : Int) := of_decide_eq_true (by first | (with_reducible assumption) | assumption)
           have q157 : x18_1 < (t154.length : Int) := of_decide_eq_true (by first | (with_reducible assumption) | assumption)
           obtain ⟨ad157, e157, hx157_0⟩ := Kd.at_int (Kd.R_reads' HO_16.out).2.2 x18_1 p157 q157
           cases e157
           replace p157 := eq_true p157
           replace q157 := eq_true q157
           go_wp2
           go_roundg k1
           case measure => have := HK1.out; omega
           case rel => exact ⟨(x6_1), (wrap64 (x18_1 + 1)), (by first | rfl | (simp; done) | (simp [*]; done)), (by first | rfl | (simp; done) | (simp [*]; done)), H', ⟨by have := HK1.out; omega⟩, ⟨by (with_reducible repeat (first | apply Kd.R_alloc | apply Kd.R_drewN | apply Kd.R_drew)); exact HO_16.out⟩, ⟨by repeat (first | (with_reducible first | exact HB.out | apply below_alloc | apply pw_below_drewN | apply below_drew1) | exact HB.out)⟩⟩
         ·rw [if_neg c12] at H
          exact absurd H (by simp)
        ·rw [if_neg c11] at H
         exact absurd H (by simp)
       ·rw [if_neg c10] at H
        have c10b0 : decide (x18_1 < (t154.length : Int)) = false := decide_eq_false c10
        clear c10
        simp only [Option.some.injEq, Prod.mk.injEq] at H
        obtain ⟨rfl, rfl⟩ := H
        go_wp2
        go_ret2
        exact ⟨by first | rfl | (simp [errW_none, errW_some] <;> rfl) | (simp [*, errW_none, errW_some] <;> rfl), by repeat (first | (with_reducible first | exact HB.out | apply below_alloc | apply pw_below_drewN | apply below_drew1) | exact HB.out)⟩
    ·have H := HS_.out
     clear HS_
     replace c6 := Bool.eq_false_iff.mpr c6
     subst c6
     have H1 : (some (0, 2)) = some (r1, r2) := by rw [if_neg (show ¬ (false = true) by decide)] at H; exact H
     clear H
     have H := H1
     clear H1
     simp only [Option.some.injEq, Prod.mk.injEq] at H
     obtain ⟨rfl, rfl⟩ := H
     go_wp2_with (first | fail)
     go_ret2
     exact ⟨by first | rfl | (simp [errW_none, errW_some] <;> rfl) | (simp [*, errW_none, errW_some] <;> rfl), by repeat (first | (with_reducible first | exact HB.out | apply below_alloc | apply pw_below_drewN | apply below_drew1) | exact HB.out)⟩
  ·have H := HS_.out
   clear HS_
   replace c4 := Bool.eq_false_iff.mpr c4
   subst c4
   have H1 : (some (0, 1)) = some (r1, r2) := by rw [if_neg (show ¬ (false = true) by decide)] at H; exact H
   clear H
   have H := H1
   clear H1
   simp only [Option.some.injEq, Prod.mk.injEq] at H
   obtain ⟨rfl, rfl⟩ := H
   go_wp2_with (first | fail)
   go_ret2
   exact ⟨by first | rfl | (simp [errW_none, errW_some] <;> rfl) | (simp [*, errW_none, errW_some] <;> rfl), by repeat (first | (with_reducible first | exact HB.out | apply below_alloc | apply pw_below_drewN | apply below_drew1) | exact HB.out)⟩
end Go.Proofs.Ytgboijlipcimkaa.F
