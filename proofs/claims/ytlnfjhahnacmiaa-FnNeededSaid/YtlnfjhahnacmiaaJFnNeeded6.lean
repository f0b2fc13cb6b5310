import Derived.Test.YtlnfjhahnacmiaaJFnNeeded5
import Derived.Below
import Derived.Deep.Draws
import Derived.Deep.AppendLies
import Derived.Maps.AppendAt
import Derived.OwnWalk
import Derived.Laws.BytesArg
import Derived.Laws.MakeOwn
import Derived.Laws.OwnMore
import Derived.Tactics
import Derived.Lib.ConvBytes
import Derived.Laws.Slices
import Derived.WalkKit
import Derived.KernelRfl
import Derived.RowKit3
import Derived.Deep.LoopGhost
import Derived.Deep.QuietTactic
import Derived.BigQuiet
import Derived.WideLaws
import Derived.Deep.DeepCutAuto
import Derived.Deep.CutBlock
import Derived.Deep.RegionHeld3
import Derived.Lib.AppendStr
import Derived.ArgAppend
import Derived.Laws.IdiomCopy
import Derived.RowKit
import Derived.OrdersHeld
import Derived.Laws.BitsLemmas
import Derived.Laws.StructEq
import Derived.Test.YtlnfjhahnacmiaaProg
namespace Go.Proofs.Ytlnfjhahnacmiaa.F
open Go.RowKit Go.Proofs.YtlnfjhahnacmiaaW.PrintWords Go.Proofs.YtlnfjhahnacmiaaW.PrintLast Go.Proofs.YtlnfjhahnacmiaaW.PrintMore
attribute [local go_sem] max2_int min2_int max_two min_two max_three min_three max_four min_four   -- for this text's walks alone
set_option linter.unusedVariables false
set_option linter.unusedSimpArgs false
def spec_l01In.f (a0 : Int) (a1 : Int) (a2 : Int) : Option (Bool) := if a0 ≥ a1 then (some (decide (a0 ≤ a2))) else (some false)
set_option maxHeartbeats 8000000 in
set_option maxRecDepth 100000 in
theorem spec_l01In.calls (a0 : Int) (a1 : Int) (a2 : Int) (r : Bool) (w : World) (h : spec_l01In.f a0 a1 a2 = some r) :
  Calls Try.prog 47 #[.int .i64 a0, .int .i64 a1, .int .i64 a2] w fun e w' => e = .returned (.bool r) ∧ Drawn0 w w' := by
 have H : (if a0 ≥ a1 then (some (decide (a0 ≤ a2))) else (some false)) = some r := h
 clear h
 by_cases c4 : a0 ≥ a1
 ·rw [if_pos c4] at H
  have c4b0 : decide (a1 ≤ a0) = true := decide_eq_true c4
  clear c4
  obtain rfl := Option.some.inj H
  go_enter Try.func47, Try.ntmps47
  go_wp2
  go_ret
  exact ⟨by first | rfl | (simp; done) | (simp [*]; done), by repeat (first | exact Drawn0.refl _ | apply Drawn0.step)⟩
 ·rw [if_neg c4] at H
  have c4b0 : decide (a1 ≤ a0) = false := decide_eq_false c4
  clear c4
  obtain rfl := Option.some.inj H
  go_enter Try.func47, Try.ntmps47
  go_wp2
  go_ret
  exact ⟨by first | rfl | (simp; done) | (simp [*]; done), by repeat (first | exact Drawn0.refl _ | apply Drawn0.step)⟩
end Go.Proofs.Ytlnfjhahnacmiaa.F
namespace Go.Proofs.Ytlnfjhahnacmiaa.F
open Go.RowKit Go.Proofs.YtlnfjhahnacmiaaW.PrintWords Go.Proofs.YtlnfjhahnacmiaaW.PrintLast Go.Proofs.YtlnfjhahnacmiaaW.PrintMore
attribute [local go_sem] max2_int min2_int max_two min_two max_three min_three max_four min_four   -- for this text's walks alone
set_option linter.unusedVariables false
set_option linter.unusedSimpArgs false
def spec_AreFuses.l0 : Nat → Int → List (S39) → Int → Option (Bool)
 | 0, _, _, _ => none
 | k + 1, x0, x1, x5 => if x5 < (x1.length : Int) then (if 0 ≤ x5 then ((spec_l01In.f ((rd_T39 x1 x5).f0) 0 (wrap64 (x0 - 1))).bind fun t300 => (if t300 = true then ((spec_l01In.f ((rd_T39 x1 x5).f1) (wrap64 (((rd_T39 x1 x5).f0) + 1)) (wrap64 (x0 - 1))).bind fun t301 => (if t301 = true then ((spec_l01In.f ((rd_T39 x1 x5).f2) 0 100000).bind fun t302 => (if t302 = true then ((spec_l01In.f ((rd_T39 x1 x5).f3) ((rd_T39 x1 x5).f2) 100000).bind fun t303 => (if t303 = true then (spec_AreFuses.l0 k x0 x1 (wrap64 (x5 + 1))) else (some false))) else (some false))) else (some false))) else (some false))) else (none)) else ((spec_l01In.f x0 1 10).bind fun t297 => (if t297 = true then (some (decide ((x1.length : Int) ≤ 20))) else (some false)))
def spec_AreFuses.f (k : Nat) (a0 : Int) (l1 : List (S39)) : Option (Bool) := spec_AreFuses.l0 k a0 l1 0
theorem spec_AreFuses.mono_l : ∀ k, (∀ y0 y1 y2, LeO (spec_AreFuses.l0 k y0 y1 y2) (spec_AreFuses.l0 (k + 1) y0 y1 y2))
 | 0 => fun _ _ _ r h => by simp [spec_AreFuses.l0] at h
 | k + 1 => by
  have ih0 := spec_AreFuses.mono_l k
  ·intro y0 y1 y2
   unfold spec_AreFuses.l0
   repeat' first
   | (with_reducible exact ih0 _ _ _)
   | (with_reducible exact LeO.refl _)
   | (with_reducible exact LeO.none _)
   | (with_reducible refine LeO.ite ?_ ?_)
   | (with_reducible refine LeO.bind ?_ (fun _ => ?_))
   | exact ih0 _ _ _
   | exact LeO.none _
   | refine LeO.ite ?_ ?_
   | refine LeO.bind ?_ (fun _ => ?_)
theorem spec_AreFuses.mono : ∀ a0 a1 k, LeO (spec_AreFuses.f k a0 a1) (spec_AreFuses.f (k + 1) a0 a1) := by
 intro a0 a1 k
 have ih0 := spec_AreFuses.mono_l k
 unfold spec_AreFuses.f
 repeat' first
   | (with_reducible exact ih0 _ _ _)
   | (with_reducible exact LeO.refl _)
   | (with_reducible exact LeO.none _)
   | (with_reducible refine LeO.ite ?_ ?_)
   | (with_reducible refine LeO.bind ?_ (fun _ => ?_))
   | exact ih0 _ _ _
   | exact LeO.none _
   | refine LeO.ite ?_ ?_
   | refine LeO.bind ?_ (fun _ => ?_)
set_option maxHeartbeats 8000000 in
set_option maxRecDepth 100000 in
theorem spec_AreFuses.calls (k : Nat) (a0 : Int) (A1 : Option Addr) (c1 : Nat) (l1 : List (S39)) (r : Bool) (w : World) (hr1 : Kd.C k39 w A1 l1.length l1) (hc1 : l1.length ≤ c1) (h : spec_AreFuses.f k a0 l1 = some r) :
  Calls Try.prog 46 #[.int .i64 a0, .slice A1 l1.length c1] w fun e w' => e = .returned (.bool r) ∧ Below w.heap.size w w' := by
 have hu39 := Try.underlying39
 have HR1 := Aside0.mk hr1
 have HC1 := Aside0.mk hc1
 clear hr1 hc1
 have HB := Aside0.mk (Below.refl w.heap.size w)
 have H : (spec_AreFuses.l0 k a0 l1 0) = some r := h
 clear h
 have H' := Aside0.mk H
 clear H
 go_enter Try.func46, Try.ntmps46
 go_wp2
 go_loopg [5] k (fun kq v5 w' => ∃ (x5_1 : Int), v5 = .int .i64 x5_1 ∧ Aside0 (spec_AreFuses.l0 kq a0 l1 x5_1 = some r) ∧ Aside0 (kq ≤ k) ∧ Aside0 (Below w.heap.size w w'))
 case atStart => exact ⟨(0), (by first | rfl | (simp; done) | (simp [*]; done)), H', ⟨Nat.le_refl _⟩, ⟨by repeat (first | (with_reducible first | exact HB.out | apply below_alloc | apply pw_below_drewN | apply below_drew1) | exact HB.out)⟩⟩
 case round =>
  clear H'
  try clear c1
  try clear p2
  obtain ⟨x5_1, rfl, HA, HK1, HB⟩ := hrel
  cases gk with
  | zero => exact absurd HA.out (by simp [spec_AreFuses.l0])
  | succ k1 =>
   have H := HA.out
   clear HA
   simp only [spec_AreFuses.l0] at H
   by_cases c3 : x5_1 < (l1.length : Int)
   ·rw [if_pos c3] at H
    have c3b0 : decide (x5_1 < (l1.length : Int)) = true := decide_eq_true c3
    clear c3
    by_cases c4 : 0 ≤ x5_1
    ·rw [if_pos c4] at H
     have c4b0 : decide (0 ≤ x5_1) = true := decide_eq_true c4
     clear c4
     replace H := Option.bind_eq_some_iff.mp H
     obtain ⟨t300, A50, H⟩ := H
     replace H : (if t300 = true then ((spec_l01In.f ((rd_T39 l1 x5_1).f1) (wrap64 (((rd_T39 l1 x5_1).f0) + 1)) (wrap64 (a0 - 1))).bind fun t301 => (if t301 = true then ((spec_l01In.f ((rd_T39 l1 x5_1).f2) 0 100000).bind fun t302 => (if t302 = true then ((spec_l01In.f ((rd_T39 l1 x5_1).f3) ((rd_T39 l1 x5_1).f2) 100000).bind fun t303 => (if t303 = true then (spec_AreFuses.l0 k1 a0 l1 (wrap64 (x5_1 + 1))) else (some false))) else (some false))) else (some false))) else (some false)) = some r := H
     have A5 := Aside0.mk A50
     clear A50
     by_cases c6 : t300 = true
     ·subst c6
      have H1 : ((spec_l01In.f ((rd_T39 l1 x5_1).f1) (wrap64 (((rd_T39 l1 x5_1).f0) + 1)) (wrap64 (a0 - 1))).bind fun t301 => (if t301 = true then ((spec_l01In.f ((rd_T39 l1 x5_1).f2) 0 100000).bind fun t302 => (if t302 = true then ((spec_l01In.f ((rd_T39 l1 x5_1).f3) ((rd_T39 l1 x5_1).f2) 100000).bind fun t303 => (if t303 = true then (spec_AreFuses.l0 k1 a0 l1 (wrap64 (x5_1 + 1))) else (some false))) else (some false))) else (some false))) = some r := by rw [if_pos rfl] at H; exact H
      clear H
      have H := H1
      clear H1
      replace H := Option.bind_eq_some_iff.mp H
      obtain ⟨t301, A70, H⟩ := H
      replace H : (if t301 = true then ((spec_l01In.f ((rd_T39 l1 x5_1).f2) 0 100000).bind fun t302 => (if t302 = true then ((spec_l01In.f ((rd_T39 l1 x5_1).f3) ((rd_T39 l1 x5_1).f2) 100000).bind fun t303 => (if t303 = true then (spec_AreFuses.l0 k1 a0 l1 (wrap64 (x5_1 + 1))) else (some false))) else (some false))) else (some false)) = some r := H
      have A7 := Aside0.mk A70
      clear A70
      by_cases c8 : t301 = true
      ·subst c8
       have H1 : ((spec_l01In.f ((rd_T39 l1 x5_1).f2) 0 100000).bind fun t302 => (if t302 = true then ((spec_l01In.f ((rd_T39 l1 x5_1).f3) ((rd_T39 l1 x5_1).f2) 100000).bind fun t303 => (if t303 = true then (spec_AreFuses.l0 k1 a0 l1 (wrap64 (x5_1 + 1))) else (some false))) else (some false))) = some r := by rw [if_pos rfl] at H; exact H
       clear H
       have H := H1
       clear H1
       replace H := Option.bind_eq_some_iff.mp H
       obtain ⟨t302, A90, H⟩ := H
       replace H : (if t302 = true then ((spec_l01In.f ((rd_T39 l1 x5_1).f3) ((rd_T39 l1 x5_1).f2) 100000).bind fun t303 => (if t303 = true then (spec_AreFuses.l0 k1 a0 l1 (wrap64 (x5_1 + 1))) else (some false))) else (some false)) = some r := H
       have A9 := Aside0.mk A90
       clear A90
       by_cases c10 : t302 = true
       ·subst c10
        have H1 : ((spec_l01In.f ((rd_T39 l1 x5_1).f3) ((rd_T39 l1 x5_1).f2) 100000).bind fun t303 => (if t303 = true then (spec_AreFuses.l0 k1 a0 l1 (wrap64 (x5_1 + 1))) else (some false))) = some r := by rw [if_pos rfl] at H; exact H
        clear H
        have H := H1
        clear H1
        replace H := Option.bind_eq_some_iff.mp H
        obtain ⟨t303, A110, H⟩ := H
        replace H : (if t303 = true then (spec_AreFuses.l0 k1 a0 l1 (wrap64 (x5_1 + 1))) else (some false)) = some r := H
        have A11 := Aside0.mk A110
        clear A110
        by_cases c12 : t303 = true
        ·subst c12
         have H1 : (spec_AreFuses.l0 k1 a0 l1 (wrap64 (x5_1 + 1))) = some r := by rw [if_pos rfl] at H; exact H
         clear H
         have H := H1
         clear H1
         have H' := Aside0.mk H
         clear H
         have p298 : 0 ≤ (x5_1 : Int) := of_decide_eq_true (by first | (with_reducible assumption) | assumption)
         have q298 : x5_1 < (l1.length : Int) := of_decide_eq_true (by first | (with_reducible assumption) | assumption)
         obtain ⟨ad298, e298, hx298_0, hx298_1, hx298_2, hx298_3⟩ := at_T39 HR1.out x5_1 p298 q298
         cases e298
         replace hx298_0 := (HB.out.cell (World.block_lt_of_cell? w _ hx298_0)).trans hx298_0
         replace hx298_1 := (HB.out.cell (World.block_lt_of_cell? w _ hx298_1)).trans hx298_1
         replace hx298_2 := (HB.out.cell (World.block_lt_of_cell? w _ hx298_2)).trans hx298_2
         replace hx298_3 := (HB.out.cell (World.block_lt_of_cell? w _ hx298_3)).trans hx298_3
         replace p298 := eq_true p298
         replace q298 := eq_true q298
         go_wp2_with (first | ((with_reducible refine gate_dst (N := 6) rfl ?_); (try (refine gate_guard (by rfl) ?_; dsimp only)); refine box_event ?hg (N := 6) ?hd (cs := #[.int .i64 0, .int .i64 0, .int .i64 0, .int .i64 0]) (t := 39) ?hr ?_; (case hd => rfl); (case hg => rfl); (case hr => first | (go_simp; done) | (go_simp; rfl)); intro gb299 hg w13 hbox hb; have n0_ := Aside0.mk (below_step (by repeat (first | (with_reducible first | exact HB.out | apply below_alloc | apply pw_below_drewN | apply below_drew1) | exact HB.out)) hb); have n1_ := Aside0.mk (hbox); have n2_ := Aside0.mk ((by rw [hg]; exact (below_size (by repeat (first | (with_reducible first | exact HB.out | apply below_alloc | apply pw_below_drewN | apply below_drew1) | exact HB.out))) : w.heap.size ≤ gb299)); have n3_ := Aside0.mk ((by rw [hg]; exact (below_size (by repeat (first | (with_reducible first | exact HB.out | apply below_alloc | apply pw_below_drewN | apply below_drew1) | exact HB.out))) : w.heap.size ≤ gb299)); clear HB; have HB := n0_; have BK299 := n1_; have GW299 := n2_; have GE299 := n3_; clear n0_ n1_ n2_ n3_; clear hb hbox hg; have hcz14_0 : w13.cell? ⟨gb299, 0, none⟩ = some (.int .i64 0) := (blk_cell BK299.out 0).trans rfl; have hcz14_1 : w13.cell? ⟨gb299, 1, none⟩ = some (.int .i64 0) := (blk_cell BK299.out 1).trans rfl; have hcz14_2 : w13.cell? ⟨gb299, 2, none⟩ = some (.int .i64 0) := (blk_cell BK299.out 2).trans rfl; have hcz14_3 : w13.cell? ⟨gb299, 3, none⟩ = some (.int .i64 0) := (blk_cell BK299.out 3).trans rfl; have hfz14_0 := blk_frozen BK299.out 0; have hfz14_1 := blk_frozen BK299.out 1; have hfz14_2 := blk_frozen BK299.out 2; have hfz14_3 := blk_frozen BK299.out 3) | ((with_reducible refine gate_callee (f := 47) rfl ?_); refine goesL_ (some 21) rfl rfl Try.func47 (by kernel_rfl) rfl #[.int .i64 ((rd_T39 l1 x5_1).f0), .int .i64 0, .int .i64 (wrap64 (a0 - 1))] rfl (by (try simp only [List.map_toArray, List.map_cons, List.map_nil]); first | done | rfl | (simp only [List.length_drop, List.length_take]; rfl)) ?_; (with_reducible refine (spec_l01In.calls ((rd_T39 l1 x5_1).f0) 0 (wrap64 (a0 - 1)) true _ A5.out).mono ?_); rintro e w' ⟨rfl, ⟨nd, rfl⟩⟩; refine ⟨_, rfl, ?_⟩) | (go_at_call 47; (with_reducible refine (spec_l01In.calls ((rd_T39 l1 x5_1).f1) (wrap64 (((rd_T39 l1 x5_1).f0) + 1)) (wrap64 (a0 - 1)) true _ A7.out).mono ?_); rintro e w' ⟨rfl, ⟨nd, rfl⟩⟩) | (go_at_call 47; (with_reducible refine (spec_l01In.calls ((rd_T39 l1 x5_1).f2) 0 100000 true _ A9.out).mono ?_); rintro e w' ⟨rfl, ⟨nd, rfl⟩⟩) | (go_at_call 47; (with_reducible refine (spec_l01In.calls ((rd_T39 l1 x5_1).f3) ((rd_T39 l1 x5_1).f2) 100000 true _ A11.out).mono ?_); rintro e w' ⟨rfl, ⟨nd, rfl⟩⟩))
         go_roundg k1
         case measure => have := HK1.out; omega
         case rel => exact ⟨(wrap64 (x5_1 + 1)), (by first | rfl | (simp; done) | (simp [*]; done)), H', ⟨by have := HK1.out; omega⟩, ⟨by repeat (first | (with_reducible first | exact HB.out | apply below_alloc | apply pw_below_drewN | apply below_drew1 | refine below_set ?_ GE299.out) | exact HB.out)⟩⟩
        ·replace c12 := Bool.eq_false_iff.mpr c12
         subst c12
         have H1 : (some false) = some r := by rw [if_neg (show ¬ (false = true) by decide)] at H; exact H
         clear H
         have H := H1
         clear H1
         obtain rfl := Option.some.inj H
         have p298 : 0 ≤ (x5_1 : Int) := of_decide_eq_true (by first | (with_reducible assumption) | assumption)
         have q298 : x5_1 < (l1.length : Int) := of_decide_eq_true (by first | (with_reducible assumption) | assumption)
         obtain ⟨ad298, e298, hx298_0, hx298_1, hx298_2, hx298_3⟩ := at_T39 HR1.out x5_1 p298 q298
         cases e298
         replace hx298_0 := (HB.out.cell (World.block_lt_of_cell? w _ hx298_0)).trans hx298_0
         replace hx298_1 := (HB.out.cell (World.block_lt_of_cell? w _ hx298_1)).trans hx298_1
         replace hx298_2 := (HB.out.cell (World.block_lt_of_cell? w _ hx298_2)).trans hx298_2
         replace hx298_3 := (HB.out.cell (World.block_lt_of_cell? w _ hx298_3)).trans hx298_3
         replace p298 := eq_true p298
         replace q298 := eq_true q298
         go_wp2_with (first | ((with_reducible refine gate_dst (N := 6) rfl ?_); (try (refine gate_guard (by rfl) ?_; dsimp only)); refine box_event ?hg (N := 6) ?hd (cs := #[.int .i64 0, .int .i64 0, .int .i64 0, .int .i64 0]) (t := 39) ?hr ?_; (case hd => rfl); (case hg => rfl); (case hr => first | (go_simp; done) | (go_simp; rfl)); intro gb299 hg w15 hbox hb; have n0_ := Aside0.mk (below_step (by repeat (first | (with_reducible first | exact HB.out | apply below_alloc | apply pw_below_drewN | apply below_drew1) | exact HB.out)) hb); have n1_ := Aside0.mk (hbox); have n2_ := Aside0.mk ((by rw [hg]; exact (below_size (by repeat (first | (with_reducible first | exact HB.out | apply below_alloc | apply pw_below_drewN | apply below_drew1) | exact HB.out))) : w.heap.size ≤ gb299)); have n3_ := Aside0.mk ((by rw [hg]; exact (below_size (by repeat (first | (with_reducible first | exact HB.out | apply below_alloc | apply pw_below_drewN | apply below_drew1) | exact HB.out))) : w.heap.size ≤ gb299)); clear HB; have HB := n0_; have BK299 := n1_; have GW299 := n2_; have GE299 := n3_; clear n0_ n1_ n2_ n3_; clear hb hbox hg; have hcz16_0 : w15.cell? ⟨gb299, 0, none⟩ = some (.int .i64 0) := (blk_cell BK299.out 0).trans rfl; have hcz16_1 : w15.cell? ⟨gb299, 1, none⟩ = some (.int .i64 0) := (blk_cell BK299.out 1).trans rfl; have hcz16_2 : w15.cell? ⟨gb299, 2, none⟩ = some (.int .i64 0) := (blk_cell BK299.out 2).trans rfl; have hcz16_3 : w15.cell? ⟨gb299, 3, none⟩ = some (.int .i64 0) := (blk_cell BK299.out 3).trans rfl; have hfz16_0 := blk_frozen BK299.out 0; have hfz16_1 := blk_frozen BK299.out 1; have hfz16_2 := blk_frozen BK299.out 2; have hfz16_3 := blk_frozen BK299.out 3) | ((with_reducible refine gate_callee (f := 47) rfl ?_); refine goesL_ (some 21) rfl rfl Try.func47 (by kernel_rfl) rfl #[.int .i64 ((rd_T39 l1 x5_1).f0), .int .i64 0, .int .i64 (wrap64 (a0 - 1))] rfl (by (try simp only [List.map_toArray, List.map_cons, List.map_nil]); first | done | rfl | (simp only [List.length_drop, List.length_take]; rfl)) ?_; (with_reducible refine (spec_l01In.calls ((rd_T39 l1 x5_1).f0) 0 (wrap64 (a0 - 1)) true _ A5.out).mono ?_); rintro e w' ⟨rfl, ⟨nd, rfl⟩⟩; refine ⟨_, rfl, ?_⟩) | (go_at_call 47; (with_reducible refine (spec_l01In.calls ((rd_T39 l1 x5_1).f1) (wrap64 (((rd_T39 l1 x5_1).f0) + 1)) (wrap64 (a0 - 1)) true _ A7.out).mono ?_); rintro e w' ⟨rfl, ⟨nd, rfl⟩⟩) | (go_at_call 47; (with_reducible refine (spec_l01In.calls ((rd_T39 l1 x5_1).f2) 0 100000 true _ A9.out).mono ?_); rintro e w' ⟨rfl, ⟨nd, rfl⟩⟩) | (go_at_call 47; (with_reducible refine (spec_l01In.calls ((rd_T39 l1 x5_1).f3) ((rd_T39 l1 x5_1).f2) 100000 false _ A11.out).mono ?_); rintro e w' ⟨rfl, ⟨nd, rfl⟩⟩))
         go_ret
         exact ⟨by first | rfl | (simp [errW_none, errW_some] <;> rfl) | (simp [*, errW_none, errW_some] <;> rfl), by repeat (first | (with_reducible first | exact HB.out | apply below_alloc | apply pw_below_drewN | apply below_drew1 | refine below_set ?_ GE299.out) | exact HB.out)⟩
       ·replace c10 := Bool.eq_false_iff.mpr c10
        subst c10
        have H1 : (some false) = some r := by rw [if_neg (show ¬ (false = true) by decide)] at H; exact H
        clear H
        have H := H1
        clear H1
        obtain rfl := Option.some.inj H
        have p298 : 0 ≤ (x5_1 : Int) := of_decide_eq_true (by first | (with_reducible assumption) | assumption)
        have q298 : x5_1 < (l1.length : Int) := of_decide_eq_true (by first | (with_reducible assumption) | assumption)
        obtain ⟨ad298, e298, hx298_0, hx298_1, hx298_2, hx298_3⟩ := at_T39 HR1.out x5_1 p298 q298
        cases e298
        replace hx298_0 := (HB.out.cell (World.block_lt_of_cell? w _ hx298_0)).trans hx298_0
        replace hx298_1 := (HB.out.cell (World.block_lt_of_cell? w _ hx298_1)).trans hx298_1
        replace hx298_2 := (HB.out.cell (World.block_lt_of_cell? w _ hx298_2)).trans hx298_2
        replace hx298_3 := (HB.out.cell (World.block_lt_of_cell? w _ hx298_3)).trans hx298_3
        replace p298 := eq_true p298
        replace q298 := eq_true q298
        go_wp2_with (first | ((with_reducible refine gate_dst (N := 6) rfl ?_); (try (refine gate_guard (by rfl) ?_; dsimp only)); refine box_event ?hg (N := 6) ?hd (cs := #[.int .i64 0, .int .i64 0, .int .i64 0, .int .i64 0]) (t := 39) ?hr ?_; (case hd => rfl); (case hg => rfl); (case hr => first | (go_simp; done) | (go_simp; rfl)); intro gb299 hg w17 hbox hb; have n0_ := Aside0.mk (below_step (by repeat (first | (with_reducible first | exact HB.out | apply below_alloc | apply pw_below_drewN | apply below_drew1) | exact HB.out)) hb); have n1_ := Aside0.mk (hbox); have n2_ := Aside0.mk ((by rw [hg]; exact (below_size (by repeat (first | (with_reducible first | exact HB.out | apply below_alloc | apply pw_below_drewN | apply below_drew1) | exact HB.out))) : w.heap.size ≤ gb299)); have n3_ := Aside0.mk ((by rw [hg]; exact (below_size (by repeat (first | (with_reducible first | exact HB.out | apply below_alloc | apply pw_below_drewN | apply below_drew1) | exact HB.out))) : w.heap.size ≤ gb299)); clear HB; have HB := n0_; have BK299 := n1_; have GW299 := n2_; have GE299 := n3_; clear n0_ n1_ n2_ n3_; clear hb hbox hg; have hcz18_0 : w17.cell? ⟨gb299, 0, none⟩ = some (.int .i64 0) := (blk_cell BK299.out 0).trans rfl; have hcz18_1 : w17.cell? ⟨gb299, 1, none⟩ = some (.int .i64 0) := (blk_cell BK299.out 1).trans rfl; have hcz18_2 : w17.cell? ⟨gb299, 2, none⟩ = some (.int .i64 0) := (blk_cell BK299.out 2).trans rfl; have hcz18_3 : w17.cell? ⟨gb299, 3, none⟩ = some (.int .i64 0) := (blk_cell BK299.out 3).trans rfl; have hfz18_0 := blk_frozen BK299.out 0; have hfz18_1 := blk_frozen BK299.out 1; have hfz18_2 := blk_frozen BK299.out 2; have hfz18_3 := blk_frozen BK299.out 3) | ((with_reducible refine gate_callee (f := 47) rfl ?_); refine goesL_ (some 21) rfl rfl Try.func47 (by kernel_rfl) rfl #[.int .i64 ((rd_T39 l1 x5_1).f0), .int .i64 0, .int .i64 (wrap64 (a0 - 1))] rfl (by (try simp only [List.map_toArray, List.map_cons, List.map_nil]); first | done | rfl | (simp only [List.length_drop, List.length_take]; rfl)) ?_; (with_reducible refine (spec_l01In.calls ((rd_T39 l1 x5_1).f0) 0 (wrap64 (a0 - 1)) true _ A5.out).mono ?_); rintro e w' ⟨rfl, ⟨nd, rfl⟩⟩; refine ⟨_, rfl, ?_⟩) | (go_at_call 47; (with_reducible refine (spec_l01In.calls ((rd_T39 l1 x5_1).f1) (wrap64 (((rd_T39 l1 x5_1).f0) + 1)) (wrap64 (a0 - 1)) true _ A7.out).mono ?_); rintro e w' ⟨rfl, ⟨nd, rfl⟩⟩) | (go_at_call 47; (with_reducible refine (spec_l01In.calls ((rd_T39 l1 x5_1).f2) 0 100000 false _ A9.out).mono ?_); rintro e w' ⟨rfl, ⟨nd, rfl⟩⟩))
        go_ret
        exact ⟨by first | rfl | (simp [errW_none, errW_some] <;> rfl) | (simp [*, errW_none, errW_some] <;> rfl), by repeat (first | (with_reducible first | exact HB.out | apply below_alloc | apply pw_below_drewN | apply below_drew1 | refine below_set ?_ GE299.out) | exact HB.out)⟩
      ·replace c8 := Bool.eq_false_iff.mpr c8
       subst c8
       have H1 : (some false) = some r := by rw [if_neg (show ¬ (false = true) by decide)] at H; exact H
       clear H
       have H := H1
       clear H1
       obtain rfl := Option.some.inj H
       have p298 : 0 ≤ (x5_1 : Int) := of_decide_eq_true (by first | (with_reducible assumption) | assumption)
       have q298 : x5_1 < (l1.length : Int) := of_decide_eq_true (by first | (with_reducible assumption) | assumption)
       obtain ⟨ad298, e298, hx298_0, hx298_1, hx298_2, hx298_3⟩ := at_T39 HR1.out x5_1 p298 q298
       cases e298
       replace hx298_0 := (HB.out.cell (World.block_lt_of_cell? w _ hx298_0)).trans hx298_0
       replace hx298_1 := (HB.out.cell (World.block_lt_of_cell? w _ hx298_1)).trans hx298_1
       replace hx298_2 := (HB.out.cell (World.block_lt_of_cell? w _ hx298_2)).trans hx298_2
       replace hx298_3 := (HB.out.cell (World.block_lt_of_cell? w _ hx298_3)).trans hx298_3
       replace p298 := eq_true p298
       replace q298 := eq_true q298
       go_wp2_with (first | ((with_reducible refine gate_dst (N := 6) rfl ?_); (try (refine gate_guard (by rfl) ?_; dsimp only)); refine box_event ?hg (N := 6) ?hd (cs := #[.int .i64 0, .int .i64 0, .int .i64 0, .int .i64 0]) (t := 39) ?hr ?_; (case hd => rfl); (case hg => rfl); (case hr => first | (go_simp; done) | (go_simp; rfl)); intro gb299 hg w19 hbox hb; have n0_ := Aside0.mk (below_step (by repeat (first | (with_reducible first | exact HB.out | apply below_alloc | apply pw_below_drewN | apply below_drew1) | exact HB.out)) hb); have n1_ := Aside0.mk (hbox); have n2_ := Aside0.mk ((by rw [hg]; exact (below_size (by repeat (first | (with_reducible first | exact HB.out | apply below_alloc | apply pw_below_drewN | apply below_drew1) | exact HB.out))) : w.heap.size ≤ gb299)); have n3_ := Aside0.mk ((by rw [hg]; exact (below_size (by repeat (first | (with_reducible first | exact HB.out | apply below_alloc | apply pw_below_drewN | apply below_drew1) | exact HB.out))) : w.heap.size ≤ gb299)); clear HB; have HB := n0_; have BK299 := n1_; have GW299 := n2_; have GE299 := n3_; clear n0_ n1_ n2_ n3_; clear hb hbox hg; have hcz20_0 : w19.cell? ⟨gb299, 0, none⟩ = some (.int .i64 0) := (blk_cell BK299.out 0).trans rfl; have hcz20_1 : w19.cell? ⟨gb299, 1, none⟩ = some (.int .i64 0) := (blk_cell BK299.out 1).trans rfl; have hcz20_2 : w19.cell? ⟨gb299, 2, none⟩ = some (.int .i64 0) := (blk_cell BK299.out 2).trans rfl; have hcz20_3 : w19.cell? ⟨gb299, 3, none⟩ = some (.int .i64 0) := (blk_cell BK299.out 3).trans rfl; have hfz20_0 := blk_frozen BK299.out 0; have hfz20_1 := blk_frozen BK299.out 1; have hfz20_2 := blk_frozen BK299.out 2; have hfz20_3 := blk_frozen BK299.out 3) | ((with_reducible refine gate_callee (f := 47) rfl ?_); refine goesL_ (some 21) rfl rfl Try.func47 (by kernel_rfl) rfl #[.int .i64 ((rd_T39 l1 x5_1).f0), .int .i64 0, .int .i64 (wrap64 (a0 - 1))] rfl (by (try simp only [List.map_toArray, List.map_cons, List.map_nil]); first | done | rfl | (simp only [List.length_drop, List.length_take]; rfl)) ?_; (with_reducible refine (spec_l01In.calls ((rd_T39 l1 x5_1).f0) 0 (wrap64 (a0 - 1)) true _ A5.out).mono ?_); rintro e w' ⟨rfl, ⟨nd, rfl⟩⟩; refine ⟨_, rfl, ?_⟩) | (go_at_call 47; (with_reducible refine (spec_l01In.calls ((rd_T39 l1 x5_1).f1) (wrap64 (((rd_T39 l1 x5_1).f0) + 1)) (wrap64 (a0 - 1)) false _ A7.out).mono ?_); rintro e w' ⟨rfl, ⟨nd, rfl⟩⟩))
       go_ret
       exact ⟨by first | rfl | (simp [errW_none, errW_some] <;> rfl) | (simp [*, errW_none, errW_some] <;> rfl), by repeat (first | (with_reducible first | exact HB.out | apply below_alloc | apply pw_below_drewN | apply below_drew1 | refine below_set ?_ GE299.out) | exact HB.out)⟩
     ·replace c6 := Bool.eq_false_iff.mpr c6
      subst c6
      have H1 : (some false) = some r := by rw [if_neg (show ¬ (false = true) by decide)] at H; exact H
      clear H
      have H := H1
      clear H1
      obtain rfl := Option.some.inj H
      have p298 : 0 ≤ (x5_1 : Int) := of_decide_eq_true (by first | (with_reducible assumption) | assumption)
      have q298 : x5_1 < (l1.length : Int) := of_decide_eq_true (by first | (with_reducible assumption) | assumption)
      obtain ⟨ad298, e298, hx298_0, hx298_1, hx298_2, hx298_3⟩ := at_T39 HR1.out x5_1 p298 q298
      cases e298
      replace hx298_0 := (HB.out.cell (World.block_lt_of_cell? w _ hx298_0)).trans hx298_0
      replace hx298_1 := (HB.out.cell (World.block_lt_of_cell? w _ hx298_1)).trans hx298_1
      replace hx298_2 := (HB.out.cell (World.block_lt_of_cell? w _ hx298_2)).trans hx298_2
      replace hx298_3 := (HB.out.cell (World.block_lt_of_cell? w _ hx298_3)).trans hx298_3
      replace p298 := eq_true p298
      replace q298 := eq_true q298
      go_wp2_with (first | ((with_reducible refine gate_dst (N := 6) rfl ?_); (try (refine gate_guard (by rfl) ?_; dsimp only)); refine box_event ?hg (N := 6) ?hd (cs := #[.int .i64 0, .int .i64 0, .int .i64 0, .int .i64 0]) (t := 39) ?hr ?_; (case hd => rfl); (case hg => rfl); (case hr => first | (go_simp; done) | (go_simp; rfl)); intro gb299 hg w21 hbox hb; have n0_ := Aside0.mk (below_step (by repeat (first | (with_reducible first | exact HB.out | apply below_alloc | apply pw_below_drewN | apply below_drew1) | exact HB.out)) hb); have n1_ := Aside0.mk (hbox); have n2_ := Aside0.mk ((by rw [hg]; exact (below_size (by repeat (first | (with_reducible first | exact HB.out | apply below_alloc | apply pw_below_drewN | apply below_drew1) | exact HB.out))) : w.heap.size ≤ gb299)); have n3_ := Aside0.mk ((by rw [hg]; exact (below_size (by repeat (first | (with_reducible first | exact HB.out | apply below_alloc | apply pw_below_drewN | apply below_drew1) | exact HB.out))) : w.heap.size ≤ gb299)); clear HB; have HB := n0_; have BK299 := n1_; have GW299 := n2_; have GE299 := n3_; clear n0_ n1_ n2_ n3_; clear hb hbox hg; have hcz22_0 : w21.cell? ⟨gb299, 0, none⟩ = some (.int .i64 0) := (blk_cell BK299.out 0).trans rfl; have hcz22_1 : w21.cell? ⟨gb299, 1, none⟩ = some (.int .i64 0) := (blk_cell BK299.out 1).trans rfl; have hcz22_2 : w21.cell? ⟨gb299, 2, none⟩ = some (.int .i64 0) := (blk_cell BK299.out 2).trans rfl; have hcz22_3 : w21.cell? ⟨gb299, 3, none⟩ = some (.int .i64 0) := (blk_cell BK299.out 3).trans rfl; have hfz22_0 := blk_frozen BK299.out 0; have hfz22_1 := blk_frozen BK299.out 1; have hfz22_2 := blk_frozen BK299.out 2; have hfz22_3 := blk_frozen BK299.out 3) | ((with_reducible refine gate_callee (f := 47) rfl ?_); refine goesL_ (some 21) rfl rfl Try.func47 (by kernel_rfl) rfl #[.int .i64 ((rd_T39 l1 x5_1).f0), .int .i64 0, .int .i64 (wrap64 (a0 - 1))] rfl (by (try simp only [List.map_toArray, List.map_cons, List.map_nil]); first | done | rfl | (simp only [List.length_drop, List.length_take]; rfl)) ?_; (with_reducible refine (spec_l01In.calls ((rd_T39 l1 x5_1).f0) 0 (wrap64 (a0 - 1)) false _ A5.out).mono ?_); rintro e w' ⟨rfl, ⟨nd, rfl⟩⟩; refine ⟨_, rfl, ?_⟩))
      go_ret
      exact ⟨by first | rfl | (simp [errW_none, errW_some] <;> rfl) | (simp [*, errW_none, errW_some] <;> rfl), by repeat (first | (with_reducible first | exact HB.out | apply below_alloc | apply pw_below_drewN | apply below_drew1 | refine below_set ?_ GE299.out) | exact HB.out)⟩
    ·rw [if_neg c4] at H
     exact absurd H (by simp)
   ·rw [if_neg c3] at H
    have c3b0 : decide (x5_1 < (l1.length : Int)) = false := decide_eq_false c3
    clear c3
    replace H := Option.bind_eq_some_iff.mp H
    obtain ⟨t297, A230, H⟩ := H
    replace H : (if t297 = true then (some (decide ((l1.length : Int) ≤ 20))) else (some false)) = some r := H
    have A23 := Aside0.mk A230
    clear A230
    by_cases c24 : t297 = true
    ·subst c24
     have H1 : (some (decide ((l1.length : Int) ≤ 20))) = some r := by rw [if_pos rfl] at H; exact H
     clear H
     have H := H1
     clear H1
     obtain rfl := Option.some.inj H
     go_wp2_with (first | ((with_reducible refine gate_callee (f := 47) rfl ?_); refine goesL_ (some 49) rfl rfl Try.func47 (by kernel_rfl) rfl #[.int .i64 a0, .int .i64 1, .int .i64 10] rfl (by (try simp only [List.map_toArray, List.map_cons, List.map_nil]); first | done | rfl | (simp only [List.length_drop, List.length_take]; rfl)) ?_; (with_reducible refine (spec_l01In.calls a0 1 10 true _ A23.out).mono ?_); rintro e w' ⟨rfl, ⟨nd, rfl⟩⟩; refine ⟨_, rfl, ?_⟩))
     go_ret
     exact ⟨by first | rfl | (simp [errW_none, errW_some] <;> rfl) | (simp [*, errW_none, errW_some] <;> rfl), by repeat (first | (with_reducible first | exact HB.out | apply below_alloc | apply pw_below_drewN | apply below_drew1) | exact HB.out)⟩
    ·replace c24 := Bool.eq_false_iff.mpr c24
     subst c24
     have H1 : (some false) = some r := by rw [if_neg (show ¬ (false = true) by decide)] at H; exact H
     clear H
     have H := H1
     clear H1
     obtain rfl := Option.some.inj H
     go_wp2_with (first | ((with_reducible refine gate_callee (f := 47) rfl ?_); refine goesL_ (some 49) rfl rfl Try.func47 (by kernel_rfl) rfl #[.int .i64 a0, .int .i64 1, .int .i64 10] rfl (by (try simp only [List.map_toArray, List.map_cons, List.map_nil]); first | done | rfl | (simp only [List.length_drop, List.length_take]; rfl)) ?_; (with_reducible refine (spec_l01In.calls a0 1 10 false _ A23.out).mono ?_); rintro e w' ⟨rfl, ⟨nd, rfl⟩⟩; refine ⟨_, rfl, ?_⟩))
     go_ret
     exact ⟨by first | rfl | (simp [errW_none, errW_some] <;> rfl) | (simp [*, errW_none, errW_some] <;> rfl), by repeat (first | (with_reducible first | exact HB.out | apply below_alloc | apply pw_below_drewN | apply below_drew1) | exact HB.out)⟩
end Go.Proofs.Ytlnfjhahnacmiaa.F
namespace Go.Proofs.Ytlnfjhahnacmiaa.F
open Go.RowKit Go.Proofs.YtlnfjhahnacmiaaW.PrintWords Go.Proofs.YtlnfjhahnacmiaaW.PrintLast Go.Proofs.YtlnfjhahnacmiaaW.PrintMore
attribute [local go_sem] max2_int min2_int max_two min_two max_three min_three max_four min_four   -- for this text's walks alone
set_option linter.unusedVariables false
set_option linter.unusedSimpArgs false
def spec_l10Code.f (k : Nat) (a0 : Int) (l1 : List (S39)) (a2 : Int) : Option (Int) := (spec_AreFuses.f k a0 l1).bind fun t304 => (if t304 = true then ((spec_l01In.f a2 0 (wrap64 (a0 - 1))).bind fun t305 => (if t305 = true then ((spec_l10Times.f k a0 l1).bind fun bt306 => (if 0 ≤ a2 then (if a2 < (bt306.1.length : Int) then (if (rd bt306.1 a2) < 0 then (some 4) else (some 0)) else (none)) else (none))) else (some 2))) else (some 1))
theorem spec_l10Code.mono : ∀ a0 a1 a2 k, LeO (spec_l10Code.f k a0 a1 a2) (spec_l10Code.f (k + 1) a0 a1 a2) := by
 intro a0 a1 a2 k
 unfold spec_l10Code.f
 repeat' first
   | (with_reducible exact spec_AreFuses.mono _ _ _)
   | (with_reducible exact spec_l10Times.mono _ _ _)
   | (with_reducible exact LeO.refl _)
   | (with_reducible exact LeO.none _)
   | (with_reducible refine LeO.ite ?_ ?_)
   | (with_reducible refine LeO.bind ?_ (fun _ => ?_))
   | exact spec_AreFuses.mono _ _ _
   | exact spec_l10Times.mono _ _ _
   | exact LeO.none _
   | refine LeO.ite ?_ ?_
   | refine LeO.bind ?_ (fun _ => ?_)
set_option maxHeartbeats 8000000 in
set_option maxRecDepth 100000 in
theorem spec_l10Code.calls (k : Nat) (a0 : Int) (A1 : Option Addr) (c1 : Nat) (l1 : List (S39)) (a2 : Int) (r : Int) (w : World) (hr1 : Kd.C k39 w A1 l1.length l1) (hc1 : l1.length ≤ c1) (h : spec_l10Code.f k a0 l1 a2 = some r) :
  Calls Try.prog 37 #[.int .i64 a0, .slice A1 l1.length c1, .int .i64 a2] w fun e w' => e = .returned (.int .i64 r) ∧ Below w.heap.size w w' := by
 have HR1 := Aside0.mk hr1
 have HC1 := Aside0.mk hc1
 clear hr1 hc1
 have HB := Aside0.mk (Below.refl w.heap.size w)
 have H : ((spec_AreFuses.f k a0 l1).bind fun t304 => (if t304 = true then ((spec_l01In.f a2 0 (wrap64 (a0 - 1))).bind fun t305 => (if t305 = true then ((spec_l10Times.f k a0 l1).bind fun bt306 => (if 0 ≤ a2 then (if a2 < (bt306.1.length : Int) then (if (rd bt306.1 a2) < 0 then (some 4) else (some 0)) else (none)) else (none))) else (some 2))) else (some 1))) = some r := h
 clear h
 replace H := Option.bind_eq_some_iff.mp H
 obtain ⟨t304, A40, H⟩ := H
 replace H : (if t304 = true then ((spec_l01In.f a2 0 (wrap64 (a0 - 1))).bind fun t305 => (if t305 = true then ((spec_l10Times.f k a0 l1).bind fun bt306 => (if 0 ≤ a2 then (if a2 < (bt306.1.length : Int) then (if (rd bt306.1 a2) < 0 then (some 4) else (some 0)) else (none)) else (none))) else (some 2))) else (some 1)) = some r := H
 have A4 := Aside0.mk A40
 clear A40
 by_cases c5 : t304 = true
 ·subst c5
  have H1 : ((spec_l01In.f a2 0 (wrap64 (a0 - 1))).bind fun t305 => (if t305 = true then ((spec_l10Times.f k a0 l1).bind fun bt306 => (if 0 ≤ a2 then (if a2 < (bt306.1.length : Int) then (if (rd bt306.1 a2) < 0 then (some 4) else (some 0)) else (none)) else (none))) else (some 2))) = some r := by rw [if_pos rfl] at H; exact H
  clear H
  have H := H1
  clear H1
  replace H := Option.bind_eq_some_iff.mp H
  obtain ⟨t305, A60, H⟩ := H
  replace H : (if t305 = true then ((spec_l10Times.f k a0 l1).bind fun bt306 => (if 0 ≤ a2 then (if a2 < (bt306.1.length : Int) then (if (rd bt306.1 a2) < 0 then (some 4) else (some 0)) else (none)) else (none))) else (some 2)) = some r := H
  have A6 := Aside0.mk A60
  clear A60
  by_cases c7 : t305 = true
  ·subst c7
   have H1 : ((spec_l10Times.f k a0 l1).bind fun bt306 => (if 0 ≤ a2 then (if a2 < (bt306.1.length : Int) then (if (rd bt306.1 a2) < 0 then (some 4) else (some 0)) else (none)) else (none))) = some r := by rw [if_pos rfl] at H; exact H
   clear H
   have H := H1
   clear H1
   replace H := Option.bind_eq_some_iff.mp H
   obtain ⟨⟨t306, t307⟩, A80, H⟩ := H
   replace H : (if 0 ≤ a2 then (if a2 < (t306.length : Int) then (if (rd t306 a2) < 0 then (some 4) else (some 0)) else (none)) else (none)) = some r := H
   have A8 := Aside0.mk A80
   clear A80
   by_cases c9 : 0 ≤ a2
   ·rw [if_pos c9] at H
    have c9b0 : decide (0 ≤ a2) = true := decide_eq_true c9
    clear c9
    by_cases c10 : a2 < (t306.length : Int)
    ·rw [if_pos c10] at H
     have c10b0 : decide (a2 < (t306.length : Int)) = true := decide_eq_true c10
     clear c10
     by_cases c11 : (rd t306 a2) < 0
     ·rw [if_pos c11] at H
      have c11b0 : decide ((rd t306 a2) < 0) = true := decide_eq_true c11
      clear c11
      obtain rfl := Option.some.inj H
      go_enter Try.func37, Try.ntmps37
      go_wp2_with (first | ((with_reducible refine gate_callee (f := 46) rfl ?_); refine goesL_ (some 11) rfl rfl Try.func46 (by kernel_rfl) rfl #[.int .i64 a0, .slice A1 l1.length c1] rfl (by (try simp only [List.map_toArray, List.map_cons, List.map_nil]); first | done | rfl | (simp only [List.length_drop, List.length_take]; rfl)) ?_; (with_reducible refine (spec_AreFuses.calls k a0 _ _ l1 true _ ?side1 ?side2 A4.out).mono ?_); (case side1 => repeat (first | exact HR1.out | (with_reducible refine Kd.C_alloc ?_ _) | (with_reducible refine Kd.C_drewN ?_ _) | (with_reducible refine Kd.C_drew ?_))); (case side2 => exact HC1.out); rintro e w12 ⟨rfl, hb⟩; refine ⟨_, rfl, ?_⟩; have n0_ := Aside0.mk (below_step (by repeat (first | (with_reducible first | exact HB.out | apply below_alloc | apply pw_below_drewN | apply below_drew1) | exact HB.out)) hb); clear HB; have HB := n0_; clear n0_; (try clear hb); (try clear hb2); (try clear hk); (try clear hi)) | ((with_reducible refine gate_callee (f := 47) rfl ?_); refine goesL_ (some 16) rfl rfl Try.func47 (by kernel_rfl) rfl #[.int .i64 a2, .int .i64 0, .int .i64 (wrap64 (a0 - 1))] rfl (by (try simp only [List.map_toArray, List.map_cons, List.map_nil]); first | done | rfl | (simp only [List.length_drop, List.length_take]; rfl)) ?_; (with_reducible refine (spec_l01In.calls a2 0 (wrap64 (a0 - 1)) true _ A6.out).mono ?_); rintro e w' ⟨rfl, ⟨nd, rfl⟩⟩; refine ⟨_, rfl, ?_⟩) | ((with_reducible refine gate_callee (f := 38) rfl ?_); refine goesL_ (some 21) rfl rfl Try.func38 (by kernel_rfl) rfl #[.int .i64 a0, .slice A1 l1.length c1] rfl (by (try simp only [List.map_toArray, List.map_cons, List.map_nil]); first | done | rfl | (simp only [List.length_drop, List.length_take]; rfl)) ?_; (with_reducible refine (spec_l10Times.calls k a0 _ _ l1 t306 t307 _ ?side1 ?side2 A8.out).mono ?_); (case side1 => repeat (first | exact (Kd.C_below HR1.out (by repeat (first | (with_reducible first | exact HB.out | apply below_alloc | apply pw_below_drewN | apply below_drew1) | exact HB.out))) | (with_reducible refine Kd.C_alloc ?_ _) | (with_reducible refine Kd.C_drewN ?_ _) | (with_reducible refine Kd.C_drew ?_))); (case side2 => exact HC1.out); rintro e w13 ⟨v308, v310, rfl, ho0, ho1, hb⟩; refine ⟨_, rfl, ?_⟩; have n0_ := Aside0.mk (Kd.R_lower ho0 (below_size (by repeat (first | (with_reducible first | exact HB.out | apply below_alloc | apply pw_below_drewN | apply below_drew1) | exact HB.out)))); have n1_ := Aside0.mk (Kd.R_lower ho1 (below_size (by repeat (first | (with_reducible first | exact HB.out | apply below_alloc | apply pw_below_drewN | apply below_drew1) | exact HB.out)))); have n2_ := Aside0.mk (below_step (by repeat (first | (with_reducible first | exact HB.out | apply below_alloc | apply pw_below_drewN | apply below_drew1) | exact HB.out)) hb); clear HB; have HO309 := n0_; have HO311 := n1_; have HB := n2_; clear n0_ n1_ n2_; (try clear hb); (try clear hb2); (try clear hk); (try clear hi); (try clear ho0); (try clear ho1); obtain ⟨Ao14, co14, eo14⟩ := Kd.R_slice HO309.out; subst eo14; have p312 : 0 ≤ (a2 : Int) := of_decide_eq_true (by first | (with_reducible assumption) | assumption); have q312 : a2 < (t306.length : Int) := of_decide_eq_true (by first | (with_reducible assumption) | assumption); obtain ⟨ad312, e312, hx312_0⟩ := Kd.at_int (Kd.R_reads' HO309.out).2.2 a2 p312 q312; cases e312; replace p312 := eq_true p312; replace q312 := eq_true q312))
      go_ret
      exact ⟨by first | rfl | (simp [errW_none, errW_some] <;> rfl) | (simp [*, errW_none, errW_some] <;> rfl), by repeat (first | (with_reducible first | exact HB.out | apply below_alloc | apply pw_below_drewN | apply below_drew1) | exact HB.out)⟩
     ·rw [if_neg c11] at H
      have c11b0 : decide ((rd t306 a2) < 0) = false := decide_eq_false c11
      clear c11
      obtain rfl := Option.some.inj H
      go_enter Try.func37, Try.ntmps37
      go_wp2_with (first | ((with_reducible refine gate_callee (f := 46) rfl ?_); refine goesL_ (some 11) rfl rfl Try.func46 (by kernel_rfl) rfl #[.int .i64 a0, .slice A1 l1.length c1] rfl (by (try simp only [List.map_toArray, List.map_cons, List.map_nil]); first | done | rfl | (simp only [List.length_drop, List.length_take]; rfl)) ?_; (with_reducible refine (spec_AreFuses.calls k a0 _ _ l1 true _ ?side1 ?side2 A4.out).mono ?_); (case side1 => repeat (first | exact HR1.out | (with_reducible refine Kd.C_alloc ?_ _) | (with_reducible refine Kd.C_drewN ?_ _) | (with_reducible refine Kd.C_drew ?_))); (case side2 => exact HC1.out); rintro e w15 ⟨rfl, hb⟩; refine ⟨_, rfl, ?_⟩; have n0_ := Aside0.mk (below_step (by repeat (first | (with_reducible first | exact HB.out | apply below_alloc | apply pw_below_drewN | apply below_drew1) | exact HB.out)) hb); clear HB; have HB := n0_; clear n0_; (try clear hb); (try clear hb2); (try clear hk); (try clear hi)) | ((with_reducible refine gate_callee (f := 47) rfl ?_); refine goesL_ (some 16) rfl rfl Try.func47 (by kernel_rfl) rfl #[.int .i64 a2, .int .i64 0, .int .i64 (wrap64 (a0 - 1))] rfl (by (try simp only [List.map_toArray, List.map_cons, List.map_nil]); first | done | rfl | (simp only [List.length_drop, List.length_take]; rfl)) ?_; (with_reducible refine (spec_l01In.calls a2 0 (wrap64 (a0 - 1)) true _ A6.out).mono ?_); rintro e w' ⟨rfl, ⟨nd, rfl⟩⟩; refine ⟨_, rfl, ?_⟩) | ((with_reducible refine gate_callee (f := 38) rfl ?_); refine goesL_ (some 21) rfl rfl Try.func38 (by kernel_rfl) rfl #[.int .i64 a0, .slice A1 l1.length c1] rfl (by (try simp only [List.map_toArray, List.map_cons, List.map_nil]); first | done | rfl | (simp only [List.length_drop, List.length_take]; rfl)) ?_; (with_reducible refine (spec_l10Times.calls k a0 _ _ l1 t306 t307 _ ?side1 ?side2 A8.out).mono ?_); (case side1 => repeat (first | exact (Kd.C_below HR1.out (by repeat (first | (with_reducible first | exact HB.out | apply below_alloc | apply pw_below_drewN | apply below_drew1) | exact HB.out))) | (with_reducible refine Kd.C_alloc ?_ _) | (with_reducible refine Kd.C_drewN ?_ _) | (with_reducible refine Kd.C_drew ?_))); (case side2 => exact HC1.out); rintro e w16 ⟨v308, v310, rfl, ho0, ho1, hb⟩; refine ⟨_, rfl, ?_⟩; have n0_ := Aside0.mk (Kd.R_lower ho0 (below_size (by repeat (first | (with_reducible first | exact HB.out | apply below_alloc | apply pw_below_drewN | apply below_drew1) | exact HB.out)))); have n1_ := Aside0.mk (Kd.R_lower ho1 (below_size (by repeat (first | (with_reducible first | exact HB.out | apply below_alloc | apply pw_below_drewN | apply below_drew1) | exact HB.out)))); have n2_ := Aside0.mk (below_step (by repeat (first | (with_reducible first | exact HB.out | apply below_alloc | apply pw_below_drewN | apply below_drew1) | exact HB.out)) hb); clear HB; have HO309 := n0_; have HO311 := n1_; have HB := n2_; clear n0_ n1_ n2_; (try clear hb); (try clear hb2); (try clear hk); (try clear hi); (try clear ho0); (try clear ho1); obtain ⟨Ao17, co17, eo17⟩ := Kd.R_slice HO309.out; subst eo17; have p312 : 0 ≤ (a2 : Int) := of_decide_eq_true (by first | (with_reducible assumption) | assumption); have q312 : a2 < (t306.length : Int) := of_decide_eq_true (by first | (with_reducible assumption) | assumption); obtain ⟨ad312, e312, hx312_0⟩ := Kd.at_int (Kd.R_reads' HO309.out).2.2 a2 p312 q312; cases e312; replace p312 := eq_true p312; replace q312 := eq_true q312))
      go_ret
      exact ⟨by first | rfl | (simp [errW_none, errW_some] <;> rfl) | (simp [*, errW_none, errW_some] <;> rfl), by repeat (first | (with_reducible first | exact HB.out | apply below_alloc | apply pw_below_drewN | apply below_drew1) | exact HB.out)⟩
    ·rw [if_neg c10] at H
     exact absurd H (by simp)
   ·rw [if_neg c9] at H
    exact absurd H (by simp)
  ·replace c7 := Bool.eq_false_iff.mpr c7
   subst c7
   have H1 : (some 2) = some r := by rw [if_neg (show ¬ (false = true) by decide)] at H; exact H
   clear H
   have H := H1
   clear H1
   obtain rfl := Option.some.inj H
   go_enter Try.func37, Try.ntmps37
   go_wp2_with (first | ((with_reducible refine gate_callee (f := 46) rfl ?_); refine goesL_ (some 11) rfl rfl Try.func46 (by kernel_rfl) rfl #[.int .i64 a0, .slice A1 l1.length c1] rfl (by (try simp only [List.map_toArray, List.map_cons, List.map_nil]); first | done | rfl | (simp only [List.length_drop, List.length_take]; rfl)) ?_; (with_reducible refine (spec_AreFuses.calls k a0 _ _ l1 true _ ?side1 ?side2 A4.out).mono ?_); (case side1 => repeat (first | exact HR1.out | (with_reducible refine Kd.C_alloc ?_ _) | (with_reducible refine Kd.C_drewN ?_ _) | (with_reducible refine Kd.C_drew ?_))); (case side2 => exact HC1.out); rintro e w18 ⟨rfl, hb⟩; refine ⟨_, rfl, ?_⟩; have n0_ := Aside0.mk (below_step (by repeat (first | (with_reducible first | exact HB.out | apply below_alloc | apply pw_below_drewN | apply below_drew1) | exact HB.out)) hb); clear HB; have HB := n0_; clear n0_; (try clear hb); (try clear hb2); (try clear hk); (try clear hi)) | ((with_reducible refine gate_callee (f := 47) rfl ?_); refine goesL_ (some 16) rfl rfl Try.func47 (by kernel_rfl) rfl #[.int .i64 a2, .int .i64 0, .int .i64 (wrap64 (a0 - 1))] rfl (by (try simp only [List.map_toArray, List.map_cons, List.map_nil]); first | done | rfl | (simp only [List.length_drop, List.length_take]; rfl)) ?_; (with_reducible refine (spec_l01In.calls a2 0 (wrap64 (a0 - 1)) false _ A6.out).mono ?_); rintro e w' ⟨rfl, ⟨nd, rfl⟩⟩; refine ⟨_, rfl, ?_⟩))
   go_ret
   exact ⟨by first | rfl | (simp [errW_none, errW_some] <;> rfl) | (simp [*, errW_none, errW_some] <;> rfl), by repeat (first | (with_reducible first | exact HB.out | apply below_alloc | apply pw_below_drewN | apply below_drew1) | exact HB.out)⟩
 ·replace c5 := Bool.eq_false_iff.mpr c5
  subst c5
  have H1 : (some 1) = some r := by rw [if_neg (show ¬ (false = true) by decide)] at H; exact H
  clear H
  have H := H1
  clear H1
  obtain rfl := Option.some.inj H
  go_enter Try.func37, Try.ntmps37
  go_wp2_with (first | ((with_reducible refine gate_callee (f := 46) rfl ?_); refine goesL_ (some 11) rfl rfl Try.func46 (by kernel_rfl) rfl #[.int .i64 a0, .slice A1 l1.length c1] rfl (by (try simp only [List.map_toArray, List.map_cons, List.map_nil]); first | done | rfl | (simp only [List.length_drop, List.length_take]; rfl)) ?_; (with_reducible refine (spec_AreFuses.calls k a0 _ _ l1 false _ ?side1 ?side2 A4.out).mono ?_); (case side1 => repeat (first | exact HR1.out | (with_reducible refine Kd.C_alloc ?_ _) | (with_reducible refine Kd.C_drewN ?_ _) | (with_reducible refine Kd.C_drew ?_))); (case side2 => exact HC1.out); rintro e w19 ⟨rfl, hb⟩; refine ⟨_, rfl, ?_⟩; have n0_ := Aside0.mk (below_step (by repeat (first | (with_reducible first | exact HB.out | apply below_alloc | apply pw_below_drewN | apply below_drew1) | exact HB.out)) hb); clear HB; have HB := n0_; clear n0_; (try clear hb); (try clear hb2); (try clear hk); (try clear hi)))
  go_ret
  exact ⟨by first | rfl | (simp [errW_none, errW_some] <;> rfl) | (simp [*, errW_none, errW_some] <;> rfl), by repeat (first | (with_reducible first | exact HB.out | apply below_alloc | apply pw_below_drewN | apply below_drew1) | exact HB.out)⟩
end Go.Proofs.Ytlnfjhahnacmiaa.F
namespace Go.Proofs.Ytlnfjhahnacmiaa.F
open Go.RowKit Go.Proofs.YtlnfjhahnacmiaaW.PrintWords Go.Proofs.YtlnfjhahnacmiaaW.PrintLast Go.Proofs.YtlnfjhahnacmiaaW.PrintMore
attribute [local go_sem] max2_int min2_int max_two min_two max_three min_three max_four min_four   -- for this text's walks alone
set_option linter.unusedVariables false
set_option linter.unusedSimpArgs false
def spec_l10Without.f (l0 : List (S39)) (a1 : Int) : Option ((List (S39))) := (some (([] : List (S39)) : List (S39))).bind fun y313 => (if 0 ≤ a1 then (if a1 ≤ (l0.length : Int) then ((some (l0.take (a1 : Int).toNat : List (S39))).bind fun y316 => (if y313.length + y316.length < 4398046511104 then ((some (y313 ++ y316 : List (S39))).bind fun y320 => (if 0 ≤ (wrap64 (a1 + 1)) then (if (wrap64 (a1 + 1)) ≤ (l0.length : Int) then ((some (l0.drop ((wrap64 (a1 + 1)) : Int).toNat : List (S39))).bind fun y323 => (if y320.length + y323.length < 4398046511104 then (some (y320 ++ y323)) else (none))) else (none)) else (none))) else (none))) else (none)) else (none))
def spec_l10Without.T1 : Bool × List (List Nat × List Nat) := (true, [([], []), ([], []), ([], []), ([1, 2], [1, 2]), ([0, 3], [0, 3]), ([], []), ([], []), ([6], [6]), ([5, 7], [5, 7]), ([4, 8, 4], [4, 8]), ([9, 9, 0, 1, 2, 3, 4, 5, 6, 7, 8, 9], [9])])
def spec_l10Without.B1 : List Nat := [0, 0, 0, 6, 15, 0, 0, 64, 224, 511, 1023]
theorem spec_l10Without.tab1 : rtab .any (opsOf Try.f39 1) = spec_l10Without.T1 := by kernel_rfl
theorem spec_l10Without.bits1 : waitsOk spec_l10Without.T1.2 spec_l10Without.B1 = true := by kernel_rfl
set_option maxHeartbeats 8000000 in
set_option maxRecDepth 100000 in
theorem spec_l10Without.calls (A0 : Option Addr) (c0 : Nat) (l0 : List (S39)) (a1 : Int) (r : List (S39)) (w : World) (hr0 : Kd.C k39 w A0 l0.length l0) (hc0 : l0.length ≤ c0) (h : spec_l10Without.f l0 a1 = some r) :
  Calls Try.prog 39 #[.slice A0 l0.length c0, .int .i64 a1] w fun e w' => ∃ v0_ : Value, e = .returned (v0_) ∧ Kd.R k39 39 w' w.heap.size (fun _ => True) v0_ r ∧ Below w.heap.size w w' := by
 have HR0 := Aside0.mk hr0
 have HC0 := Aside0.mk hc0
 clear hr0 hc0
 have HB := Aside0.mk (Below.refl w.heap.size w)
 have H : ((some (([] : List (S39)) : List (S39))).bind fun y313 => (if 0 ≤ a1 then (if a1 ≤ (l0.length : Int) then ((some (l0.take (a1 : Int).toNat : List (S39))).bind fun y316 => (if y313.length + y316.length < 4398046511104 then ((some (y313 ++ y316 : List (S39))).bind fun y320 => (if 0 ≤ (wrap64 (a1 + 1)) then (if (wrap64 (a1 + 1)) ≤ (l0.length : Int) then ((some (l0.drop ((wrap64 (a1 + 1)) : Int).toNat : List (S39))).bind fun y323 => (if y320.length + y323.length < 4398046511104 then (some (y320 ++ y323)) else (none))) else (none)) else (none))) else (none))) else (none)) else (none))) = some r := h
 clear h
 obtain ⟨y313, hy313⟩ : ∃ y_ : List (S39), y_ = (([] : List (S39))) := ⟨_, rfl⟩
 replace H : (if 0 ≤ a1 then (if a1 ≤ (l0.length : Int) then ((some (l0.take (a1 : Int).toNat : List (S39))).bind fun y316 => (if y313.length + y316.length < 4398046511104 then ((some (y313 ++ y316 : List (S39))).bind fun y320 => (if 0 ≤ (wrap64 (a1 + 1)) then (if (wrap64 (a1 + 1)) ≤ (l0.length : Int) then ((some (l0.drop ((wrap64 (a1 + 1)) : Int).toNat : List (S39))).bind fun y323 => (if y320.length + y323.length < 4398046511104 then (some (y320 ++ y323)) else (none))) else (none)) else (none))) else (none))) else (none)) else (none)) = some r := by first | (rw [hy313]; with_reducible exact H) | (have H2_ := (Option.bind_some _ _).symm.trans H; rw [hy313]; with_reducible exact H2_) | (have H2_ := (Option.bind_some _ _).symm.trans H; with_reducible exact H2_) | with_reducible exact H | (rw [hy313]; exact H) | exact H
 have Ny313 := Aside0.mk hy313
 clear hy313
 by_cases c3 : 0 ≤ a1
 ·rw [if_pos c3] at H
  have c3b0 := eq_true c3
  have c3b1 : decide (0 ≤ a1) = true := decide_eq_true c3
  clear c3
  by_cases c4 : a1 ≤ (l0.length : Int)
  ·rw [if_pos c4] at H
   have c4b0 := eq_true c4
   have c4b1 : decide (a1 ≤ (l0.length : Int)) = true := decide_eq_true c4
   clear c4
   obtain ⟨y316, hy316⟩ : ∃ y_ : List (S39), y_ = (l0.take (a1 : Int).toNat) := ⟨_, rfl⟩
   replace H : (if y313.length + y316.length < 4398046511104 then ((some (y313 ++ y316 : List (S39))).bind fun y320 => (if 0 ≤ (wrap64 (a1 + 1)) then (if (wrap64 (a1 + 1)) ≤ (l0.length : Int) then ((some (l0.drop ((wrap64 (a1 + 1)) : Int).toNat : List (S39))).bind fun y323 => (if y320.length + y323.length < 4398046511104 then (some (y320 ++ y323)) else (none))) else (none)) else (none))) else (none)) = some r := by first | (rw [hy316]; with_reducible exact H) | (have H2_ := (Option.bind_some _ _).symm.trans H; rw [hy316]; with_reducible exact H2_) | (have H2_ := (Option.bind_some _ _).symm.trans H; with_reducible exact H2_) | with_reducible exact H | (rw [hy316]; exact H) | exact H
   have Ny316 := Aside0.mk hy316
   clear hy316
   by_cases c5 : y313.length + y316.length < 4398046511104
   ·rw [if_pos c5] at H
    have LMc5 := Aside0.mk c5
    clear c5
    obtain ⟨y320, hy320⟩ : ∃ y_ : List (S39), y_ = (y313 ++ y316) := ⟨_, rfl⟩
    replace H : (if 0 ≤ (wrap64 (a1 + 1)) then (if (wrap64 (a1 + 1)) ≤ (l0.length : Int) then ((some (l0.drop ((wrap64 (a1 + 1)) : Int).toNat : List (S39))).bind fun y323 => (if y320.length + y323.length < 4398046511104 then (some (y320 ++ y323)) else (none))) else (none)) else (none)) = some r := by first | (rw [hy320]; with_reducible exact H) | (have H2_ := (Option.bind_some _ _).symm.trans H; rw [hy320]; with_reducible exact H2_) | (have H2_ := (Option.bind_some _ _).symm.trans H; with_reducible exact H2_) | with_reducible exact H | (rw [hy320]; exact H) | exact H
    have Ny320 := Aside0.mk hy320
    clear hy320
    obtain ⟨ji6, hji6⟩ : ∃ j_ : Int, (wrap64 (a1 + 1)) = j_ := ⟨_, rfl⟩
    replace H : (if 0 ≤ (ji6) then (if (ji6) ≤ (l0.length : Int) then ((some (l0.drop ((ji6) : Int).toNat : List (S39))).bind fun y323 => (if y320.length + y323.length < 4398046511104 then (some (y320 ++ y323)) else (none))) else (none)) else (none)) = some r := by first | (rw [hji6] at H; exact H) | (simp only [hji6] at H ⊢; exact H)
    have hji6w : (IntKind.i64.wrap (a1 + 1)) = ji6 := (i64_w _).trans hji6
    by_cases c7 : 0 ≤ (ji6)
    ·rw [if_pos c7] at H
     have c7b0 := eq_true c7
     have c7b1 : decide (0 ≤ (ji6)) = true := decide_eq_true c7
     clear c7
     by_cases c8 : (ji6) ≤ (l0.length : Int)
     ·rw [if_pos c8] at H
      have c8b0 := eq_true c8
      have c8b1 : decide ((ji6) ≤ (l0.length : Int)) = true := decide_eq_true c8
      clear c8
      obtain ⟨y323, hy323⟩ : ∃ y_ : List (S39), y_ = (l0.drop ((ji6) : Int).toNat) := ⟨_, rfl⟩
      replace H : (if y320.length + y323.length < 4398046511104 then (some (y320 ++ y323)) else (none)) = some r := by first | (rw [hy323]; with_reducible exact H) | (have H2_ := (Option.bind_some _ _).symm.trans H; rw [hy323]; with_reducible exact H2_) | (have H2_ := (Option.bind_some _ _).symm.trans H; with_reducible exact H2_) | with_reducible exact H | (rw [hy323]; exact H) | exact H
      have Ny323 := Aside0.mk hy323
      clear hy323
      by_cases c9 : y320.length + y323.length < 4398046511104
      ·rw [if_pos c9] at H
       have LMc9 := Aside0.mk c9
       clear c9
       obtain ⟨y327, hy327⟩ : ∃ y_ : List (S39), y_ = (y320 ++ y323) := ⟨_, rfl⟩
       replace H : (some y327) = some r := by first | (rw [hy327]; with_reducible exact H) | (have H2_ := (Option.bind_some _ _).symm.trans H; rw [hy327]; with_reducible exact H2_) | (have H2_ := (Option.bind_some _ _).symm.trans H; with_reducible exact H2_) | with_reducible exact H | (rw [hy327]; exact H) | exact H
       have Ny327 := Aside0.mk hy327
       clear hy327
       obtain rfl := Option.some.inj H
       go_enter Try.func39, Try.ntmps39
       try go_wp2
       have n0_ := Aside0.mk (below_drew1 HB.out)
       clear HB
       have HB := n0_
       clear n0_
       have q11 : (a1 : Int) ≤ ((l0.length : Int) : Int) := of_decide_eq_true (by first | (with_reducible assumption) | assumption)
       obtain ⟨i011, hi011, _, hsz11, _⟩ := info_parts info39
       have hroom11 : l0.length ≤ c0 := HC0.out
       have hC11 : Kd.C k39 _ A0 l0.length l0 := HR0.out
       have hcut11 := cut_to (P := Try.prog) 24 39 .i64 Try.underlying24 hi011 A0 l0.length c0 a1 (of_decide_eq_true (by first | (with_reducible assumption) | assumption)) q11 hroom11
       have hr11 := Kd.C_take (m := (a1 : Int).toNat) hC11 (by omega)
       have hy11 : y316.length = (a1 : Int).toNat := (by rw [Ny316.out, List.length_take]; omega)
       rw [← Ny316.out] at hr11
       rw [← hy11] at hcut11
       have HR319 := Aside0.mk hr11
       have HC319 := Aside0.mk (show y316.length ≤ c0 from by omega)
       clear hr11 hC11 hroom11 hi011 hsz11
       have KY11 := Aside0.mk hy11
       clear hy11
       replace q11 := eq_true q11
       have q12 : ((ji6) : Int) ≤ ((l0.length : Int) : Int) := of_decide_eq_true (by first | (with_reducible assumption) | assumption)
       obtain ⟨i012, hi012, _, hsz12, _⟩ := info_parts info39
       have hroom12 : l0.length ≤ c0 := HC0.out
       have hC12 : Kd.C k39 _ A0 l0.length l0 := HR0.out
       have q012 : (0 : Int) ≤ ((ji6) : Int) := of_decide_eq_true (by first | (with_reducible assumption) | assumption)
       have hcut12 := cut_from (P := Try.prog) 24 39 .i64 Try.underlying24 hi012 4 hsz12 A0 l0.length c0 (ji6) q012 q12
       have hr12 := Kd.C_drop (m := ((ji6) : Int).toNat) (c := c0) hC12 (by omega) hroom12
       obtain ⟨A12, hA12⟩ : ∃ A1, A1 = (if c0 = ((ji6) : Int).toNat then A0 else (A0 : Option Addr).map (·.add (((ji6) : Int).toNat * 4))) := ⟨_, rfl⟩
       obtain ⟨c12, hc12⟩ : ∃ c1, c1 = c0 - ((ji6) : Int).toNat := ⟨_, rfl⟩
       have hy12 : y323.length = l0.length - ((ji6) : Int).toNat := (by rw [Ny323.out, List.length_drop] <;> omega)
       rw [show (l0).drop ((ji6) : Int).toNat = y323 from Ny323.out.symm] at hr12
       replace hr12 : Kd.C k39 _ A12 y323.length y323 := (by rw [hA12]; exact hr12)
       rw [← hy12, ← hA12, ← hc12] at hcut12
       have HR326 := Aside0.mk hr12
       have HC326 := Aside0.mk (show y323.length ≤ c12 from by rw [hy12, hc12]; exact Nat.sub_le_sub_right hroom12 _)
       clear hr12 hC12 hroom12 hi012 hsz12 hc12
       have KY12 := Aside0.mk hy12
       have KA12 := Aside0.mk hA12
       clear hy12 hA12
       replace q12 := eq_true q12
       refine start_ (n := 11) (S := fun w' => True) (ds := []) #[false, false, false, false, false, false, false, false, false, false, false] (by kernel_rfl) rfl rfl trivial (fun hHeld => ?_); refine with_tabW spec_l10Without.tab1 spec_l10Without.bits1 (fun HT_ HW_ => ?_)
       generalize w.drew = w10 at HB HR319 HR326 hHeld ⊢
       refine pure_ (i := 1) (N := some 6) (v := ?_) (a' := ?_) #[false, true, false, false, false, false, false, false, false, false, false] rfl rfl (any_of HT_.out (by kernel_rfl)) (fun _ _ _ h => h) (Or.inl ⟨by rfl, ?_⟩) ?_ ?_
       rotate_left
       ·intro w'
        go_simp
        with_reducible rfl
       rotate_left
       ·simp only [Act.put, List.setIfInBounds_toArray, List.set_cons_zero, List.set_cons_succ, i64_w, i32_w]
        rfl
       refine pure_ (i := 2) (N := some 7) (v := ?_) (a' := ?_) #[false, true, true, false, false, false, false, false, false, false, false] rfl rfl (any_of HT_.out (by kernel_rfl)) (fun _ _ _ h => h) (Or.inl ⟨by rfl, ?_⟩) ?_ ?_
       rotate_left
       ·intro w'
        go_simp
        with_reducible rfl
       rotate_left
       ·simp only [Act.put, List.setIfInBounds_toArray, List.set_cons_zero, List.set_cons_succ, i64_w, i32_w]
        rfl
       refine pure_ (i := 3) (N := some 8) (v := ?_) (a' := ?_) #[false, true, true, true, false, false, false, false, false, false, false] rfl rfl (any_of HT_.out (by kernel_rfl)) (fun _ _ _ h => h) (Or.inl ⟨by rfl, ?_⟩) ?_ ?_
       rotate_left
       ·intro w'
        go_simp
        with_reducible rfl
       rotate_left
       ·simp only [Act.put, List.setIfInBounds_toArray, List.set_cons_zero, List.set_cons_succ, i64_w, i32_w]
        rfl
       refine pure_ (i := 5) (N := some 10) (v := ?_) (a' := ?_) #[false, true, true, true, false, true, false, false, false, false, false] rfl rfl (any_of HT_.out (by kernel_rfl)) (fun _ _ _ h => h) (Or.inl ⟨by rfl, ?_⟩) ?_ ?_
       rotate_left
       ·intro w'
        go_simp
        with_reducible rfl
       rotate_left
       ·simp only [Act.put, List.setIfInBounds_toArray, List.set_cons_zero, List.set_cons_succ, i64_w, i32_w]
        rfl
       refine pure_ (i := 6) (N := some 11) (v := ?_) (a' := ?_) #[false, true, true, true, false, true, true, false, false, false, false] rfl rfl (any_of HT_.out (by kernel_rfl)) (fun _ _ _ h => h) (Or.inl ⟨by rfl, ?_⟩) ?_ ?_
       rotate_left
       ·intro w'
        go_simp
        with_reducible rfl
       rotate_left
       ·simp only [Act.put, List.setIfInBounds_toArray, List.set_cons_zero, List.set_cons_succ, i64_w, i32_w]
        rfl
       refine pure_ (i := 7) (N := some 12) (v := ?_) (a' := ?_) #[false, true, true, true, false, true, true, true, false, false, false] rfl rfl (any_of HT_.out (by kernel_rfl)) (fun _ _ _ h => h) (Or.inl ⟨by rfl, ?_⟩) ?_ ?_
       rotate_left
       ·intro w'
        go_simp
        with_reducible rfl
       rotate_left
       ·simp only [Act.put, List.setIfInBounds_toArray, List.set_cons_zero, List.set_cons_succ, i64_w, i32_w]
        rfl
       refine pure_ (i := 8) (N := some 13) (v := ?_) (a' := ?_) #[false, true, true, true, false, true, true, true, true, false, false] rfl rfl (any_of HT_.out (by kernel_rfl)) (fun _ _ _ h => h) (Or.inl ⟨by rfl, ?_⟩) ?_ ?_
       rotate_left
       ·intro w'
        go_simp
        with_reducible rfl
       rotate_left
       ·simp only [Act.put, List.setIfInBounds_toArray, List.set_cons_zero, List.set_cons_succ, i64_w, i32_w]
        rfl
       refine one_ (i := 0) (N := some 5) #[true, true, true, true, false, true, true, true, true, false, false] rfl rfl (one_of HT_.out (by kernel_rfl)) (by decide) (fun K hK => ?_)
       refine Kd.R_lit_step k39 _ 39 ?hg (N := 5) ?hd (xs := ([] : List (S39))) (inner := []) (ok := fun _ => True) (okp := fun _ => True) ?hr ?hp (fun _ hk => hk) trivial (Below.refl _ _) (Nat.le_refl _) (by simp) ?_; (case hd => rfl); (case hg => rfl); (case hr => first | (go_simp; done) | (go_simp; rfl)); (case hp => exact (Reps.none _ _))
       intro v314 w13 ho14 hb hg_ hnew_
       clear hg_ hnew_
       (first | rw [← Ny313.out] at ho14 | (simp only [Int.reduceToNat] at ho14; rw [← Ny313.out] at ho14))
       have n0_ := Aside0.mk (Kd.R_lower ho14 (below_size (by repeat (first | (with_reducible first | exact HB.out | apply below_alloc | apply pw_below_drewN | apply below_drew1) | exact HB.out))))
       have n1_ := Aside0.mk (below_step (by repeat (first | (with_reducible first | exact HB.out | apply below_alloc | apply pw_below_drewN | apply below_drew1) | exact HB.out)) hb)
       clear HB
       have HO315 := n0_
       have HB := n1_
       clear n0_ n1_
       clear hb ho14
       refine hK.out _ _ trivial (fun hHeld => ?_)
       clear hK K
       refine norm_ (a' := ?_) ?_ ?_
       rotate_left
       ·show Act.put _ (some 5) _ = _
        simp only [Act.put, List.setIfInBounds_toArray, List.set_cons_zero, List.set_cons_succ, i64_w, i32_w]
        rfl
       refine one_ (i := 4) (N := some 9) #[true, true, true, true, true, true, true, true, true, false, false] rfl rfl (one_of HT_.out (by kernel_rfl)) (by decide) (fun K hK => ?_)
       refine Kd.R_append_rows_step k39 (w0 := w) w.heap.size (by rfl) (.tmp 5) (.tmp 8) 24 39 (.agg #[(.int .i64 0), (.int .i64 0), (.int .i64 0), (.int .i64 0)]) 32 rfl Try.underlying24 info39 rfl (by decide) (by omega) v314 y313 y316 _ _ _ (fun _ => True) (fun _ => False) rfl rfl ?aO ?aR (fun _ _ h => h) (fun _ h => h.elim) ?aF ?aB ?aS ?aL ?_
       (case aR => repeat (first | exact (Kd.C_below HR319.out HB.out) | (with_reducible refine Kd.C_alloc ?_ _) | (with_reducible refine Kd.C_drewN ?_ _) | (with_reducible refine Kd.C_drew ?_)))
       (case aB => exact (by repeat (first | (with_reducible first | exact HB.out | apply below_alloc | apply pw_below_drewN | apply below_drew1) | exact HB.out)))
       (case aF => exact (fun _ _ => trivial))
       (case aO => exact (by (with_reducible repeat (first | apply Kd.R_alloc | apply Kd.R_drewN | apply Kd.R_drew)); exact HO315.out))
       (case aS => exact (below_size (by repeat (first | (with_reducible first | exact HB.out | apply below_alloc | apply pw_below_drewN | apply below_drew1) | exact HB.out))))
       (case aL => have := LMc5.out; omega)
       intro v321 w15 ho hb hg hat
       rw [← Ny320.out] at ho
       have n0_ := Aside0.mk (hb)
       have n1_ := Aside0.mk (ho)
       clear HB
       clear HO315
       have HB := n0_
       have HO322 := n1_
       clear n0_ n1_
       clear ho hb hg hat
       refine hK.out _ _ trivial (fun hHeld => ?_)
       clear hK K
       refine norm_ (a' := ?_) ?_ ?_
       rotate_left
       ·show Act.put _ (some 9) _ = _
        simp only [Act.put, List.setIfInBounds_toArray, List.set_cons_zero, List.set_cons_succ, i64_w, i32_w]
        rfl
       refine one_ (i := 9) (N := some 14) #[true, true, true, true, true, true, true, true, true, true, false] rfl rfl (one_of HT_.out (by kernel_rfl)) (by decide) (fun K hK => ?_)
       refine Kd.R_append_rows_step k39 (w0 := w) w.heap.size (by rfl) (.tmp 9) (.tmp 13) 24 39 (.agg #[(.int .i64 0), (.int .i64 0), (.int .i64 0), (.int .i64 0)]) 32 rfl Try.underlying24 info39 rfl (by decide) (by omega) v321 y320 y323 _ _ _ (fun _ => True) (fun _ => False) rfl rfl ?aO ?aR (fun _ _ h => h) (fun _ h => h.elim) ?aF ?aB ?aS ?aL ?_
       (case aR => repeat (first | exact (Kd.C_below HR326.out HB.out) | (with_reducible refine Kd.C_alloc ?_ _) | (with_reducible refine Kd.C_drewN ?_ _) | (with_reducible refine Kd.C_drew ?_)))
       (case aB => exact (by repeat (first | (with_reducible first | exact HB.out | apply below_alloc | apply pw_below_drewN | apply below_drew1) | exact HB.out)))
       (case aF => exact (fun _ _ => trivial))
       (case aO => exact (by (with_reducible repeat (first | apply Kd.R_alloc | apply Kd.R_drewN | apply Kd.R_drew)); exact HO322.out))
       (case aS => exact (below_size (by repeat (first | (with_reducible first | exact HB.out | apply below_alloc | apply pw_below_drewN | apply below_drew1) | exact HB.out))))
       (case aL => have := LMc9.out; omega)
       intro v328 w16 ho hb hg hat
       rw [← Ny327.out] at ho
       have n0_ := Aside0.mk (hb)
       have n1_ := Aside0.mk (ho)
       clear HB
       clear HO322
       have HB := n0_
       have HO329 := n1_
       clear n0_ n1_
       clear ho hb hg hat
       refine hK.out _ _ trivial (fun hHeld => ?_)
       clear hK K
       refine norm_ (a' := ?_) ?_ ?_
       rotate_left
       ·show Act.put _ (some 14) _ = _
        simp only [Act.put, List.setIfInBounds_toArray, List.set_cons_zero, List.set_cons_succ, i64_w, i32_w]
        rfl
       refine pure_ (i := 10) (N := some 4) (v := ?_) (a' := ?_) #[true, true, true, true, true, true, true, true, true, true, true] rfl rfl (any_of HT_.out (by kernel_rfl)) (fun _ _ _ h => h) (Or.inl ⟨by rfl, ?_⟩) ?_ ?_
       rotate_left
       ·intro w'
        go_simp
        with_reducible rfl
       rotate_left
       ·simp only [Act.put, List.setIfInBounds_toArray, List.set_cons_zero, List.set_cons_succ, i64_w, i32_w]
        rfl
       refine done_ (done_of HT_.out (by kernel_rfl)) ?_
       try go_wp2
       go_ret
       exact ⟨_, by first | rfl | (simp [errW_none, errW_some] <;> rfl) | (simp only [← hji6]; first | rfl | (simp [errW_none, errW_some] <;> rfl)) | (simp [*, errW_none, errW_some] <;> rfl), by (with_reducible repeat (first | apply Kd.R_alloc | apply Kd.R_drewN | apply Kd.R_drew)); exact HO329.out, by repeat (first | (with_reducible first | exact HB.out | apply below_alloc | apply pw_below_drewN | apply below_drew1) | exact HB.out)⟩
      ·rw [if_neg c9] at H
       exact absurd H (by simp)
     ·rw [if_neg c8] at H
      exact absurd H (by simp)
    ·rw [if_neg c7] at H
     exact absurd H (by simp)
   ·rw [if_neg c5] at H
    exact absurd H (by simp)
  ·rw [if_neg c4] at H
   exact absurd H (by simp)
 ·rw [if_neg c3] at H
  exact absurd H (by simp)
end Go.Proofs.Ytlnfjhahnacmiaa.F
namespace Go.Proofs.Ytlnfjhahnacmiaa.F
open Go.RowKit Go.Proofs.YtlnfjhahnacmiaaW.PrintWords Go.Proofs.YtlnfjhahnacmiaaW.PrintLast Go.Proofs.YtlnfjhahnacmiaaW.PrintMore
attribute [local go_sem] max2_int min2_int max_two min_two max_three min_three max_four min_four   -- for this text's walks alone
set_option linter.unusedVariables false
set_option linter.unusedSimpArgs false
def spec_NeededFuses.l0 : Nat → Int → List (S39) → Int → List Int → Int → Option (List Int × Int)
 | 0, _, _, _, _, _ => none
 | k + 1, x0, x1, x2, x9, x10 => if x10 < (x1.length : Int) then ((spec_l10Without.f x1 x10).bind fun t334 => ((spec_l10Times.f k x0 t334).bind fun bt337 => (if 0 ≤ x2 then (if x2 < (bt337.1.length : Int) then (if (rd bt337.1 x2) < 0 then (if x9.length < 17592186044416 then (spec_NeededFuses.l0 k x0 x1 x2 (x9 ++ [x10]) (wrap64 (x10 + 1))) else (none)) else (spec_NeededFuses.l0 k x0 x1 x2 x9 (wrap64 (x10 + 1)))) else (none)) else (none)))) else (some (x9, 0))
def spec_NeededFuses.f (k : Nat) (a0 : Int) (l1 : List (S39)) (a2 : Int) : Option (List Int × Int) := (spec_l10Code.f k a0 l1 a2).bind fun t330 => (if t330 = 0 then (spec_NeededFuses.l0 k a0 l1 a2 (([] : List Int)) 0) else (some (([] : List Int), t330)))
theorem spec_NeededFuses.mono_l : ∀ k, (∀ y0 y1 y2 y3 y4, LeO (spec_NeededFuses.l0 k y0 y1 y2 y3 y4) (spec_NeededFuses.l0 (k + 1) y0 y1 y2 y3 y4))
 | 0 => fun _ _ _ _ _ r h => by simp [spec_NeededFuses.l0] at h
 | k + 1 => by
  have ih0 := spec_NeededFuses.mono_l k
  ·intro y0 y1 y2 y3 y4
   unfold spec_NeededFuses.l0
   repeat' first
   | (with_reducible exact ih0 _ _ _ _ _)
   | (with_reducible exact spec_l10Code.mono _ _ _ _)
   | (with_reducible exact spec_l10Times.mono _ _ _)
   | (with_reducible exact LeO.refl _)
   | (with_reducible exact LeO.none _)
   | (with_reducible refine LeO.ite ?_ ?_)
   | (with_reducible refine LeO.bind ?_ (fun _ => ?_))
   | exact ih0 _ _ _ _ _
   | exact spec_l10Code.mono _ _ _ _
   | exact spec_l10Times.mono _ _ _
   | exact LeO.none _
   | refine LeO.ite ?_ ?_
   | refine LeO.bind ?_ (fun _ => ?_)
theorem spec_NeededFuses.mono : ∀ a0 a1 a2 k, LeO (spec_NeededFuses.f k a0 a1 a2) (spec_NeededFuses.f (k + 1) a0 a1 a2) := by
 intro a0 a1 a2 k
 have ih0 := spec_NeededFuses.mono_l k
 unfold spec_NeededFuses.f
 repeat' first
   | (with_reducible exact ih0 _ _ _ _ _)
   | (with_reducible exact spec_l10Code.mono _ _ _ _)
   | (with_reducible exact spec_l10Times.mono _ _ _)
   | (with_reducible exact LeO.refl _)
   | (with_reducible exact LeO.none _)
   | (with_reducible refine LeO.ite ?_ ?_)
   | (with_reducible refine LeO.bind ?_ (fun _ => ?_))
   | exact ih0 _ _ _ _ _
   | exact spec_l10Code.mono _ _ _ _
   | exact spec_l10Times.mono _ _ _
   | exact LeO.none _
   | refine LeO.ite ?_ ?_
   | refine LeO.bind ?_ (fun _ => ?_)
set_option maxHeartbeats 8000000 in
set_option maxRecDepth 100000 in
theorem spec_NeededFuses.calls (k : Nat) (a0 : Int) (A1 : Option Addr) (c1 : Nat) (l1 : List (S39)) (a2 : Int) (r1 : List Int) (r2 : Int) (w : World) (hr1 : Kd.C k39 w A1 l1.length l1) (hc1 : l1.length ≤ c1) (h : spec_NeededFuses.f k a0 l1 a2 = some (r1, r2)) :
  Calls Try.prog 9 #[.int .i64 a0, .slice A1 l1.length c1, .int .i64 a2] w fun e w' => ∃ v0_ : Value, e = .returned (.tuple #[v0_, .int .i64 r2]) ∧ Kd.R (Kd.int .i64) 2 w' w.heap.size (fun _ => True) v0_ r1 ∧ Below w.heap.size w w' := by
 have HR1 := Aside0.mk hr1
 have HC1 := Aside0.mk hc1
 clear hr1 hc1
 have HB := Aside0.mk (Below.refl w.heap.size w)
 have H : ((spec_l10Code.f k a0 l1 a2).bind fun t330 => (if t330 = 0 then (spec_NeededFuses.l0 k a0 l1 a2 (([] : List Int)) 0) else (some (([] : List Int), t330)))) = some (r1, r2) := h
 clear h
 replace H := Option.bind_eq_some_iff.mp H
 obtain ⟨t330, A40, H⟩ := H
 replace H : (if t330 = 0 then (spec_NeededFuses.l0 k a0 l1 a2 (([] : List Int)) 0) else (some (([] : List Int), t330))) = some (r1, r2) := H
 have A4 := Aside0.mk A40
 clear A40
 by_cases c5 : t330 = 0
 ·rw [if_pos c5] at H
  have c5b0 : (t330 == 0) = true := beq_iff_eq.mpr c5
  have c5b1 : (t330 != 0) = false := bne_eq_false_iff_eq.mpr c5
  clear c5
  obtain ⟨y331, hy331⟩ : ∃ y_ : List Int, y_ = (([] : List Int)) := ⟨_, rfl⟩
  replace H : (spec_NeededFuses.l0 k a0 l1 a2 y331 0) = some (r1, r2) := by first | (rw [hy331]; with_reducible exact H) | (have H2_ := (Option.bind_some _ _).symm.trans H; rw [hy331]; with_reducible exact H2_) | (have H2_ := (Option.bind_some _ _).symm.trans H; with_reducible exact H2_) | with_reducible exact H | (rw [hy331]; exact H) | exact H
  have Ny331 := Aside0.mk hy331
  clear hy331
  have H' := Aside0.mk H
  clear H
  go_enter Try.func9, Try.ntmps9
  go_wp2_with (first | ((with_reducible refine gate_callee (f := 37) rfl ?_); refine goesL_ (some 16) rfl rfl Try.func37 (by kernel_rfl) rfl #[.int .i64 a0, .slice A1 l1.length c1, .int .i64 a2] rfl (by (try simp only [List.map_toArray, List.map_cons, List.map_nil]); first | done | rfl | (simp only [List.length_drop, List.length_take]; rfl)) ?_; (with_reducible refine (spec_l10Code.calls k a0 _ _ l1 a2 t330 _ ?side1 ?side2 A4.out).mono ?_); (case side1 => repeat (first | exact HR1.out | (with_reducible refine Kd.C_alloc ?_ _) | (with_reducible refine Kd.C_drewN ?_ _) | (with_reducible refine Kd.C_drew ?_))); (case side2 => exact HC1.out); rintro e w6 ⟨rfl, hb⟩; refine ⟨_, rfl, ?_⟩; have n0_ := Aside0.mk (below_step (by repeat (first | (with_reducible first | exact HB.out | apply below_alloc | apply pw_below_drewN | apply below_drew1) | exact HB.out)) hb); clear HB; have HB := n0_; clear n0_; (try clear hb); (try clear hb2); (try clear hk); (try clear hi)) | ((with_reducible refine gate_dst (N := 20) rfl ?_); refine Kd.R_lit (Kd.int .i64) _ 2 ?hg (N := 20) ?hd (xs := ([] : List Int)) (inner := []) (ok := fun _ => True) (okp := fun _ => True) ?hr ?hp (fun _ hk => hk) trivial (Below.refl _ _) (Nat.le_refl _) (by simp) ?_; (case hd => rfl); (case hg => rfl); (case hr => first | (go_simp; done) | (go_simp; rfl)); (case hp => exact (Reps.none _ _)); intro v332 w7 ho8 hb hg_ hnew_; clear hg_ hnew_; (first | rw [← Ny331.out] at ho8 | (simp only [Int.reduceToNat] at ho8; rw [← Ny331.out] at ho8)); have n0_ := Aside0.mk (Kd.R_lower ho8 (below_size (by repeat (first | (with_reducible first | exact HB.out | apply below_alloc | apply pw_below_drewN | apply below_drew1) | exact HB.out)))); have n1_ := Aside0.mk (below_step (by repeat (first | (with_reducible first | exact HB.out | apply below_alloc | apply pw_below_drewN | apply below_drew1) | exact HB.out)) hb); clear HB; have HO333 := n0_; have HB := n1_; clear n0_ n1_; clear hb ho8))
  go_loopg [9, 10] k (fun kq v9 v10 w' => ∃ (x9_1 : List Int) (x10_1 : Int), v10 = .int .i64 x10_1 ∧ Aside0 (spec_NeededFuses.l0 kq a0 l1 a2 x9_1 x10_1 = some (r1, r2)) ∧ Aside0 (kq ≤ k) ∧ Aside0 (Kd.R (Kd.int .i64) 2 w' w.heap.size (fun _ => True) v9 x9_1) ∧ Aside0 (Below w.heap.size w w'))
  case atStart => exact ⟨(y331), (0), (by first | rfl | (simp; done) | (simp [*]; done)), H', ⟨Nat.le_refl _⟩, ⟨by (with_reducible repeat (first | apply Kd.R_alloc | apply Kd.R_drewN | apply Kd.R_drew)); exact HO333.out⟩, ⟨by repeat (first | (with_reducible first | exact HB.out | apply below_alloc | apply pw_below_drewN | apply below_drew1) | exact HB.out)⟩⟩
  case round =>
   clear H'
   try clear c1
   try clear p2
   try clear c3
   try clear c5
   try clear c5b0
   try clear c5b1
   obtain ⟨x9_1, x10_1, rfl, HA, HK1, HO_9, HB⟩ := hrel
   cases gk with
   | zero => exact absurd HA.out (by simp [spec_NeededFuses.l0])
   | succ k1 =>
    have H := HA.out
    clear HA
    simp only [spec_NeededFuses.l0] at H
    by_cases c9 : x10_1 < (l1.length : Int)
    ·rw [if_pos c9] at H
     have c9b0 : decide (x10_1 < (l1.length : Int)) = true := decide_eq_true c9
     clear c9
     replace H := Option.bind_eq_some_iff.mp H
     obtain ⟨t334, A100, H⟩ := H
     replace H : ((spec_l10Times.f k1 a0 t334).bind fun bt337 => (if 0 ≤ a2 then (if a2 < (bt337.1.length : Int) then (if (rd bt337.1 a2) < 0 then (if x9_1.length < 17592186044416 then (spec_NeededFuses.l0 k1 a0 l1 a2 (x9_1 ++ [x10_1]) (wrap64 (x10_1 + 1))) else (none)) else (spec_NeededFuses.l0 k1 a0 l1 a2 x9_1 (wrap64 (x10_1 + 1)))) else (none)) else (none))) = some (r1, r2) := H
     have A10 := Aside0.mk A100
     clear A100
     replace H := Option.bind_eq_some_iff.mp H
     obtain ⟨⟨t337, t338⟩, A110, H⟩ := H
     replace H : (if 0 ≤ a2 then (if a2 < (t337.length : Int) then (if (rd t337 a2) < 0 then (if x9_1.length < 17592186044416 then (spec_NeededFuses.l0 k1 a0 l1 a2 (x9_1 ++ [x10_1]) (wrap64 (x10_1 + 1))) else (none)) else (spec_NeededFuses.l0 k1 a0 l1 a2 x9_1 (wrap64 (x10_1 + 1)))) else (none)) else (none)) = some (r1, r2) := H
     have A11 := Aside0.mk A110
     clear A110
     by_cases c12 : 0 ≤ a2
     ·rw [if_pos c12] at H
      have c12b0 : decide (0 ≤ a2) = true := decide_eq_true c12
      clear c12
      by_cases c13 : a2 < (t337.length : Int)
      ·rw [if_pos c13] at H
       have c13b0 : decide (a2 < (t337.length : Int)) = true := decide_eq_true c13
       clear c13
       by_cases c14 : (rd t337 a2) < 0
       ·rw [if_pos c14] at H
        have c14b0 : decide ((rd t337 a2) < 0) = true := decide_eq_true c14
        clear c14
        by_cases c15 : x9_1.length < 17592186044416
        ·rw [if_pos c15] at H
         have LMc15 := Aside0.mk c15
         clear c15
         obtain ⟨y344, hy344⟩ : ∃ y_ : List Int, y_ = (x9_1 ++ [x10_1]) := ⟨_, rfl⟩
         replace H : (spec_NeededFuses.l0 k1 a0 l1 a2 y344 (wrap64 (x10_1 + 1))) = some (r1, r2) := by first | (rw [hy344]; with_reducible exact H) | (have H2_ := (Option.bind_some _ _).symm.trans H; rw [hy344]; with_reducible exact H2_) | (have H2_ := (Option.bind_some _ _).symm.trans H; with_reducible exact H2_) | with_reducible exact H | (rw [hy344]; exact H) | exact H
         have Ny344 := Aside0.mk hy344
         clear hy344
         have H' := Aside0.mk H
         clear H
         go_wp2_with (first | ((with_reducible refine gate_callee (f := 39) rfl ?_); refine goesL_ (some 31) rfl rfl Try.func39 (by kernel_rfl) rfl #[.slice A1 l1.length c1, .int .i64 x10_1] rfl (by (try simp only [List.map_toArray, List.map_cons, List.map_nil]); first | done | rfl | (simp only [List.length_drop, List.length_take]; rfl)) ?_; (with_reducible refine (spec_l10Without.calls _ _ l1 x10_1 t334 _ ?side1 ?side2 A10.out).mono ?_); (case side1 => repeat (first | exact (Kd.C_below HR1.out HB.out) | (with_reducible refine Kd.C_alloc ?_ _) | (with_reducible refine Kd.C_drewN ?_ _) | (with_reducible refine Kd.C_drew ?_))); (case side2 => exact HC1.out); rintro e w16 ⟨v335, rfl, ho0, hb⟩; refine ⟨_, rfl, ?_⟩; have n0_ := Aside0.mk (Kd.R_below (by (with_reducible repeat (first | apply Kd.R_alloc | apply Kd.R_drewN | apply Kd.R_drew)); exact HO_9.out) hb); have n1_ := Aside0.mk (Kd.R_lower ho0 (below_size (by repeat (first | (with_reducible first | exact HB.out | apply below_alloc | apply pw_below_drewN | apply below_drew1) | exact HB.out)))); have n2_ := Aside0.mk (below_step (by repeat (first | (with_reducible first | exact HB.out | apply below_alloc | apply pw_below_drewN | apply below_drew1) | exact HB.out)) hb); clear HO_9; clear HB; have HO_9 := n0_; have HO336 := n1_; have HB := n2_; clear n0_ n1_ n2_; (try clear hb); (try clear hb2); (try clear hk); (try clear hi); (try clear ho0); obtain ⟨Ao17, co17, eo17⟩ := Kd.R_slice HO336.out; subst eo17) | ((with_reducible refine gate_callee (f := 38) rfl ?_); refine goesL_ (some 32) rfl rfl Try.func38 (by kernel_rfl) rfl #[.int .i64 a0, .slice Ao17 t334.length co17] rfl (by (try simp only [List.map_toArray, List.map_cons, List.map_nil]); first | done | rfl | (simp only [List.length_drop, List.length_take]; rfl)) ?_; (with_reducible refine (spec_l10Times.calls k1 a0 _ _ t334 t337 t338 _ ?side1 ?side2 A11.out).mono ?_); (case side1 => repeat (first | exact (Kd.R_reads' HO336.out).2.2 | (with_reducible refine Kd.C_alloc ?_ _) | (with_reducible refine Kd.C_drewN ?_ _) | (with_reducible refine Kd.C_drew ?_))); (case side2 => exact (Kd.R_reads' HO336.out).2.1); rintro e w18 ⟨v339, v341, rfl, ho0, ho1, hb⟩; refine ⟨_, rfl, ?_⟩; have n0_ := Aside0.mk (Kd.R_mono (Kd.R_told (Kd.R_told (Kd.R_old (by (with_reducible repeat (first | apply Kd.R_alloc | apply Kd.R_drewN | apply Kd.R_drew)); exact HO_9.out) hb) (Kd.R_base ho0)) (Kd.R_base ho1)) (fun _ h_ => h_.1)); have n1_ := Aside0.mk (Kd.R_below (by (with_reducible repeat (first | apply Kd.R_alloc | apply Kd.R_drewN | apply Kd.R_drew)); exact HO336.out) hb); have n2_ := Aside0.mk (Kd.R_lower (Kd.R_new' ho0 (Kd.R_lt (by (with_reducible repeat (first | apply Kd.R_alloc | apply Kd.R_drewN | apply Kd.R_drew)); exact HO_9.out))) (below_size (by repeat (first | (with_reducible first | exact HB.out | apply below_alloc | apply pw_below_drewN | apply below_drew1) | exact HB.out)))); have n3_ := Aside0.mk (Kd.R_lower (Kd.R_new' ho1 (Kd.R_lt (by (with_reducible repeat (first | apply Kd.R_alloc | apply Kd.R_drewN | apply Kd.R_drew)); exact HO_9.out))) (below_size (by repeat (first | (with_reducible first | exact HB.out | apply below_alloc | apply pw_below_drewN | apply below_drew1) | exact HB.out)))); have n4_ := Aside0.mk (below_step (by repeat (first | (with_reducible first | exact HB.out | apply below_alloc | apply pw_below_drewN | apply below_drew1) | exact HB.out)) hb); clear HO_9; clear HO336; clear HB; have HO_9 := n0_; have HO336 := n1_; have HO340 := n2_; have HO342 := n3_; have HB := n4_; clear n0_ n1_ n2_ n3_ n4_; (try clear hb); (try clear hb2); (try clear hk); (try clear hi); (try clear ho0); (try clear ho1); obtain ⟨Ao19, co19, eo19⟩ := Kd.R_slice HO340.out; subst eo19; have p343 : 0 ≤ (a2 : Int) := of_decide_eq_true (by first | (with_reducible assumption) | assumption); have q343 : a2 < (t337.length : Int) := of_decide_eq_true (by first | (with_reducible assumption) | assumption); obtain ⟨ad343, e343, hx343_0⟩ := Kd.at_int (Kd.R_reads' HO340.out).2.2 a2 p343 q343; cases e343; replace p343 := eq_true p343; replace q343 := eq_true q343) | ((with_reducible refine gate_builtin (b := .append) (xs := #[.tmp 40, .tmp 42]) rfl ?_); at_builtin; refine Kd.R_append (Kd.int .i64) (w0 := w) w.heap.size rfl (.tmp 40) (.tmp 42) 27 2 (.int .i64 0) 8 rfl Try.underlying27 info2 rfl (by decide) (by omega) u9 x9_1 x10_1 [.int .i64 x10_1] (fun k_ => some k_ ≠ (.slice (some ad343) t337.length co19 : Value).ownBlock ∧ some k_ ≠ (v341 : Value).ownBlock) (fun _ => False) rfl rfl ?aP (fun _ hk => hk.elim) ?aF ?aO ?aB ?aS ?aL ?_; (case aP => exact rfl); (case aB => exact (by repeat (first | (with_reducible first | exact HB.out | apply below_alloc | apply pw_below_drewN | apply below_drew1) | exact HB.out))); (case aF => exact (fun k_ hk => ⟨Kd.fresh' (Kd.R_lt (by (with_reducible repeat (first | apply Kd.R_alloc | apply Kd.R_drewN | apply Kd.R_drew)); exact HO340.out)) k_ hk, Kd.fresh' (Kd.R_lt (by (with_reducible repeat (first | apply Kd.R_alloc | apply Kd.R_drewN | apply Kd.R_drew)); exact HO342.out)) k_ hk⟩)); (case aO => exact (by (with_reducible repeat (first | apply Kd.R_alloc | apply Kd.R_drewN | apply Kd.R_drew)); exact Kd.R_mono HO_9.out (fun _ hk => ⟨hk.1.2, hk.2⟩))); (case aS => exact (below_size (by repeat (first | (with_reducible first | exact HB.out | apply below_alloc | apply pw_below_drewN | apply below_drew1) | exact HB.out)))); (case aL => have := LMc15.out; omega); intro v345 w20 ho hb hg hat; rw [← Ny344.out] at ho; have n0_ := Aside0.mk (Kd.R_over' (by (with_reducible repeat (first | apply Kd.R_alloc | apply Kd.R_drewN | apply Kd.R_drew)); exact HO336.out) (Kd.R_typed (by (with_reducible repeat (first | apply Kd.R_alloc | apply Kd.R_drewN | apply Kd.R_drew)); exact HO_9.out)) (by decide) hg); have n1_ := Aside0.mk (Kd.R_after (ok := (fun k_ => some k_ ≠ (v341 : Value).ownBlock)) (by (with_reducible repeat (first | apply Kd.R_alloc | apply Kd.R_drewN | apply Kd.R_drew)); exact HO340.out) hg hat); have n2_ := Aside0.mk (Kd.R_after (ok := (fun k_ => some k_ ≠ (.slice (some ad343) t337.length co19 : Value).ownBlock)) (by (with_reducible repeat (first | apply Kd.R_alloc | apply Kd.R_drewN | apply Kd.R_drew)); exact HO342.out) hg hat); have n3_ := Aside0.mk (hb); have n4_ := Aside0.mk (ho); clear HO336; clear HO340; clear HO342; clear HB; clear HO_9; have HO336 := n0_; have HO340 := n1_; have HO342 := n2_; have HB := n3_; have HO346 := n4_; clear n0_ n1_ n2_ n3_ n4_; clear ho hb hg hat))
         go_roundg k1
         case measure => have := HK1.out; omega
         case rel => exact ⟨(y344), (wrap64 (x10_1 + 1)), (by first | rfl | (simp; done) | (simp [*]; done)), H', ⟨by have := HK1.out; omega⟩, ⟨by (with_reducible repeat (first | apply Kd.R_alloc | apply Kd.R_drewN | apply Kd.R_drew)); exact Kd.R_mono HO346.out (fun _ hk => trivial)⟩, ⟨by repeat (first | (with_reducible first | exact HB.out | apply below_alloc | apply pw_below_drewN | apply below_drew1) | exact HB.out)⟩⟩
        ·rw [if_neg c15] at H
         exact absurd H (by simp)
       ·rw [if_neg c14] at H
        have c14b0 : decide ((rd t337 a2) < 0) = false := decide_eq_false c14
        clear c14
        have H' := Aside0.mk H
        clear H
        go_wp2_with (first | ((with_reducible refine gate_callee (f := 39) rfl ?_); refine goesL_ (some 31) rfl rfl Try.func39 (by kernel_rfl) rfl #[.slice A1 l1.length c1, .int .i64 x10_1] rfl (by (try simp only [List.map_toArray, List.map_cons, List.map_nil]); first | done | rfl | (simp only [List.length_drop, List.length_take]; rfl)) ?_; (with_reducible refine (spec_l10Without.calls _ _ l1 x10_1 t334 _ ?side1 ?side2 A10.out).mono ?_); (case side1 => repeat (first | exact (Kd.C_below HR1.out HB.out) | (with_reducible refine Kd.C_alloc ?_ _) | (with_reducible refine Kd.C_drewN ?_ _) | (with_reducible refine Kd.C_drew ?_))); (case side2 => exact HC1.out); rintro e w21 ⟨v335, rfl, ho0, hb⟩; refine ⟨_, rfl, ?_⟩; have n0_ := Aside0.mk (Kd.R_below (by (with_reducible repeat (first | apply Kd.R_alloc | apply Kd.R_drewN | apply Kd.R_drew)); exact HO_9.out) hb); have n1_ := Aside0.mk (Kd.R_lower ho0 (below_size (by repeat (first | (with_reducible first | exact HB.out | apply below_alloc | apply pw_below_drewN | apply below_drew1) | exact HB.out)))); have n2_ := Aside0.mk (below_step (by repeat (first | (with_reducible first | exact HB.out | apply below_alloc | apply pw_below_drewN | apply below_drew1) | exact HB.out)) hb); clear HO_9; clear HB; have HO_9 := n0_; have HO336 := n1_; have HB := n2_; clear n0_ n1_ n2_; (try clear hb); (try clear hb2); (try clear hk); (try clear hi); (try clear ho0); obtain ⟨Ao22, co22, eo22⟩ := Kd.R_slice HO336.out; subst eo22) | ((with_reducible refine gate_callee (f := 38) rfl ?_); refine goesL_ (some 32) rfl rfl Try.func38 (by kernel_rfl) rfl #[.int .i64 a0, .slice Ao22 t334.length co22] rfl (by (try simp only [List.map_toArray, List.map_cons, List.map_nil]); first | done | rfl | (simp only [List.length_drop, List.length_take]; rfl)) ?_; (with_reducible refine (spec_l10Times.calls k1 a0 _ _ t334 t337 t338 _ ?side1 ?side2 A11.out).mono ?_); (case side1 => repeat (first | exact (Kd.R_reads' HO336.out).2.2 | (with_reducible refine Kd.C_alloc ?_ _) | (with_reducible refine Kd.C_drewN ?_ _) | (with_reducible refine Kd.C_drew ?_))); (case side2 => exact (Kd.R_reads' HO336.out).2.1); rintro e w23 ⟨v339, v341, rfl, ho0, ho1, hb⟩; refine ⟨_, rfl, ?_⟩; have n0_ := Aside0.mk (Kd.R_mono (Kd.R_told (Kd.R_told (Kd.R_old (by (with_reducible repeat (first | apply Kd.R_alloc | apply Kd.R_drewN | apply Kd.R_drew)); exact HO_9.out) hb) (Kd.R_base ho0)) (Kd.R_base ho1)) (fun _ h_ => h_.1)); have n1_ := Aside0.mk (Kd.R_below (by (with_reducible repeat (first | apply Kd.R_alloc | apply Kd.R_drewN | apply Kd.R_drew)); exact HO336.out) hb); have n2_ := Aside0.mk (Kd.R_lower (Kd.R_new' ho0 (Kd.R_lt (by (with_reducible repeat (first | apply Kd.R_alloc | apply Kd.R_drewN | apply Kd.R_drew)); exact HO_9.out))) (below_size (by repeat (first | (with_reducible first | exact HB.out | apply below_alloc | apply pw_below_drewN | apply below_drew1) | exact HB.out)))); have n3_ := Aside0.mk (Kd.R_lower (Kd.R_new' ho1 (Kd.R_lt (by (with_reducible repeat (first | apply Kd.R_alloc | apply Kd.R_drewN | apply Kd.R_drew)); exact HO_9.out))) (below_size (by repeat (first | (with_reducible first | exact HB.out | apply below_alloc | apply pw_below_drewN | apply below_drew1) | exact HB.out)))); have n4_ := Aside0.mk (below_step (by repeat (first | (with_reducible first | exact HB.out | apply below_alloc | apply pw_below_drewN | apply below_drew1) | exact HB.out)) hb); clear HO_9; clear HO336; clear HB; have HO_9 := n0_; have HO336 := n1_; have HO340 := n2_; have HO342 := n3_; have HB := n4_; clear n0_ n1_ n2_ n3_ n4_; (try clear hb); (try clear hb2); (try clear hk); (try clear hi); (try clear ho0); (try clear ho1); obtain ⟨Ao24, co24, eo24⟩ := Kd.R_slice HO340.out; subst eo24; have p343 : 0 ≤ (a2 : Int) := of_decide_eq_true (by first | (with_reducible assumption) | assumption); have q343 : a2 < (t337.length : Int) := of_decide_eq_true (by first | (with_reducible assumption) | assumption); obtain ⟨ad343, e343, hx343_0⟩ := Kd.at_int (Kd.R_reads' HO340.out).2.2 a2 p343 q343; cases e343; replace p343 := eq_true p343; replace q343 := eq_true q343))
        go_roundg k1
        case measure => have := HK1.out; omega
        case rel => exact ⟨(x9_1), (wrap64 (x10_1 + 1)), (by first | rfl | (simp; done) | (simp [*]; done)), H', ⟨by have := HK1.out; omega⟩, ⟨by (with_reducible repeat (first | apply Kd.R_alloc | apply Kd.R_drewN | apply Kd.R_drew)); exact Kd.R_mono HO_9.out (fun _ hk => trivial)⟩, ⟨by repeat (first | (with_reducible first | exact HB.out | apply below_alloc | apply pw_below_drewN | apply below_drew1) | exact HB.out)⟩⟩
      ·rw [if_neg c13] at H
       exact absurd H (by simp)
     ·rw [if_neg c12] at H
      exact absurd H (by simp)
    ·rw [if_neg c9] at H
     have c9b0 : decide (x10_1 < (l1.length : Int)) = false := decide_eq_false c9
     clear c9
     simp only [Option.some.injEq, Prod.mk.injEq] at H
     obtain ⟨rfl, rfl⟩ := H
     go_wp2
     go_ret2
     exact ⟨_, by first | rfl | (simp [errW_none, errW_some] <;> rfl) | (simp [*, errW_none, errW_some] <;> rfl), by (with_reducible repeat (first | apply Kd.R_alloc | apply Kd.R_drewN | apply Kd.R_drew)); exact HO_9.out, by repeat (first | (with_reducible first | exact HB.out | apply below_alloc | apply pw_below_drewN | apply below_drew1) | exact HB.out)⟩
 ·rw [if_neg c5] at H
  have c5b0 : (t330 == 0) = false := beq_eq_false_iff_ne.mpr c5
  have c5b1 : (t330 != 0) = true := bne_iff_ne.mpr c5
  simp only [Option.some.injEq, Prod.mk.injEq] at H
  obtain ⟨rfl, rfl⟩ := H
  go_enter Try.func9, Try.ntmps9
  go_wp2_with (first | ((with_reducible refine gate_callee (f := 37) rfl ?_); refine goesL_ (some 16) rfl rfl Try.func37 (by kernel_rfl) rfl #[.int .i64 a0, .slice A1 l1.length c1, .int .i64 a2] rfl (by (try simp only [List.map_toArray, List.map_cons, List.map_nil]); first | done | rfl | (simp only [List.length_drop, List.length_take]; rfl)) ?_; (with_reducible refine (spec_l10Code.calls k a0 _ _ l1 a2 t330 _ ?side1 ?side2 A4.out).mono ?_); (case side1 => repeat (first | exact HR1.out | (with_reducible refine Kd.C_alloc ?_ _) | (with_reducible refine Kd.C_drewN ?_ _) | (with_reducible refine Kd.C_drew ?_))); (case side2 => exact HC1.out); rintro e w25 ⟨rfl, hb⟩; refine ⟨_, rfl, ?_⟩; have n0_ := Aside0.mk (below_step (by repeat (first | (with_reducible first | exact HB.out | apply below_alloc | apply pw_below_drewN | apply below_drew1) | exact HB.out)) hb); clear HB; have HB := n0_; clear n0_; (try clear hb); (try clear hb2); (try clear hk); (try clear hi)))
  go_ret2
  exact ⟨_, by first | rfl | (simp [errW_none, errW_some] <;> rfl) | (simp [*, errW_none, errW_some] <;> rfl), by first | exact Kd.R_nil _ _ _ _ _ | exact Kd.N_nil _ _ _ _ _ | exact Kd.V_nil _ _ _ _ _ | exact Kd.Q_nil _ _ _ _ _ | exact Kd.S_nil _ _ _ _ _, by repeat (first | (with_reducible first | exact HB.out | apply below_alloc | apply pw_below_drewN | apply below_drew1) | exact HB.out)⟩
end Go.Proofs.Ytlnfjhahnacmiaa.F
namespace Go.Proofs.Ytlnfjhahnacmiaa.F
open Go.RowKit Go.Proofs.YtlnfjhahnacmiaaW.PrintWords Go.Proofs.YtlnfjhahnacmiaaW.PrintLast Go.Proofs.YtlnfjhahnacmiaaW.PrintMore
attribute [local go_sem] max2_int min2_int max_two min_two max_three min_three max_four min_four   -- for this text's walks alone
set_option linter.unusedVariables false
set_option linter.unusedSimpArgs false
def impl_IdleFuses.l0 : Nat → List Int → List Int → List Int → List (S39) → Int → Int → Option (List Int × Int)
 | 0, _, _, _, _, _, _ => none
 | k + 1, x6, x7, x8, x21, x22, x23 => if x23 < x22 then (if 0 ≤ x23 then (if x23 < (x21.length : Int) then (if 0 ≤ ((rd_T39 x21 x23).f0) then (if ((rd_T39 x21 x23).f0) < (x6.length : Int) then (if (rd x6 ((rd_T39 x21 x23).f0)) < 0 then (if x8.length < 17592186044416 then (impl_IdleFuses.l0 k x6 x7 (x8 ++ [x23]) x21 x22 (wrap64 (x23 + 1))) else (none)) else (if 0 ≤ ((rd_T39 x21 x23).f1) then (if ((rd_T39 x21 x23).f1) < (x7.length : Int) then (if (wrap64 ((rd x6 ((rd_T39 x21 x23).f0)) + ((rd_T39 x21 x23).f2))) > (rd x7 ((rd_T39 x21 x23).f1)) then (if x8.length < 17592186044416 then (impl_IdleFuses.l0 k x6 x7 (x8 ++ [x23]) x21 x22 (wrap64 (x23 + 1))) else (none)) else (impl_IdleFuses.l0 k x6 x7 x8 x21 x22 (wrap64 (x23 + 1)))) else (none)) else (none))) else (none)) else (none)) else (none)) else (none)) else (some (x8, 0))
def impl_IdleFuses.f (k : Nat) (a0 : Int) (l1 : List (S39)) : Option (List Int × Int) := (impl_AreFuses.f k a0 l1).bind fun t347 => (if t347 = true then ((impl_litTimes.f k a0 l1).bind fun bt348 => (impl_IdleFuses.l0 k bt348.1 bt348.2 ([] : List Int) l1 (l1.length : Int) 0)) else (some (([] : List Int), 1)))
theorem impl_IdleFuses.mono_l : ∀ k, (∀ y0 y1 y2 y3 y4 y5, LeO (impl_IdleFuses.l0 k y0 y1 y2 y3 y4 y5) (impl_IdleFuses.l0 (k + 1) y0 y1 y2 y3 y4 y5))
 | 0 => fun _ _ _ _ _ _ r h => by simp [impl_IdleFuses.l0] at h
 | k + 1 => by
  have ih0 := impl_IdleFuses.mono_l k
  ·intro y0 y1 y2 y3 y4 y5
   unfold impl_IdleFuses.l0
   repeat' first
   | (with_reducible exact ih0 _ _ _ _ _ _)
   | (with_reducible exact impl_AreFuses.mono _ _ _)
   | (with_reducible exact impl_litTimes.mono _ _ _)
   | (with_reducible exact LeO.refl _)
   | (with_reducible exact LeO.none _)
   | (with_reducible refine LeO.ite ?_ ?_)
   | (with_reducible refine LeO.bind ?_ (fun _ => ?_))
   | exact ih0 _ _ _ _ _ _
   | exact impl_AreFuses.mono _ _ _
   | exact impl_litTimes.mono _ _ _
   | exact LeO.none _
   | refine LeO.ite ?_ ?_
   | refine LeO.bind ?_ (fun _ => ?_)
theorem impl_IdleFuses.mono : ∀ a0 a1 k, LeO (impl_IdleFuses.f k a0 a1) (impl_IdleFuses.f (k + 1) a0 a1) := by
 intro a0 a1 k
 have ih0 := impl_IdleFuses.mono_l k
 unfold impl_IdleFuses.f
 repeat' first
   | (with_reducible exact ih0 _ _ _ _ _ _)
   | (with_reducible exact impl_AreFuses.mono _ _ _)
   | (with_reducible exact impl_litTimes.mono _ _ _)
   | (with_reducible exact LeO.refl _)
   | (with_reducible exact LeO.none _)
   | (with_reducible refine LeO.ite ?_ ?_)
   | (with_reducible refine LeO.bind ?_ (fun _ => ?_))
   | exact ih0 _ _ _ _ _ _
   | exact impl_AreFuses.mono _ _ _
   | exact impl_litTimes.mono _ _ _
   | exact LeO.none _
   | refine LeO.ite ?_ ?_
   | refine LeO.bind ?_ (fun _ => ?_)
set_option maxHeartbeats 8000000 in
set_option maxRecDepth 100000 in
theorem impl_IdleFuses.calls (k : Nat) (a0 : Int) (A1 : Option Addr) (c1 : Nat) (l1 : List (S39)) (r1 : List Int) (r2 : Int) (w : World) (hr1 : Kd.C k39 w A1 l1.length l1) (hc1 : l1.length ≤ c1) (h : impl_IdleFuses.f k a0 l1 = some (r1, r2)) :
  Calls Try.prog 10 #[.int .i64 a0, .slice A1 l1.length c1] w fun e w' => ∃ v0_ : Value, e = .returned (.tuple #[v0_, .int .i64 r2]) ∧ Kd.R (Kd.int .i64) 2 w' w.heap.size (fun _ => True) v0_ r1 ∧ Below w.heap.size w w' := by
 have hu39 := Try.underlying39
 have HR1 := Aside0.mk hr1
 have HC1 := Aside0.mk hc1
 clear hr1 hc1
 have HB := Aside0.mk (Below.refl w.heap.size w)
 have H : ((impl_AreFuses.f k a0 l1).bind fun t347 => (if t347 = true then ((impl_litTimes.f k a0 l1).bind fun bt348 => (impl_IdleFuses.l0 k bt348.1 bt348.2 ([] : List Int) l1 (l1.length : Int) 0)) else (some (([] : List Int), 1)))) = some (r1, r2) := h
 clear h
 replace H := Option.bind_eq_some_iff.mp H
 obtain ⟨t347, A30, H⟩ := H
 replace H : (if t347 = true then ((impl_litTimes.f k a0 l1).bind fun bt348 => (impl_IdleFuses.l0 k bt348.1 bt348.2 ([] : List Int) l1 (l1.length : Int) 0)) else (some (([] : List Int), 1))) = some (r1, r2) := H
 have A3 := Aside0.mk A30
 clear A30
 by_cases c4 : t347 = true
 ·subst c4
  have H1 : ((impl_litTimes.f k a0 l1).bind fun bt348 => (impl_IdleFuses.l0 k bt348.1 bt348.2 ([] : List Int) l1 (l1.length : Int) 0)) = some (r1, r2) := by rw [if_pos rfl] at H; exact H
  clear H
  have H := H1
  clear H1
  replace H := Option.bind_eq_some_iff.mp H
  obtain ⟨⟨t348, t349⟩, A50, H⟩ := H
  replace H : (impl_IdleFuses.l0 k t348 t349 ([] : List Int) l1 (l1.length : Int) 0) = some (r1, r2) := H
  have A5 := Aside0.mk A50
  clear A50
  have H' := Aside0.mk H
  clear H
  go_enter Try.func10, Try.ntmps10
  go_wp2_with (first | (go_at_call 20; (with_reducible refine (impl_AreFuses.calls k a0 _ _ l1 true _ ?side1 ?side2 A3.out).mono ?_); (case side1 => repeat (first | exact HR1.out | (with_reducible refine Kd.C_alloc ?_ _) | (with_reducible refine Kd.C_drewN ?_ _) | (with_reducible refine Kd.C_drew ?_))); (case side2 => exact HC1.out); rintro e w6 ⟨rfl, hb⟩; have n0_ := Aside0.mk (below_step (by repeat (first | (with_reducible first | exact HB.out | apply below_alloc | apply pw_below_drewN | apply below_drew1) | exact HB.out)) hb); clear HB; have HB := n0_; clear n0_; (try clear hb); (try clear hb2); (try clear hk); (try clear hi)) | (go_at_call 35; (with_reducible refine (impl_litTimes.calls k a0 _ _ l1 t348 t349 _ ?side1 ?side2 A5.out).mono ?_); (case side1 => repeat (first | exact (Kd.C_below HR1.out HB.out) | (with_reducible refine Kd.C_alloc ?_ _) | (with_reducible refine Kd.C_drewN ?_ _) | (with_reducible refine Kd.C_drew ?_))); (case side2 => exact HC1.out); rintro e w7 ⟨v350, v352, rfl, ho0, ho1, hb⟩; have n0_ := Aside0.mk (Kd.R_lower ho0 (below_size (by repeat (first | (with_reducible first | exact HB.out | apply below_alloc | apply pw_below_drewN | apply below_drew1) | exact HB.out)))); have n1_ := Aside0.mk (Kd.R_lower ho1 (below_size (by repeat (first | (with_reducible first | exact HB.out | apply below_alloc | apply pw_below_drewN | apply below_drew1) | exact HB.out)))); have n2_ := Aside0.mk (below_step (by repeat (first | (with_reducible first | exact HB.out | apply below_alloc | apply pw_below_drewN | apply below_drew1) | exact HB.out)) hb); clear HB; have HO351 := n0_; have HO353 := n1_; have HB := n2_; clear n0_ n1_ n2_; (try clear hb); (try clear hb2); (try clear hk); (try clear hi); (try clear ho0); (try clear ho1)))
  repeat (go_quiet (first | (go_at_call 20; (with_reducible refine (impl_AreFuses.calls k a0 _ _ l1 true _ ?side1 ?side2 A3.out).mono ?_); (case side1 => repeat (first | exact HR1.out | (with_reducible refine Kd.C_alloc ?_ _) | (with_reducible refine Kd.C_drewN ?_ _) | (with_reducible refine Kd.C_drew ?_))); (case side2 => exact HC1.out); rintro e w6 ⟨rfl, hb⟩; have n0_ := Aside0.mk (below_step (by repeat (first | (with_reducible first | exact HB.out | apply below_alloc | apply pw_below_drewN | apply below_drew1) | exact HB.out)) hb); clear HB; have HB := n0_; clear n0_; (try clear hb); (try clear hb2); (try clear hk); (try clear hi)) | (go_at_call 35; (with_reducible refine (impl_litTimes.calls k a0 _ _ l1 t348 t349 _ ?side1 ?side2 A5.out).mono ?_); (case side1 => repeat (first | exact (Kd.C_below HR1.out HB.out) | (with_reducible refine Kd.C_alloc ?_ _) | (with_reducible refine Kd.C_drewN ?_ _) | (with_reducible refine Kd.C_drew ?_))); (case side2 => exact HC1.out); rintro e w7 ⟨v350, v352, rfl, ho0, ho1, hb⟩; have n0_ := Aside0.mk (Kd.R_lower ho0 (below_size (by repeat (first | (with_reducible first | exact HB.out | apply below_alloc | apply pw_below_drewN | apply below_drew1) | exact HB.out)))); have n1_ := Aside0.mk (Kd.R_lower ho1 (below_size (by repeat (first | (with_reducible first | exact HB.out | apply below_alloc | apply pw_below_drewN | apply below_drew1) | exact HB.out)))); have n2_ := Aside0.mk (below_step (by repeat (first | (with_reducible first | exact HB.out | apply below_alloc | apply pw_below_drewN | apply below_drew1) | exact HB.out)) hb); clear HB; have HO351 := n0_; have HO353 := n1_; have HB := n2_; clear n0_ n1_ n2_; (try clear hb); (try clear hb2); (try clear hk); (try clear hi); (try clear ho0); (try clear ho1))); try go_wp2_with (first | (go_at_call 20; (with_reducible refine (impl_AreFuses.calls k a0 _ _ l1 true _ ?side1 ?side2 A3.out).mono ?_); (case side1 => repeat (first | exact HR1.out | (with_reducible refine Kd.C_alloc ?_ _) | (with_reducible refine Kd.C_drewN ?_ _) | (with_reducible refine Kd.C_drew ?_))); (case side2 => exact HC1.out); rintro e w6 ⟨rfl, hb⟩; have n0_ := Aside0.mk (below_step (by repeat (first | (with_reducible first | exact HB.out | apply below_alloc | apply pw_below_drewN | apply below_drew1) | exact HB.out)) hb); clear HB; have HB := n0_; clear n0_; (try clear hb); (try clear hb2); (try clear hk); (try clear hi)) | (go_at_call 35; (with_reducible refine (impl_litTimes.calls k a0 _ _ l1 t348 t349 _ ?side1 ?side2 A5.out).mono ?_); (case side1 => repeat (first | exact (Kd.C_below HR1.out HB.out) | (with_reducible refine Kd.C_alloc ?_ _) | (with_reducible refine Kd.C_drewN ?_ _) | (with_reducible refine Kd.C_drew ?_))); (case side2 => exact HC1.out); rintro e w7 ⟨v350, v352, rfl, ho0, ho1, hb⟩; have n0_ := Aside0.mk (Kd.R_lower ho0 (below_size (by repeat (first | (with_reducible first | exact HB.out | apply below_alloc | apply pw_below_drewN | apply below_drew1) | exact HB.out)))); have n1_ := Aside0.mk (Kd.R_lower ho1 (below_size (by repeat (first | (with_reducible first | exact HB.out | apply below_alloc | apply pw_below_drewN | apply below_drew1) | exact HB.out)))); have n2_ := Aside0.mk (below_step (by repeat (first | (with_reducible first | exact HB.out | apply below_alloc | apply pw_below_drewN | apply below_drew1) | exact HB.out)) hb); clear HB; have HO351 := n0_; have HO353 := n1_; have HB := n2_; clear n0_ n1_ n2_; (try clear hb); (try clear hb2); (try clear hk); (try clear hi); (try clear ho0); (try clear ho1))))
  go_loopg [8, 23] k (fun kq v8 v23 w' => ∃ (x8_1 : List Int) (x23_1 : Int), v23 = .int .i64 x23_1 ∧ Aside0 (impl_IdleFuses.l0 kq t348 t349 x8_1 l1 (l1.length : Int) x23_1 = some (r1, r2)) ∧ Aside0 (kq ≤ k) ∧ Aside0 (Kd.R (Kd.int .i64) 2 w' w.heap.size (fun k_ => some k_ ≠ (v352 : Value).ownBlock ∧ some k_ ≠ (v8 : Value).ownBlock) v350 t348) ∧ Aside0 (Kd.R (Kd.int .i64) 2 w' w.heap.size (fun k_ => some k_ ≠ (v350 : Value).ownBlock ∧ some k_ ≠ (v8 : Value).ownBlock) v352 t349) ∧ Aside0 (Kd.R (Kd.int .i64) 2 w' w.heap.size (fun k_ => some k_ ≠ (v350 : Value).ownBlock ∧ some k_ ≠ (v352 : Value).ownBlock) v8 x8_1) ∧ Aside0 (Below w.heap.size w w'))
  case atStart => exact ⟨(([] : List Int)), (0), (by first | rfl | (simp; done) | (simp [*]; done)), H', ⟨Nat.le_refl _⟩, ⟨by (with_reducible repeat (first | apply Kd.R_alloc | apply Kd.R_drewN | apply Kd.R_drew)); exact Kd.R_mono HO351.out (fun _ hk => ⟨hk, (by simp [Value.ownBlock])⟩)⟩, ⟨by (with_reducible repeat (first | apply Kd.R_alloc | apply Kd.R_drewN | apply Kd.R_drew)); exact Kd.R_mono HO353.out (fun _ hk => ⟨hk, (by simp [Value.ownBlock])⟩)⟩, ⟨by first | exact Kd.R_nil _ _ _ _ _ | exact Kd.N_nil _ _ _ _ _ | exact Kd.V_nil _ _ _ _ _ | exact Kd.Q_nil _ _ _ _ _ | exact Kd.S_nil _ _ _ _ _⟩, ⟨by repeat (first | (with_reducible first | exact HB.out | apply below_alloc | apply pw_below_drewN | apply below_drew1) | exact HB.out)⟩⟩
  case round =>
   clear H'
   try clear c1
   try clear p2
   try clear c4
   obtain ⟨x8_1, x23_1, rfl, HA, HK1, HO_6, HO_7, HO_8, HB⟩ := hrel
   cases gk with
   | zero => exact absurd HA.out (by simp [impl_IdleFuses.l0])
   | succ k1 =>
    have H := HA.out
    clear HA
    simp only [impl_IdleFuses.l0] at H
    by_cases c8 : x23_1 < (l1.length : Int)
    ·rw [if_pos c8] at H
     have c8b0 : decide (x23_1 < (l1.length : Int)) = true := decide_eq_true c8
     clear c8
     by_cases c9 : 0 ≤ x23_1
     ·rw [if_pos c9] at H
      have c9b0 : decide (0 ≤ x23_1) = true := decide_eq_true c9
      clear c9
      by_cases c10 : x23_1 < (l1.length : Int)
      ·rw [if_pos c10] at H
       have c10b0 : decide (x23_1 < (l1.length : Int)) = true := decide_eq_true c10
       clear c10
       by_cases c11 : 0 ≤ ((rd_T39 l1 x23_1).f0)
       ·rw [if_pos c11] at H
        have c11b0 : decide (0 ≤ ((rd_T39 l1 x23_1).f0)) = true := decide_eq_true c11
        clear c11
        by_cases c12 : ((rd_T39 l1 x23_1).f0) < (t348.length : Int)
        ·rw [if_pos c12] at H
         have c12b0 : decide (((rd_T39 l1 x23_1).f0) < (t348.length : Int)) = true := decide_eq_true c12
         clear c12
         by_cases c13 : (rd t348 ((rd_T39 l1 x23_1).f0)) < 0
         ·rw [if_pos c13] at H
          have c13b0 : decide ((rd t348 ((rd_T39 l1 x23_1).f0)) < 0) = true := decide_eq_true c13
          clear c13
          by_cases c14 : x8_1.length < 17592186044416
          ·rw [if_pos c14] at H
           have LMc14 := Aside0.mk c14
           clear c14
           obtain ⟨y357, hy357⟩ : ∃ y_ : List Int, y_ = (x8_1 ++ [x23_1]) := ⟨_, rfl⟩
           replace H : (impl_IdleFuses.l0 k1 t348 t349 y357 l1 (l1.length : Int) (wrap64 (x23_1 + 1))) = some (r1, r2) := by first | (rw [hy357]; with_reducible exact H) | (have H2_ := (Option.bind_some _ _).symm.trans H; rw [hy357]; with_reducible exact H2_) | (have H2_ := (Option.bind_some _ _).symm.trans H; with_reducible exact H2_) | with_reducible exact H | (rw [hy357]; exact H) | exact H
           have Ny357 := Aside0.mk hy357
           clear hy357
           have H' := Aside0.mk H
           clear H
           have p354 : 0 ≤ (x23_1 : Int) := of_decide_eq_true (by first | (with_reducible assumption) | assumption)
           have q354 : x23_1 < (l1.length : Int) := of_decide_eq_true (by first | (with_reducible assumption) | assumption)
           obtain ⟨ad354, e354, hx354_0, hx354_1, hx354_2, hx354_3⟩ := at_T39 HR1.out x23_1 p354 q354
           cases e354
           replace hx354_0 := (HB.out.cell (World.block_lt_of_cell? w _ hx354_0)).trans hx354_0
           replace hx354_1 := (HB.out.cell (World.block_lt_of_cell? w _ hx354_1)).trans hx354_1
           replace hx354_2 := (HB.out.cell (World.block_lt_of_cell? w _ hx354_2)).trans hx354_2
           replace hx354_3 := (HB.out.cell (World.block_lt_of_cell? w _ hx354_3)).trans hx354_3
           replace p354 := eq_true p354
           replace q354 := eq_true q354
           go_wp2_with (first | ((with_reducible refine gate_dst (N := 10) rfl ?_); refine box_event ?hg (N := 10) ?hd (cs := #[.int .i64 0, .int .i64 0, .int .i64 0, .int .i64 0]) (t := 39) ?hr ?_; (case hd => rfl); (case hg => rfl); (case hr => first | (go_simp; done) | (go_simp; rfl)); intro gb355 hg w15 hbox hb; have n0_ := Aside0.mk (Kd.R_below (by (with_reducible repeat (first | apply Kd.R_alloc | apply Kd.R_drewN | apply Kd.R_drew)); exact HO_6.out) hb); have n1_ := Aside0.mk (Kd.R_below (by (with_reducible repeat (first | apply Kd.R_alloc | apply Kd.R_drewN | apply Kd.R_drew)); exact HO_7.out) hb); have n2_ := Aside0.mk (Kd.R_below (by (with_reducible repeat (first | apply Kd.R_alloc | apply Kd.R_drewN | apply Kd.R_drew)); exact HO_8.out) hb); have n3_ := Aside0.mk (below_step (by repeat (first | (with_reducible first | exact HB.out | apply below_alloc | apply pw_below_drewN | apply below_drew1) | exact HB.out)) hb); have n4_ := Aside0.mk (hbox); have n5_ := Aside0.mk ((by rw [hg]; exact (below_size (by repeat (first | (with_reducible first | exact HB.out | apply below_alloc | apply pw_below_drewN | apply below_drew1) | exact HB.out))) : w.heap.size ≤ gb355)); have n6_ := Aside0.mk ((by rw [hg]; exact (below_size (by repeat (first | (with_reducible first | exact HB.out | apply below_alloc | apply pw_below_drewN | apply below_drew1) | exact HB.out))) : w.heap.size ≤ gb355)); clear HO_6; clear HO_7; clear HO_8; clear HB; have HO_6 := n0_; have HO_7 := n1_; have HO_8 := n2_; have HB := n3_; have BK355 := n4_; have GW355 := n5_; have GE355 := n6_; clear n0_ n1_ n2_ n3_ n4_ n5_ n6_; clear hb hbox hg; have hcz16_0 : w15.cell? ⟨gb355, 0, none⟩ = some (.int .i64 0) := (blk_cell BK355.out 0).trans rfl; have hcz16_1 : w15.cell? ⟨gb355, 1, none⟩ = some (.int .i64 0) := (blk_cell BK355.out 1).trans rfl; have hcz16_2 : w15.cell? ⟨gb355, 2, none⟩ = some (.int .i64 0) := (blk_cell BK355.out 2).trans rfl; have hcz16_3 : w15.cell? ⟨gb355, 3, none⟩ = some (.int .i64 0) := (blk_cell BK355.out 3).trans rfl; have hfz16_0 := blk_frozen BK355.out 0; have hfz16_1 := blk_frozen BK355.out 1; have hfz16_2 := blk_frozen BK355.out 2; have hfz16_3 := blk_frozen BK355.out 3; obtain ⟨Ao17, co17, eo17⟩ := Kd.R_slice HO_6.out; subst eo17; have p356 : 0 ≤ (((rd_T39 l1 x23_1).f0) : Int) := of_decide_eq_true (by first | (with_reducible assumption) | assumption); have q356 : ((rd_T39 l1 x23_1).f0) < (t348.length : Int) := of_decide_eq_true (by first | (with_reducible assumption) | assumption); obtain ⟨ad356, e356, hx356_0⟩ := Kd.at_int (Kd.R_reads' HO_6.out).2.2 ((rd_T39 l1 x23_1).f0) p356 q356; cases e356; have hn356_0 : ad356.block ≠ gb355 := Kd.own_blk (Kd.R_ne HO_6.out BK355.out (by decide)); have hn356_1 : ad356.block ≠ gb355 := Kd.own_blk (Kd.R_ne HO_6.out BK355.out (by decide)); have hn356_2 : ad356.block ≠ gb355 := Kd.own_blk (Kd.R_ne HO_6.out BK355.out (by decide)); have hn356_3 : ad356.block ≠ gb355 := Kd.own_blk (Kd.R_ne HO_6.out BK355.out (by decide)); replace hx356_0 := (cell_far (p := ⟨gb355, 0, none⟩) (by first | (rw [add_block]; exact hn356_0) | (show (Addr.add _ _).block ≠ _; rw [add_block]; exact hn356_0) | exact hn356_0) (.int .i64 ((rd_T39 l1 x23_1).f0))).trans hx356_0; replace hx356_0 := (cell_far (p := ⟨gb355, 1, none⟩) (by first | (rw [add_block]; exact hn356_1) | (show (Addr.add _ _).block ≠ _; rw [add_block]; exact hn356_1) | exact hn356_1) (.int .i64 ((rd_T39 l1 x23_1).f1))).trans hx356_0; replace hx356_0 := (cell_far (p := ⟨gb355, 2, none⟩) (by first | (rw [add_block]; exact hn356_2) | (show (Addr.add _ _).block ≠ _; rw [add_block]; exact hn356_2) | exact hn356_2) (.int .i64 ((rd_T39 l1 x23_1).f2))).trans hx356_0; replace hx356_0 := (cell_far (p := ⟨gb355, 3, none⟩) (by first | (rw [add_block]; exact hn356_3) | (show (Addr.add _ _).block ≠ _; rw [add_block]; exact hn356_3) | exact hn356_3) (.int .i64 ((rd_T39 l1 x23_1).f3))).trans hx356_0; (try have hy356_0 := fun (n_ : Nat) => (show ((((((w15.drewN n_).setCell ⟨gb355, 0, none⟩ (.int .i64 ((rd_T39 l1 x23_1).f0))).setCell ⟨gb355, 1, none⟩ (.int .i64 ((rd_T39 l1 x23_1).f1))).setCell ⟨gb355, 2, none⟩ (.int .i64 ((rd_T39 l1 x23_1).f2))).setCell ⟨gb355, 3, none⟩ (.int .i64 ((rd_T39 l1 x23_1).f3)))).cell? _ = some _ from hx356_0)); clear hn356_0; clear hn356_1; clear hn356_2; clear hn356_3; replace p356 := eq_true p356; replace q356 := eq_true q356) | ((with_reducible refine gate_builtin (b := .append) (xs := #[.tmp 50, .tmp 52]) rfl ?_); at_builtin; refine Kd.R_append (Kd.int .i64) (w0 := w) w.heap.size rfl (.tmp 50) (.tmp 52) 27 2 (.int .i64 0) 8 rfl Try.underlying27 info2 rfl (by decide) (by omega) u8 x8_1 x23_1 [.int .i64 x23_1] (fun k_ => some k_ ≠ (.slice (some ad356) t348.length co17 : Value).ownBlock ∧ some k_ ≠ (v352 : Value).ownBlock) (fun _ => False) rfl (by first | (go_simp; done) | (go_simp; rfl)) ?aP (fun _ hk => hk.elim) ?aF ?aO ?aB ?aS ?aL ?_; (case aP => exact rfl); (case aB => exact (by repeat (first | (with_reducible first | exact HB.out | apply below_alloc | apply pw_below_drewN | apply below_drew1 | refine below_set ?_ GE355.out) | exact HB.out))); (case aF => exact (fun k_ hk => ⟨Kd.fresh' (Kd.R_lt (by (with_reducible repeat (first | apply Kd.R_alloc | apply Kd.R_drewN | apply Kd.R_drew)); exact (Kd.R_mono (Kd.R_far (p := ⟨gb355, 3, none⟩) (Kd.R_far (p := ⟨gb355, 2, none⟩) (Kd.R_far (p := ⟨gb355, 1, none⟩) (Kd.R_far (p := ⟨gb355, 0, none⟩) (Kd.R_types HO_6.out BK355.out (by decide)) (fun _ hk => hk.2) (.int .i64 ((rd_T39 l1 x23_1).f0))) (fun _ hk => hk.2) (.int .i64 ((rd_T39 l1 x23_1).f1))) (fun _ hk => hk.2) (.int .i64 ((rd_T39 l1 x23_1).f2))) (fun _ hk => hk.2) (.int .i64 ((rd_T39 l1 x23_1).f3))) (fun _ h_ => h_.1)))) k_ hk, Kd.fresh' (Kd.R_lt (by (with_reducible repeat (first | apply Kd.R_alloc | apply Kd.R_drewN | apply Kd.R_drew)); exact (Kd.R_mono (Kd.R_far (p := ⟨gb355, 3, none⟩) (Kd.R_far (p := ⟨gb355, 2, none⟩) (Kd.R_far (p := ⟨gb355, 1, none⟩) (Kd.R_far (p := ⟨gb355, 0, none⟩) (Kd.R_types HO_7.out BK355.out (by decide)) (fun _ hk => hk.2) (.int .i64 ((rd_T39 l1 x23_1).f0))) (fun _ hk => hk.2) (.int .i64 ((rd_T39 l1 x23_1).f1))) (fun _ hk => hk.2) (.int .i64 ((rd_T39 l1 x23_1).f2))) (fun _ hk => hk.2) (.int .i64 ((rd_T39 l1 x23_1).f3))) (fun _ h_ => h_.1)))) k_ hk⟩)); (case aO => exact (by (with_reducible repeat (first | apply Kd.R_alloc | apply Kd.R_drewN | apply Kd.R_drew)); exact Kd.R_mono (Kd.R_far (p := ⟨gb355, 3, none⟩) (Kd.R_far (p := ⟨gb355, 2, none⟩) (Kd.R_far (p := ⟨gb355, 1, none⟩) (Kd.R_far (p := ⟨gb355, 0, none⟩) (Kd.R_types HO_8.out BK355.out (by decide)) (fun _ hk => hk.2) (.int .i64 ((rd_T39 l1 x23_1).f0))) (fun _ hk => hk.2) (.int .i64 ((rd_T39 l1 x23_1).f1))) (fun _ hk => hk.2) (.int .i64 ((rd_T39 l1 x23_1).f2))) (fun _ hk => hk.2) (.int .i64 ((rd_T39 l1 x23_1).f3))) (fun _ hk => ⟨hk.1.1, hk.1.2⟩))); (case aS => exact (below_size (by repeat (first | (with_reducible first | exact HB.out | apply below_alloc | apply pw_below_drewN | apply below_drew1 | refine below_set ?_ GE355.out) | exact HB.out)))); (case aL => have := LMc14.out; omega); intro v358 w18 ho hb hg hat; rw [← Ny357.out] at ho; have n0_ := Aside0.mk (Kd.R_after (ok := (fun k_ => some k_ ≠ (v352 : Value).ownBlock)) (by (with_reducible repeat (first | apply Kd.R_alloc | apply Kd.R_drewN | apply Kd.R_drew)); exact Kd.R_mono (Kd.R_far (p := ⟨gb355, 3, none⟩) (Kd.R_far (p := ⟨gb355, 2, none⟩) (Kd.R_far (p := ⟨gb355, 1, none⟩) (Kd.R_far (p := ⟨gb355, 0, none⟩) (Kd.R_types HO_6.out BK355.out (by decide)) (fun _ hk => hk.2) (.int .i64 ((rd_T39 l1 x23_1).f0))) (fun _ hk => hk.2) (.int .i64 ((rd_T39 l1 x23_1).f1))) (fun _ hk => hk.2) (.int .i64 ((rd_T39 l1 x23_1).f2))) (fun _ hk => hk.2) (.int .i64 ((rd_T39 l1 x23_1).f3))) (fun _ hk => ⟨hk.1.1, hk.1.2⟩)) hg hat); have n1_ := Aside0.mk (Kd.R_after (ok := (fun k_ => some k_ ≠ (.slice (some ad356) t348.length co17 : Value).ownBlock)) (by (with_reducible repeat (first | apply Kd.R_alloc | apply Kd.R_drewN | apply Kd.R_drew)); exact Kd.R_mono (Kd.R_far (p := ⟨gb355, 3, none⟩) (Kd.R_far (p := ⟨gb355, 2, none⟩) (Kd.R_far (p := ⟨gb355, 1, none⟩) (Kd.R_far (p := ⟨gb355, 0, none⟩) (Kd.R_types HO_7.out BK355.out (by decide)) (fun _ hk => hk.2) (.int .i64 ((rd_T39 l1 x23_1).f0))) (fun _ hk => hk.2) (.int .i64 ((rd_T39 l1 x23_1).f1))) (fun _ hk => hk.2) (.int .i64 ((rd_T39 l1 x23_1).f2))) (fun _ hk => hk.2) (.int .i64 ((rd_T39 l1 x23_1).f3))) (fun _ hk => ⟨hk.1.1, hk.1.2⟩)) hg hat); have n2_ := Aside0.mk (blk_grown (g := gb355) (o := .cells #[.int .i64 ((rd_T39 l1 x23_1).f0), .int .i64 ((rd_T39 l1 x23_1).f1), .int .i64 ((rd_T39 l1 x23_1).f2), .int .i64 ((rd_T39 l1 x23_1).f3)] 39 (0, 0)) (by (with_reducible repeat (first | refine blk_drewN ?_ _ | refine blk_drew ?_ | refine blk_alloc ?_ _)); refine blk_put (cs := #[.int .i64 ((rd_T39 l1 x23_1).f0), .int .i64 ((rd_T39 l1 x23_1).f1), .int .i64 ((rd_T39 l1 x23_1).f2), .int .i64 0]) ?_ 3 _ rfl; (with_reducible repeat (first | refine blk_drewN ?_ _ | refine blk_drew ?_ | refine blk_alloc ?_ _)); refine blk_put (cs := #[.int .i64 ((rd_T39 l1 x23_1).f0), .int .i64 ((rd_T39 l1 x23_1).f1), .int .i64 0, .int .i64 0]) ?_ 2 _ rfl; (with_reducible repeat (first | refine blk_drewN ?_ _ | refine blk_drew ?_ | refine blk_alloc ?_ _)); refine blk_put (cs := #[.int .i64 ((rd_T39 l1 x23_1).f0), .int .i64 0, .int .i64 0, .int .i64 0]) ?_ 1 _ rfl; (with_reducible repeat (first | refine blk_drewN ?_ _ | refine blk_drew ?_ | refine blk_alloc ?_ _)); refine blk_put (cs := #[.int .i64 0, .int .i64 0, .int .i64 0, .int .i64 0]) ?_ 0 _ rfl; (with_reducible repeat (first | refine blk_drewN ?_ _ | refine blk_drew ?_ | refine blk_alloc ?_ _)); exact BK355.out) hg (Kd.R_ne HO_8.out BK355.out (by decide))); have n3_ := Aside0.mk (hb); have n4_ := Aside0.mk (ho); clear HO_6; clear HO_7; clear BK355; clear HB; clear HO_8; have HO_6 := n0_; have HO_7 := n1_; have BK355 := n2_; have HB := n3_; have HO359 := n4_; clear n0_ n1_ n2_ n3_ n4_; clear ho hb hg hat))
           repeat (go_quiet (first | ((with_reducible refine gate_dst (N := 10) rfl ?_); refine box_event ?hg (N := 10) ?hd (cs := #[.int .i64 0, .int .i64 0, .int .i64 0, .int .i64 0]) (t := 39) ?hr ?_; (case hd => rfl); (case hg => rfl); (case hr => first | (go_simp; done) | (go_simp; rfl)); intro gb355 hg w15 hbox hb; have n0_ := Aside0.mk (Kd.R_below (by (with_reducible repeat (first | apply Kd.R_alloc | apply Kd.R_drewN | apply Kd.R_drew)); exact HO_6.out) hb); have n1_ := Aside0.mk (Kd.R_below (by (with_reducible repeat (first | apply Kd.R_alloc | apply Kd.R_drewN | apply Kd.R_drew)); exact HO_7.out) hb); have n2_ := Aside0.mk (Kd.R_below (by (with_reducible repeat (first | apply Kd.R_alloc | apply Kd.R_drewN | apply Kd.R_drew)); exact HO_8.out) hb); have n3_ := Aside0.mk (below_step (by repeat (first | (with_reducible first | exact HB.out | apply below_alloc | apply pw_below_drewN | apply below_drew1) | exact HB.out)) hb); have n4_ := Aside0.mk (hbox); have n5_ := Aside0.mk ((by rw [hg]; exact (below_size (by repeat (first | (with_reducible first | exact HB.out | apply below_alloc | apply pw_below_drewN | apply below_drew1) | exact HB.out))) : w.heap.size ≤ gb355)); have n6_ := Aside0.mk ((by rw [hg]; exact (below_size (by repeat (first | (with_reducible first | exact HB.out | apply below_alloc | apply pw_below_drewN | apply below_drew1) | exact HB.out))) : w.heap.size ≤ gb355)); clear HO_6; clear HO_7; clear HO_8; clear HB; have HO_6 := n0_; have HO_7 := n1_; have HO_8 := n2_; have HB := n3_; have BK355 := n4_; have GW355 := n5_; have GE355 := n6_; clear n0_ n1_ n2_ n3_ n4_ n5_ n6_; clear hb hbox hg; have hcz16_0 : w15.cell? ⟨gb355, 0, none⟩ = some (.int .i64 0) := (blk_cell BK355.out 0).trans rfl; have hcz16_1 : w15.cell? ⟨gb355, 1, none⟩ = some (.int .i64 0) := (blk_cell BK355.out 1).trans rfl; have hcz16_2 : w15.cell? ⟨gb355, 2, none⟩ = some (.int .i64 0) := (blk_cell BK355.out 2).trans rfl; have hcz16_3 : w15.cell? ⟨gb355, 3, none⟩ = some (.int .i64 0) := (blk_cell BK355.out 3).trans rfl; have hfz16_0 := blk_frozen BK355.out 0; have hfz16_1 := blk_frozen BK355.out 1; have hfz16_2 := blk_frozen BK355.out 2; have hfz16_3 := blk_frozen BK355.out 3; obtain ⟨Ao17, co17, eo17⟩ := Kd.R_slice HO_6.out; subst eo17; have p356 : 0 ≤ (((rd_T39 l1 x23_1).f0) : Int) := of_decide_eq_true (by first | (with_reducible assumption) | assumption); have q356 : ((rd_T39 l1 x23_1).f0) < (t348.length : Int) := of_decide_eq_true (by first | (with_reducible assumption) | assumption); obtain ⟨ad356, e356, hx356_0⟩ := Kd.at_int (Kd.R_reads' HO_6.out).2.2 ((rd_T39 l1 x23_1).f0) p356 q356; cases e356; have hn356_0 : ad356.block ≠ gb355 := Kd.own_blk (Kd.R_ne HO_6.out BK355.out (by decide)); have hn356_1 : ad356.block ≠ gb355 := Kd.own_blk (Kd.R_ne HO_6.out BK355.out (by decide)); have hn356_2 : ad356.block ≠ gb355 := Kd.own_blk (Kd.R_ne HO_6.out BK355.out (by decide)); have hn356_3 : ad356.block ≠ gb355 := Kd.own_blk (Kd.R_ne HO_6.out BK355.out (by decide)); replace hx356_0 := (cell_far (p := ⟨gb355, 0, none⟩) (by first | (rw [add_block]; exact hn356_0) | (show (Addr.add _ _).block ≠ _; rw [add_block]; exact hn356_0) | exact hn356_0) (.int .i64 ((rd_T39 l1 x23_1).f0))).trans hx356_0; replace hx356_0 := (cell_far (p := ⟨gb355, 1, none⟩) (by first | (rw [add_block]; exact hn356_1) | (show (Addr.add _ _).block ≠ _; rw [add_block]; exact hn356_1) | exact hn356_1) (.int .i64 ((rd_T39 l1 x23_1).f1))).trans hx356_0; replace hx356_0 := (cell_far (p := ⟨gb355, 2, none⟩) (by first | (rw [add_block]; exact hn356_2) | (show (Addr.add _ _).block ≠ _; rw [add_block]; exact hn356_2) | exact hn356_2) (.int .i64 ((rd_T39 l1 x23_1).f2))).trans hx356_0; replace hx356_0 := (cell_far (p := ⟨gb355, 3, none⟩) (by first | (rw [add_block]; exact hn356_3) | (show (Addr.add _ _).block ≠ _; rw [add_block]; exact hn356_3) | exact hn356_3) (.int .i64 ((rd_T39 l1 x23_1).f3))).trans hx356_0; (try have hy356_0 := fun (n_ : Nat) => (show ((((((w15.drewN n_).setCell ⟨gb355, 0, none⟩ (.int .i64 ((rd_T39 l1 x23_1).f0))).setCell ⟨gb355, 1, none⟩ (.int .i64 ((rd_T39 l1 x23_1).f1))).setCell ⟨gb355, 2, none⟩ (.int .i64 ((rd_T39 l1 x23_1).f2))).setCell ⟨gb355, 3, none⟩ (.int .i64 ((rd_T39 l1 x23_1).f3)))).cell? _ = some _ from hx356_0)); clear hn356_0; clear hn356_1; clear hn356_2; clear hn356_3; replace p356 := eq_true p356; replace q356 := eq_true q356) | ((with_reducible refine gate_builtin (b := .append) (xs := #[.tmp 50, .tmp 52]) rfl ?_); at_builtin; refine Kd.R_append (Kd.int .i64) (w0 := w) w.heap.size rfl (.tmp 50) (.tmp 52) 27 2 (.int .i64 0) 8 rfl Try.underlying27 info2 rfl (by decide) (by omega) u8 x8_1 x23_1 [.int .i64 x23_1] (fun k_ => some k_ ≠ (.slice (some ad356) t348.length co17 : Value).ownBlock ∧ some k_ ≠ (v352 : Value).ownBlock) (fun _ => False) rfl (by first | (go_simp; done) | (go_simp; rfl)) ?aP (fun _ hk => hk.elim) ?aF ?aO ?aB ?aS ?aL ?_; (case aP => exact rfl); (case aB => exact (by repeat (first | (with_reducible first | exact HB.out | apply below_alloc | apply pw_below_drewN | apply below_drew1 | refine below_set ?_ GE355.out) | exact HB.out))); (case aF => exact (fun k_ hk => ⟨Kd.fresh' (Kd.R_lt (by (with_reducible repeat (first | apply Kd.R_alloc | apply Kd.R_drewN | apply Kd.R_drew)); exact (Kd.R_mono (Kd.R_far (p := ⟨gb355, 3, none⟩) (Kd.R_far (p := ⟨gb355, 2, none⟩) (Kd.R_far (p := ⟨gb355, 1, none⟩) (Kd.R_far (p := ⟨gb355, 0, none⟩) (Kd.R_types HO_6.out BK355.out (by decide)) (fun _ hk => hk.2) (.int .i64 ((rd_T39 l1 x23_1).f0))) (fun _ hk => hk.2) (.int .i64 ((rd_T39 l1 x23_1).f1))) (fun _ hk => hk.2) (.int .i64 ((rd_T39 l1 x23_1).f2))) (fun _ hk => hk.2) (.int .i64 ((rd_T39 l1 x23_1).f3))) (fun _ h_ => h_.1)))) k_ hk, Kd.fresh' (Kd.R_lt (by (with_reducible repeat (first | apply Kd.R_alloc | apply Kd.R_drewN | apply Kd.R_drew)); exact (Kd.R_mono (Kd.R_far (p := ⟨gb355, 3, none⟩) (Kd.R_far (p := ⟨gb355, 2, none⟩) (Kd.R_far (p := ⟨gb355, 1, none⟩) (Kd.R_far (p := ⟨gb355, 0, none⟩) (Kd.R_types HO_7.out BK355.out (by decide)) (fun _ hk => hk.2) (.int .i64 ((rd_T39 l1 x23_1).f0))) (fun _ hk => hk.2) (.int .i64 ((rd_T39 l1 x23_1).f1))) (fun _ hk => hk.2) (.int .i64 ((rd_T39 l1 x23_1).f2))) (fun _ hk => hk.2) (.int .i64 ((rd_T39 l1 x23_1).f3))) (fun _ h_ => h_.1)))) k_ hk⟩)); (case aO => exact (by (with_reducible repeat (first | apply Kd.R_alloc | apply Kd.R_drewN | apply Kd.R_drew)); exact Kd.R_mono (Kd.R_far (p := ⟨gb355, 3, none⟩) (Kd.R_far (p := ⟨gb355, 2, none⟩) (Kd.R_far (p := ⟨gb355, 1, none⟩) (Kd.R_far (p := ⟨gb355, 0, none⟩) (Kd.R_types HO_8.out BK355.out (by decide)) (fun _ hk => hk.2) (.int .i64 ((rd_T39 l1 x23_1).f0))) (fun _ hk => hk.2) (.int .i64 ((rd_T39 l1 x23_1).f1))) (fun _ hk => hk.2) (.int .i64 ((rd_T39 l1 x23_1).f2))) (fun _ hk => hk.2) (.int .i64 ((rd_T39 l1 x23_1).f3))) (fun _ hk => ⟨hk.1.1, hk.1.2⟩))); (case aS => exact (below_size (by repeat (first | (with_reducible first | exact HB.out | apply below_alloc | apply pw_below_drewN | apply below_drew1 | refine below_set ?_ GE355.out) | exact HB.out)))); (case aL => have := LMc14.out; omega); intro v358 w18 ho hb hg hat; rw [← Ny357.out] at ho; have n0_ := Aside0.mk (Kd.R_after (ok := (fun k_ => some k_ ≠ (v352 : Value).ownBlock)) (by (with_reducible repeat (first | apply Kd.R_alloc | apply Kd.R_drewN | apply Kd.R_drew)); exact Kd.R_mono (Kd.R_far (p := ⟨gb355, 3, none⟩) (Kd.R_far (p := ⟨gb355, 2, none⟩) (Kd.R_far (p := ⟨gb355, 1, none⟩) (Kd.R_far (p := ⟨gb355, 0, none⟩) (Kd.R_types HO_6.out BK355.out (by decide)) (fun _ hk => hk.2) (.int .i64 ((rd_T39 l1 x23_1).f0))) (fun _ hk => hk.2) (.int .i64 ((rd_T39 l1 x23_1).f1))) (fun _ hk => hk.2) (.int .i64 ((rd_T39 l1 x23_1).f2))) (fun _ hk => hk.2) (.int .i64 ((rd_T39 l1 x23_1).f3))) (fun _ hk => ⟨hk.1.1, hk.1.2⟩)) hg hat); have n1_ := Aside0.mk (Kd.R_after (ok := (fun k_ => some k_ ≠ (.slice (some ad356) t348.length co17 : Value).ownBlock)) (by (with_reducible repeat (first | apply Kd.R_alloc | apply Kd.R_drewN | apply Kd.R_drew)); exact Kd.R_mono (Kd.R_far (p := ⟨gb355, 3, none⟩) (Kd.R_far (p := ⟨gb355, 2, none⟩) (Kd.R_far (p := ⟨gb355, 1, none⟩) (Kd.R_far (p := ⟨gb355, 0, none⟩) (Kd.R_types HO_7.out BK355.out (by decide)) (fun _ hk => hk.2) (.int .i64 ((rd_T39 l1 x23_1).f0))) (fun _ hk => hk.2) (.int .i64 ((rd_T39 l1 x23_1).f1))) (fun _ hk => hk.2) (.int .i64 ((rd_T39 l1 x23_1).f2))) (fun _ hk => hk.2) (.int .i64 ((rd_T39 l1 x23_1).f3))) (fun _ hk => ⟨hk.1.1, hk.1.2⟩)) hg hat); have n2_ := Aside0.mk (blk_grown (g := gb355) (o := .cells #[.int .i64 ((rd_T39 l1 x23_1).f0), .int .i64 ((rd_T39 l1 x23_1).f1), .int .i64 ((rd_T39 l1 x23_1).f2), .int .i64 ((rd_T39 l1 x23_1).f3)] 39 (0, 0)) (by (with_reducible repeat (first | refine blk_drewN ?_ _ | refine blk_drew ?_ | refine blk_alloc ?_ _)); refine blk_put (cs := #[.int .i64 ((rd_T39 l1 x23_1).f0), .int .i64 ((rd_T39 l1 x23_1).f1), .int .i64 ((rd_T39 l1 x23_1).f2), .int .i64 0]) ?_ 3 _ rfl; (with_reducible repeat (first | refine blk_drewN ?_ _ | refine blk_drew ?_ | refine blk_alloc ?_ _)); refine blk_put (cs := #[.int .i64 ((rd_T39 l1 x23_1).f0), .int .i64 ((rd_T39 l1 x23_1).f1), .int .i64 0, .int .i64 0]) ?_ 2 _ rfl; (with_reducible repeat (first | refine blk_drewN ?_ _ | refine blk_drew ?_ | refine blk_alloc ?_ _)); refine blk_put (cs := #[.int .i64 ((rd_T39 l1 x23_1).f0), .int .i64 0, .int .i64 0, .int .i64 0]) ?_ 1 _ rfl; (with_reducible repeat (first | refine blk_drewN ?_ _ | refine blk_drew ?_ | refine blk_alloc ?_ _)); refine blk_put (cs := #[.int .i64 0, .int .i64 0, .int .i64 0, .int .i64 0]) ?_ 0 _ rfl; (with_reducible repeat (first | refine blk_drewN ?_ _ | refine blk_drew ?_ | refine blk_alloc ?_ _)); exact BK355.out) hg (Kd.R_ne HO_8.out BK355.out (by decide))); have n3_ := Aside0.mk (hb); have n4_ := Aside0.mk (ho); clear HO_6; clear HO_7; clear BK355; clear HB; clear HO_8; have HO_6 := n0_; have HO_7 := n1_; have BK355 := n2_; have HB := n3_; have HO359 := n4_; clear n0_ n1_ n2_ n3_ n4_; clear ho hb hg hat)); try go_wp2_with (first | ((with_reducible refine gate_dst (N := 10) rfl ?_); refine box_event ?hg (N := 10) ?hd (cs := #[.int .i64 0, .int .i64 0, .int .i64 0, .int .i64 0]) (t := 39) ?hr ?_; (case hd => rfl); (case hg => rfl); (case hr => first | (go_simp; done) | (go_simp; rfl)); intro gb355 hg w15 hbox hb; have n0_ := Aside0.mk (Kd.R_below (by (with_reducible repeat (first | apply Kd.R_alloc | apply Kd.R_drewN | apply Kd.R_drew)); exact HO_6.out) hb); have n1_ := Aside0.mk (Kd.R_below (by (with_reducible repeat (first | apply Kd.R_alloc | apply Kd.R_drewN | apply Kd.R_drew)); exact HO_7.out) hb); have n2_ := Aside0.mk (Kd.R_below (by (with_reducible repeat (first | apply Kd.R_alloc | apply Kd.R_drewN | apply Kd.R_drew)); exact HO_8.out) hb); have n3_ := Aside0.mk (below_step (by repeat (first | (with_reducible first | exact HB.out | apply below_alloc | apply pw_below_drewN | apply below_drew1) | exact HB.out)) hb); have n4_ := Aside0.mk (hbox); have n5_ := Aside0.mk ((by rw [hg]; exact (below_size (by repeat (first | (with_reducible first | exact HB.out | apply below_alloc | apply pw_below_drewN | apply below_drew1) | exact HB.out))) : w.heap.size ≤ gb355)); have n6_ := Aside0.mk ((by rw [hg]; exact (below_size (by repeat (first | (with_reducible first | exact HB.out | apply below_alloc | apply pw_below_drewN | apply below_drew1) | exact HB.out))) : w.heap.size ≤ gb355)); clear HO_6; clear HO_7; clear HO_8; clear HB; have HO_6 := n0_; have HO_7 := n1_; have HO_8 := n2_; have HB := n3_; have BK355 := n4_; have GW355 := n5_; have GE355 := n6_; clear n0_ n1_ n2_ n3_ n4_ n5_ n6_; clear hb hbox hg; have hcz16_0 : w15.cell? ⟨gb355, 0, none⟩ = some (.int .i64 0) := (blk_cell BK355.out 0).trans rfl; have hcz16_1 : w15.cell? ⟨gb355, 1, none⟩ = some (.int .i64 0) := (blk_cell BK355.out 1).trans rfl; have hcz16_2 : w15.cell? ⟨gb355, 2, none⟩ = some (.int .i64 0) := (blk_cell BK355.out 2).trans rfl; have hcz16_3 : w15.cell? ⟨gb355, 3, none⟩ = some (.int .i64 0) := (blk_cell BK355.out 3).trans rfl; have hfz16_0 := blk_frozen BK355.out 0; have hfz16_1 := blk_frozen BK355.out 1; have hfz16_2 := blk_frozen BK355.out 2; have hfz16_3 := blk_frozen BK355.out 3; obtain ⟨Ao17, co17, eo17⟩ := Kd.R_slice HO_6.out; subst eo17; have p356 : 0 ≤ (((rd_T39 l1 x23_1).f0) : Int) := of_decide_eq_true (by first | (with_reducible assumption) | assumption); have q356 : ((rd_T39 l1 x23_1).f0) < (t348.length : Int) := of_decide_eq_true (by first | (with_reducible assumption) | assumption); obtain ⟨ad356, e356, hx356_0⟩ := Kd.at_int (Kd.R_reads' HO_6.out).2.2 ((rd_T39 l1 x23_1).f0) p356 q356; cases e356; have hn356_0 : ad356.block ≠ gb355 := Kd.own_blk (Kd.R_ne HO_6.out BK355.out (by decide)); have hn356_1 : ad356.block ≠ gb355 := Kd.own_blk (Kd.R_ne HO_6.out BK355.out (by decide)); have hn356_2 : ad356.block ≠ gb355 := Kd.own_blk (Kd.R_ne HO_6.out BK355.out (by decide)); have hn356_3 : ad356.block ≠ gb355 := Kd.own_blk (Kd.R_ne HO_6.out BK355.out (by decide)); replace hx356_0 := (cell_far (p := ⟨gb355, 0, none⟩) (by first | (rw [add_block]; exact hn356_0) | (show (Addr.add _ _).block ≠ _; rw [add_block]; exact hn356_0) | exact hn356_0) (.int .i64 ((rd_T39 l1 x23_1).f0))).trans hx356_0; replace hx356_0 := (cell_far (p := ⟨gb355, 1, none⟩) (by first | (rw [add_block]; exact hn356_1) | (show (Addr.add _ _).block ≠ _; rw [add_block]; exact hn356_1) | exact hn356_1) (.int .i64 ((rd_T39 l1 x23_1).f1))).trans hx356_0; replace hx356_0 := (cell_far (p := ⟨gb355, 2, none⟩) (by first | (rw [add_block]; exact hn356_2) | (show (Addr.add _ _).block ≠ _; rw [add_block]; exact hn356_2) | exact hn356_2) (.int .i64 ((rd_T39 l1 x23_1).f2))).trans hx356_0; replace hx356_0 := (cell_far (p := ⟨gb355, 3, none⟩) (by first | (rw [add_block]; exact hn356_3) | (show (Addr.add _ _).block ≠ _; rw [add_block]; exact hn356_3) | exact hn356_3) (.int .i64 ((rd_T39 l1 x23_1).f3))).trans hx356_0; (try have hy356_0 := fun (n_ : Nat) => (show ((((((w15.drewN n_).setCell ⟨gb355, 0, none⟩ (.int .i64 ((rd_T39 l1 x23_1).f0))).setCell ⟨gb355, 1, none⟩ (.int .i64 ((rd_T39 l1 x23_1).f1))).setCell ⟨gb355, 2, none⟩ (.int .i64 ((rd_T39 l1 x23_1).f2))).setCell ⟨gb355, 3, none⟩ (.int .i64 ((rd_T39 l1 x23_1).f3)))).cell? _ = some _ from hx356_0)); clear hn356_0; clear hn356_1; clear hn356_2; clear hn356_3; replace p356 := eq_true p356; replace q356 := eq_true q356) | ((with_reducible refine gate_builtin (b := .append) (xs := #[.tmp 50, .tmp 52]) rfl ?_); at_builtin; refine Kd.R_append (Kd.int .i64) (w0 := w) w.heap.size rfl (.tmp 50) (.tmp 52) 27 2 (.int .i64 0) 8 rfl Try.underlying27 info2 rfl (by decide) (by omega) u8 x8_1 x23_1 [.int .i64 x23_1] (fun k_ => some k_ ≠ (.slice (some ad356) t348.length co17 : Value).ownBlock ∧ some k_ ≠ (v352 : Value).ownBlock) (fun _ => False) rfl (by first | (go_simp; done) | (go_simp; rfl)) ?aP (fun _ hk => hk.elim) ?aF ?aO ?aB ?aS ?aL ?_; (case aP => exact rfl); (case aB => exact (by repeat (first | (with_reducible first | exact HB.out | apply below_alloc | apply pw_below_drewN | apply below_drew1 | refine below_set ?_ GE355.out) | exact HB.out))); (case aF => exact (fun k_ hk => ⟨Kd.fresh' (Kd.R_lt (by (with_reducible repeat (first | apply Kd.R_alloc | apply Kd.R_drewN | apply Kd.R_drew)); exact (Kd.R_mono (Kd.R_far (p := ⟨gb355, 3, none⟩) (Kd.R_far (p := ⟨gb355, 2, none⟩) (Kd.R_far (p := ⟨gb355, 1, none⟩) (Kd.R_far (p := ⟨gb355, 0, none⟩) (Kd.R_types HO_6.out BK355.out (by decide)) (fun _ hk => hk.2) (.int .i64 ((rd_T39 l1 x23_1).f0))) (fun _ hk => hk.2) (.int .i64 ((rd_T39 l1 x23_1).f1))) (fun _ hk => hk.2) (.int .i64 ((rd_T39 l1 x23_1).f2))) (fun _ hk => hk.2) (.int .i64 ((rd_T39 l1 x23_1).f3))) (fun _ h_ => h_.1)))) k_ hk, Kd.fresh' (Kd.R_lt (by (with_reducible repeat (first | apply Kd.R_alloc | apply Kd.R_drewN | apply Kd.R_drew)); exact (Kd.R_mono (Kd.R_far (p := ⟨gb355, 3, none⟩) (Kd.R_far (p := ⟨gb355, 2, none⟩) (Kd.R_far (p := ⟨gb355, 1, none⟩) (Kd.R_far (p := ⟨gb355, 0, none⟩) (Kd.R_types HO_7.out BK355.out (by decide)) (fun _ hk => hk.2) (.int .i64 ((rd_T39 l1 x23_1).f0))) (fun _ hk => hk.2) (.int .i64 ((rd_T39 l1 x23_1).f1))) (fun _ hk => hk.2) (.int .i64 ((rd_T39 l1 x23_1).f2))) (fun _ hk => hk.2) (.int .i64 ((rd_T39 l1 x23_1).f3))) (fun _ h_ => h_.1)))) k_ hk⟩)); (case aO => exact (by (with_reducible repeat (first | apply Kd.R_alloc | apply Kd.R_drewN | apply Kd.R_drew)); exact Kd.R_mono (Kd.R_far (p := ⟨gb355, 3, none⟩) (Kd.R_far (p := ⟨gb355, 2, none⟩) (Kd.R_far (p := ⟨gb355, 1, none⟩) (Kd.R_far (p := ⟨gb355, 0, none⟩) (Kd.R_types HO_8.out BK355.out (by decide)) (fun _ hk => hk.2) (.int .i64 ((rd_T39 l1 x23_1).f0))) (fun _ hk => hk.2) (.int .i64 ((rd_T39 l1 x23_1).f1))) (fun _ hk => hk.2) (.int .i64 ((rd_T39 l1 x23_1).f2))) (fun _ hk => hk.2) (.int .i64 ((rd_T39 l1 x23_1).f3))) (fun _ hk => ⟨hk.1.1, hk.1.2⟩))); (case aS => exact (below_size (by repeat (first | (with_reducible first | exact HB.out | apply below_alloc | apply pw_below_drewN | apply below_drew1 | refine below_set ?_ GE355.out) | exact HB.out)))); (case aL => have := LMc14.out; omega); intro v358 w18 ho hb hg hat; rw [← Ny357.out] at ho; have n0_ := Aside0.mk (Kd.R_after (ok := (fun k_ => some k_ ≠ (v352 : Value).ownBlock)) (by (with_reducible repeat (first | apply Kd.R_alloc | apply Kd.R_drewN | apply Kd.R_drew)); exact Kd.R_mono (Kd.R_far (p := ⟨gb355, 3, none⟩) (Kd.R_far (p := ⟨gb355, 2, none⟩) (Kd.R_far (p := ⟨gb355, 1, none⟩) (Kd.R_far (p := ⟨gb355, 0, none⟩) (Kd.R_types HO_6.out BK355.out (by decide)) (fun _ hk => hk.2) (.int .i64 ((rd_T39 l1 x23_1).f0))) (fun _ hk => hk.2) (.int .i64 ((rd_T39 l1 x23_1).f1))) (fun _ hk => hk.2) (.int .i64 ((rd_T39 l1 x23_1).f2))) (fun _ hk => hk.2) (.int .i64 ((rd_T39 l1 x23_1).f3))) (fun _ hk => ⟨hk.1.1, hk.1.2⟩)) hg hat); have n1_ := Aside0.mk (Kd.R_after (ok := (fun k_ => some k_ ≠ (.slice (some ad356) t348.length co17 : Value).ownBlock)) (by (with_reducible repeat (first | apply Kd.R_alloc | apply Kd.R_drewN | apply Kd.R_drew)); exact Kd.R_mono (Kd.R_far (p := ⟨gb355, 3, none⟩) (Kd.R_far (p := ⟨gb355, 2, none⟩) (Kd.R_far (p := ⟨gb355, 1, none⟩) (Kd.R_far (p := ⟨gb355, 0, none⟩) (Kd.R_types HO_7.out BK355.out (by decide)) (fun _ hk => hk.2) (.int .i64 ((rd_T39 l1 x23_1).f0))) (fun _ hk => hk.2) (.int .i64 ((rd_T39 l1 x23_1).f1))) (fun _ hk => hk.2) (.int .i64 ((rd_T39 l1 x23_1).f2))) (fun _ hk => hk.2) (.int .i64 ((rd_T39 l1 x23_1).f3))) (fun _ hk => ⟨hk.1.1, hk.1.2⟩)) hg hat); have n2_ := Aside0.mk (blk_grown (g := gb355) (o := .cells #[.int .i64 ((rd_T39 l1 x23_1).f0), .int .i64 ((rd_T39 l1 x23_1).f1), .int .i64 ((rd_T39 l1 x23_1).f2), .int .i64 ((rd_T39 l1 x23_1).f3)] 39 (0, 0)) (by (with_reducible repeat (first | refine blk_drewN ?_ _ | refine blk_drew ?_ | refine blk_alloc ?_ _)); refine blk_put (cs := #[.int .i64 ((rd_T39 l1 x23_1).f0), .int .i64 ((rd_T39 l1 x23_1).f1), .int .i64 ((rd_T39 l1 x23_1).f2), .int .i64 0]) ?_ 3 _ rfl; (with_reducible repeat (first | refine blk_drewN ?_ _ | refine blk_drew ?_ | refine blk_alloc ?_ _)); refine blk_put (cs := #[.int .i64 ((rd_T39 l1 x23_1).f0), .int .i64 ((rd_T39 l1 x23_1).f1), .int .i64 0, .int .i64 0]) ?_ 2 _ rfl; (with_reducible repeat (first | refine blk_drewN ?_ _ | refine blk_drew ?_ | refine blk_alloc ?_ _)); refine blk_put (cs := #[.int .i64 ((rd_T39 l1 x23_1).f0), .int .i64 0, .int .i64 0, .int .i64 0]) ?_ 1 _ rfl; (with_reducible repeat (first | refine blk_drewN ?_ _ | refine blk_drew ?_ | refine blk_alloc ?_ _)); refine blk_put (cs := #[.int .i64 0, .int .i64 0, .int .i64 0, .int .i64 0]) ?_ 0 _ rfl; (with_reducible repeat (first | refine blk_drewN ?_ _ | refine blk_drew ?_ | refine blk_alloc ?_ _)); exact BK355.out) hg (Kd.R_ne HO_8.out BK355.out (by decide))); have n3_ := Aside0.mk (hb); have n4_ := Aside0.mk (ho); clear HO_6; clear HO_7; clear BK355; clear HB; clear HO_8; have HO_6 := n0_; have HO_7 := n1_; have BK355 := n2_; have HB := n3_; have HO359 := n4_; clear n0_ n1_ n2_ n3_ n4_; clear ho hb hg hat)))
           go_roundg k1
           case measure => have := HK1.out; omega
           case rel => exact ⟨(y357), (wrap64 (x23_1 + 1)), (by first | rfl | (simp; done) | (simp [*]; done)), H', ⟨by have := HK1.out; omega⟩, ⟨by (with_reducible repeat (first | apply Kd.R_alloc | apply Kd.R_drewN | apply Kd.R_drew)); exact HO_6.out⟩, ⟨by (with_reducible repeat (first | apply Kd.R_alloc | apply Kd.R_drewN | apply Kd.R_drew)); exact HO_7.out⟩, ⟨by (with_reducible repeat (first | apply Kd.R_alloc | apply Kd.R_drewN | apply Kd.R_drew)); exact HO359.out⟩, ⟨by repeat (first | (with_reducible first | exact HB.out | apply below_alloc | apply pw_below_drewN | apply below_drew1 | refine below_set ?_ GE355.out) | exact HB.out)⟩⟩
          ·rw [if_neg c14] at H
           exact absurd H (by simp)
         ·rw [if_neg c13] at H
          have c13b0 : decide ((rd t348 ((rd_T39 l1 x23_1).f0)) < 0) = false := decide_eq_false c13
          clear c13
          by_cases c19 : 0 ≤ ((rd_T39 l1 x23_1).f1)
          ·rw [if_pos c19] at H
           have c19b0 : decide (0 ≤ ((rd_T39 l1 x23_1).f1)) = true := decide_eq_true c19
           clear c19
           by_cases c20 : ((rd_T39 l1 x23_1).f1) < (t349.length : Int)
           ·rw [if_pos c20] at H
            have c20b0 : decide (((rd_T39 l1 x23_1).f1) < (t349.length : Int)) = true := decide_eq_true c20
            clear c20
            by_cases c21 : (wrap64 ((rd t348 ((rd_T39 l1 x23_1).f0)) + ((rd_T39 l1 x23_1).f2))) > (rd t349 ((rd_T39 l1 x23_1).f1))
            ·rw [if_pos c21] at H
             have c21b0 : decide ((rd t349 ((rd_T39 l1 x23_1).f1)) < (wrap64 ((rd t348 ((rd_T39 l1 x23_1).f0)) + ((rd_T39 l1 x23_1).f2)))) = true := decide_eq_true c21
             clear c21
             by_cases c22 : x8_1.length < 17592186044416
             ·rw [if_pos c22] at H
              have LMc22 := Aside0.mk c22
              clear c22
              obtain ⟨y362, hy362⟩ : ∃ y_ : List Int, y_ = (x8_1 ++ [x23_1]) := ⟨_, rfl⟩
              replace H : (impl_IdleFuses.l0 k1 t348 t349 y362 l1 (l1.length : Int) (wrap64 (x23_1 + 1))) = some (r1, r2) := by first | (rw [hy362]; with_reducible exact H) | (have H2_ := (Option.bind_some _ _).symm.trans H; rw [hy362]; with_reducible exact H2_) | (have H2_ := (Option.bind_some _ _).symm.trans H; with_reducible exact H2_) | with_reducible exact H | (rw [hy362]; exact H) | exact H
              have Ny362 := Aside0.mk hy362
              clear hy362
              have H' := Aside0.mk H
              clear H
              have p354 : 0 ≤ (x23_1 : Int) := of_decide_eq_true (by first | (with_reducible assumption) | assumption)
              have q354 : x23_1 < (l1.length : Int) := of_decide_eq_true (by first | (with_reducible assumption) | assumption)
              obtain ⟨ad354, e354, hx354_0, hx354_1, hx354_2, hx354_3⟩ := at_T39 HR1.out x23_1 p354 q354
              cases e354
              replace hx354_0 := (HB.out.cell (World.block_lt_of_cell? w _ hx354_0)).trans hx354_0
              replace hx354_1 := (HB.out.cell (World.block_lt_of_cell? w _ hx354_1)).trans hx354_1
              replace hx354_2 := (HB.out.cell (World.block_lt_of_cell? w _ hx354_2)).trans hx354_2
              replace hx354_3 := (HB.out.cell (World.block_lt_of_cell? w _ hx354_3)).trans hx354_3
              replace p354 := eq_true p354
              replace q354 := eq_true q354
              go_wp2_with (first | ((with_reducible refine gate_dst (N := 10) rfl ?_); refine box_event ?hg (N := 10) ?hd (cs := #[.int .i64 0, .int .i64 0, .int .i64 0, .int .i64 0]) (t := 39) ?hr ?_; (case hd => rfl); (case hg => rfl); (case hr => first | (go_simp; done) | (go_simp; rfl)); intro gb355 hg w23 hbox hb; have n0_ := Aside0.mk (Kd.R_below (by (with_reducible repeat (first | apply Kd.R_alloc | apply Kd.R_drewN | apply Kd.R_drew)); exact HO_6.out) hb); have n1_ := Aside0.mk (Kd.R_below (by (with_reducible repeat (first | apply Kd.R_alloc | apply Kd.R_drewN | apply Kd.R_drew)); exact HO_7.out) hb); have n2_ := Aside0.mk (Kd.R_below (by (with_reducible repeat (first | apply Kd.R_alloc | apply Kd.R_drewN | apply Kd.R_drew)); exact HO_8.out) hb); have n3_ := Aside0.mk (below_step (by repeat (first | (with_reducible first | exact HB.out | apply below_alloc | apply pw_below_drewN | apply below_drew1) | exact HB.out)) hb); have n4_ := Aside0.mk (hbox); have n5_ := Aside0.mk ((by rw [hg]; exact (below_size (by repeat (first | (with_reducible first | exact HB.out | apply below_alloc | apply pw_below_drewN | apply below_drew1) | exact HB.out))) : w.heap.size ≤ gb355)); have n6_ := Aside0.mk ((by rw [hg]; exact (below_size (by repeat (first | (with_reducible first | exact HB.out | apply below_alloc | apply pw_below_drewN | apply below_drew1) | exact HB.out))) : w.heap.size ≤ gb355)); clear HO_6; clear HO_7; clear HO_8; clear HB; have HO_6 := n0_; have HO_7 := n1_; have HO_8 := n2_; have HB := n3_; have BK355 := n4_; have GW355 := n5_; have GE355 := n6_; clear n0_ n1_ n2_ n3_ n4_ n5_ n6_; clear hb hbox hg; have hcz24_0 : w23.cell? ⟨gb355, 0, none⟩ = some (.int .i64 0) := (blk_cell BK355.out 0).trans rfl; have hcz24_1 : w23.cell? ⟨gb355, 1, none⟩ = some (.int .i64 0) := (blk_cell BK355.out 1).trans rfl; have hcz24_2 : w23.cell? ⟨gb355, 2, none⟩ = some (.int .i64 0) := (blk_cell BK355.out 2).trans rfl; have hcz24_3 : w23.cell? ⟨gb355, 3, none⟩ = some (.int .i64 0) := (blk_cell BK355.out 3).trans rfl; have hfz24_0 := blk_frozen BK355.out 0; have hfz24_1 := blk_frozen BK355.out 1; have hfz24_2 := blk_frozen BK355.out 2; have hfz24_3 := blk_frozen BK355.out 3; obtain ⟨Ao25, co25, eo25⟩ := Kd.R_slice HO_6.out; subst eo25; have p356 : 0 ≤ (((rd_T39 l1 x23_1).f0) : Int) := of_decide_eq_true (by first | (with_reducible assumption) | assumption); have q356 : ((rd_T39 l1 x23_1).f0) < (t348.length : Int) := of_decide_eq_true (by first | (with_reducible assumption) | assumption); obtain ⟨ad356, e356, hx356_0⟩ := Kd.at_int (Kd.R_reads' HO_6.out).2.2 ((rd_T39 l1 x23_1).f0) p356 q356; cases e356; have hn356_0 : ad356.block ≠ gb355 := Kd.own_blk (Kd.R_ne HO_6.out BK355.out (by decide)); have hn356_1 : ad356.block ≠ gb355 := Kd.own_blk (Kd.R_ne HO_6.out BK355.out (by decide)); have hn356_2 : ad356.block ≠ gb355 := Kd.own_blk (Kd.R_ne HO_6.out BK355.out (by decide)); have hn356_3 : ad356.block ≠ gb355 := Kd.own_blk (Kd.R_ne HO_6.out BK355.out (by decide)); replace hx356_0 := (cell_far (p := ⟨gb355, 0, none⟩) (by first | (rw [add_block]; exact hn356_0) | (show (Addr.add _ _).block ≠ _; rw [add_block]; exact hn356_0) | exact hn356_0) (.int .i64 ((rd_T39 l1 x23_1).f0))).trans hx356_0; replace hx356_0 := (cell_far (p := ⟨gb355, 1, none⟩) (by first | (rw [add_block]; exact hn356_1) | (show (Addr.add _ _).block ≠ _; rw [add_block]; exact hn356_1) | exact hn356_1) (.int .i64 ((rd_T39 l1 x23_1).f1))).trans hx356_0; replace hx356_0 := (cell_far (p := ⟨gb355, 2, none⟩) (by first | (rw [add_block]; exact hn356_2) | (show (Addr.add _ _).block ≠ _; rw [add_block]; exact hn356_2) | exact hn356_2) (.int .i64 ((rd_T39 l1 x23_1).f2))).trans hx356_0; replace hx356_0 := (cell_far (p := ⟨gb355, 3, none⟩) (by first | (rw [add_block]; exact hn356_3) | (show (Addr.add _ _).block ≠ _; rw [add_block]; exact hn356_3) | exact hn356_3) (.int .i64 ((rd_T39 l1 x23_1).f3))).trans hx356_0; (try have hy356_0 := fun (n_ : Nat) => (show ((((((w23.drewN n_).setCell ⟨gb355, 0, none⟩ (.int .i64 ((rd_T39 l1 x23_1).f0))).setCell ⟨gb355, 1, none⟩ (.int .i64 ((rd_T39 l1 x23_1).f1))).setCell ⟨gb355, 2, none⟩ (.int .i64 ((rd_T39 l1 x23_1).f2))).setCell ⟨gb355, 3, none⟩ (.int .i64 ((rd_T39 l1 x23_1).f3)))).cell? _ = some _ from hx356_0)); clear hn356_0; clear hn356_1; clear hn356_2; clear hn356_3; replace p356 := eq_true p356; replace q356 := eq_true q356; have p360 : 0 ≤ (((rd_T39 l1 x23_1).f0) : Int) := of_decide_eq_true (by first | (with_reducible assumption) | assumption); have q360 : ((rd_T39 l1 x23_1).f0) < (t348.length : Int) := of_decide_eq_true (by first | (with_reducible assumption) | assumption); obtain ⟨ad360, e360, hx360_0⟩ := Kd.at_int (Kd.R_reads' HO_6.out).2.2 ((rd_T39 l1 x23_1).f0) p360 q360; obtain rfl : ad356 = ad360 := (by injection e360); have hn360_0 : ad356.block ≠ gb355 := Kd.own_blk (Kd.R_ne HO_6.out BK355.out (by decide)); have hn360_1 : ad356.block ≠ gb355 := Kd.own_blk (Kd.R_ne HO_6.out BK355.out (by decide)); have hn360_2 : ad356.block ≠ gb355 := Kd.own_blk (Kd.R_ne HO_6.out BK355.out (by decide)); have hn360_3 : ad356.block ≠ gb355 := Kd.own_blk (Kd.R_ne HO_6.out BK355.out (by decide)); replace hx360_0 := (cell_far (p := ⟨gb355, 0, none⟩) (by first | (rw [add_block]; exact hn360_0) | (show (Addr.add _ _).block ≠ _; rw [add_block]; exact hn360_0) | exact hn360_0) (.int .i64 ((rd_T39 l1 x23_1).f0))).trans hx360_0; replace hx360_0 := (cell_far (p := ⟨gb355, 1, none⟩) (by first | (rw [add_block]; exact hn360_1) | (show (Addr.add _ _).block ≠ _; rw [add_block]; exact hn360_1) | exact hn360_1) (.int .i64 ((rd_T39 l1 x23_1).f1))).trans hx360_0; replace hx360_0 := (cell_far (p := ⟨gb355, 2, none⟩) (by first | (rw [add_block]; exact hn360_2) | (show (Addr.add _ _).block ≠ _; rw [add_block]; exact hn360_2) | exact hn360_2) (.int .i64 ((rd_T39 l1 x23_1).f2))).trans hx360_0; replace hx360_0 := (cell_far (p := ⟨gb355, 3, none⟩) (by first | (rw [add_block]; exact hn360_3) | (show (Addr.add _ _).block ≠ _; rw [add_block]; exact hn360_3) | exact hn360_3) (.int .i64 ((rd_T39 l1 x23_1).f3))).trans hx360_0; (try have hy360_0 := fun (n_ : Nat) => (show ((((((w23.drewN n_).setCell ⟨gb355, 0, none⟩ (.int .i64 ((rd_T39 l1 x23_1).f0))).setCell ⟨gb355, 1, none⟩ (.int .i64 ((rd_T39 l1 x23_1).f1))).setCell ⟨gb355, 2, none⟩ (.int .i64 ((rd_T39 l1 x23_1).f2))).setCell ⟨gb355, 3, none⟩ (.int .i64 ((rd_T39 l1 x23_1).f3)))).cell? _ = some _ from hx360_0)); clear hn360_0; clear hn360_1; clear hn360_2; clear hn360_3; replace p360 := eq_true p360; replace q360 := eq_true q360; obtain ⟨Ao26, co26, eo26⟩ := Kd.R_slice HO_7.out; subst eo26; have p361 : 0 ≤ (((rd_T39 l1 x23_1).f1) : Int) := of_decide_eq_true (by first | (with_reducible assumption) | assumption); have q361 : ((rd_T39 l1 x23_1).f1) < (t349.length : Int) := of_decide_eq_true (by first | (with_reducible assumption) | assumption); obtain ⟨ad361, e361, hx361_0⟩ := Kd.at_int (Kd.R_reads' HO_7.out).2.2 ((rd_T39 l1 x23_1).f1) p361 q361; cases e361; have hn361_0 : ad361.block ≠ gb355 := Kd.own_blk (Kd.R_ne HO_7.out BK355.out (by decide)); have hn361_1 : ad361.block ≠ gb355 := Kd.own_blk (Kd.R_ne HO_7.out BK355.out (by decide)); have hn361_2 : ad361.block ≠ gb355 := Kd.own_blk (Kd.R_ne HO_7.out BK355.out (by decide)); have hn361_3 : ad361.block ≠ gb355 := Kd.own_blk (Kd.R_ne HO_7.out BK355.out (by decide)); replace hx361_0 := (cell_far (p := ⟨gb355, 0, none⟩) (by first | (rw [add_block]; exact hn361_0) | (show (Addr.add _ _).block ≠ _; rw [add_block]; exact hn361_0) | exact hn361_0) (.int .i64 ((rd_T39 l1 x23_1).f0))).trans hx361_0; replace hx361_0 := (cell_far (p := ⟨gb355, 1, none⟩) (by first | (rw [add_block]; exact hn361_1) | (show (Addr.add _ _).block ≠ _; rw [add_block]; exact hn361_1) | exact hn361_1) (.int .i64 ((rd_T39 l1 x23_1).f1))).trans hx361_0; replace hx361_0 := (cell_far (p := ⟨gb355, 2, none⟩) (by first | (rw [add_block]; exact hn361_2) | (show (Addr.add _ _).block ≠ _; rw [add_block]; exact hn361_2) | exact hn361_2) (.int .i64 ((rd_T39 l1 x23_1).f2))).trans hx361_0; replace hx361_0 := (cell_far (p := ⟨gb355, 3, none⟩) (by first | (rw [add_block]; exact hn361_3) | (show (Addr.add _ _).block ≠ _; rw [add_block]; exact hn361_3) | exact hn361_3) (.int .i64 ((rd_T39 l1 x23_1).f3))).trans hx361_0; (try have hy361_0 := fun (n_ : Nat) => (show ((((((w23.drewN n_).setCell ⟨gb355, 0, none⟩ (.int .i64 ((rd_T39 l1 x23_1).f0))).setCell ⟨gb355, 1, none⟩ (.int .i64 ((rd_T39 l1 x23_1).f1))).setCell ⟨gb355, 2, none⟩ (.int .i64 ((rd_T39 l1 x23_1).f2))).setCell ⟨gb355, 3, none⟩ (.int .i64 ((rd_T39 l1 x23_1).f3)))).cell? _ = some _ from hx361_0)); clear hn361_0; clear hn361_1; clear hn361_2; clear hn361_3; replace p361 := eq_true p361; replace q361 := eq_true q361) | ((with_reducible refine gate_builtin (b := .append) (xs := #[.tmp 50, .tmp 52]) rfl ?_); at_builtin; refine Kd.R_append (Kd.int .i64) (w0 := w) w.heap.size rfl (.tmp 50) (.tmp 52) 27 2 (.int .i64 0) 8 rfl Try.underlying27 info2 rfl (by decide) (by omega) u8 x8_1 x23_1 [.int .i64 x23_1] (fun k_ => some k_ ≠ (.slice (some ad356) t348.length co25 : Value).ownBlock ∧ some k_ ≠ (.slice (some ad361) t349.length co26 : Value).ownBlock) (fun _ => False) rfl (by first | (go_simp; done) | (go_simp; rfl)) ?aP (fun _ hk => hk.elim) ?aF ?aO ?aB ?aS ?aL ?_; (case aP => exact rfl); (case aB => exact (by repeat (first | (with_reducible first | exact HB.out | apply below_alloc | apply pw_below_drewN | apply below_drew1 | refine below_set ?_ GE355.out) | exact HB.out))); (case aF => exact (fun k_ hk => ⟨Kd.fresh' (Kd.R_lt (by (with_reducible repeat (first | apply Kd.R_alloc | apply Kd.R_drewN | apply Kd.R_drew)); exact (Kd.R_mono (Kd.R_far (p := ⟨gb355, 3, none⟩) (Kd.R_far (p := ⟨gb355, 2, none⟩) (Kd.R_far (p := ⟨gb355, 1, none⟩) (Kd.R_far (p := ⟨gb355, 0, none⟩) (Kd.R_types HO_6.out BK355.out (by decide)) (fun _ hk => hk.2) (.int .i64 ((rd_T39 l1 x23_1).f0))) (fun _ hk => hk.2) (.int .i64 ((rd_T39 l1 x23_1).f1))) (fun _ hk => hk.2) (.int .i64 ((rd_T39 l1 x23_1).f2))) (fun _ hk => hk.2) (.int .i64 ((rd_T39 l1 x23_1).f3))) (fun _ h_ => h_.1)))) k_ hk, Kd.fresh' (Kd.R_lt (by (with_reducible repeat (first | apply Kd.R_alloc | apply Kd.R_drewN | apply Kd.R_drew)); exact (Kd.R_mono (Kd.R_far (p := ⟨gb355, 3, none⟩) (Kd.R_far (p := ⟨gb355, 2, none⟩) (Kd.R_far (p := ⟨gb355, 1, none⟩) (Kd.R_far (p := ⟨gb355, 0, none⟩) (Kd.R_types HO_7.out BK355.out (by decide)) (fun _ hk => hk.2) (.int .i64 ((rd_T39 l1 x23_1).f0))) (fun _ hk => hk.2) (.int .i64 ((rd_T39 l1 x23_1).f1))) (fun _ hk => hk.2) (.int .i64 ((rd_T39 l1 x23_1).f2))) (fun _ hk => hk.2) (.int .i64 ((rd_T39 l1 x23_1).f3))) (fun _ h_ => h_.1)))) k_ hk⟩)); (case aO => exact (by (with_reducible repeat (first | apply Kd.R_alloc | apply Kd.R_drewN | apply Kd.R_drew)); exact Kd.R_mono (Kd.R_far (p := ⟨gb355, 3, none⟩) (Kd.R_far (p := ⟨gb355, 2, none⟩) (Kd.R_far (p := ⟨gb355, 1, none⟩) (Kd.R_far (p := ⟨gb355, 0, none⟩) (Kd.R_types HO_8.out BK355.out (by decide)) (fun _ hk => hk.2) (.int .i64 ((rd_T39 l1 x23_1).f0))) (fun _ hk => hk.2) (.int .i64 ((rd_T39 l1 x23_1).f1))) (fun _ hk => hk.2) (.int .i64 ((rd_T39 l1 x23_1).f2))) (fun _ hk => hk.2) (.int .i64 ((rd_T39 l1 x23_1).f3))) (fun _ hk => ⟨hk.1.1, hk.1.2⟩))); (case aS => exact (below_size (by repeat (first | (with_reducible first | exact HB.out | apply below_alloc | apply pw_below_drewN | apply below_drew1 | refine below_set ?_ GE355.out) | exact HB.out)))); (case aL => have := LMc22.out; omega); intro v363 w27 ho hb hg hat; rw [← Ny362.out] at ho; have n0_ := Aside0.mk (Kd.R_after (ok := (fun k_ => some k_ ≠ (.slice (some ad361) t349.length co26 : Value).ownBlock)) (by (with_reducible repeat (first | apply Kd.R_alloc | apply Kd.R_drewN | apply Kd.R_drew)); exact Kd.R_mono (Kd.R_far (p := ⟨gb355, 3, none⟩) (Kd.R_far (p := ⟨gb355, 2, none⟩) (Kd.R_far (p := ⟨gb355, 1, none⟩) (Kd.R_far (p := ⟨gb355, 0, none⟩) (Kd.R_types HO_6.out BK355.out (by decide)) (fun _ hk => hk.2) (.int .i64 ((rd_T39 l1 x23_1).f0))) (fun _ hk => hk.2) (.int .i64 ((rd_T39 l1 x23_1).f1))) (fun _ hk => hk.2) (.int .i64 ((rd_T39 l1 x23_1).f2))) (fun _ hk => hk.2) (.int .i64 ((rd_T39 l1 x23_1).f3))) (fun _ hk => ⟨hk.1.1, hk.1.2⟩)) hg hat); have n1_ := Aside0.mk (Kd.R_after (ok := (fun k_ => some k_ ≠ (.slice (some ad356) t348.length co25 : Value).ownBlock)) (by (with_reducible repeat (first | apply Kd.R_alloc | apply Kd.R_drewN | apply Kd.R_drew)); exact Kd.R_mono (Kd.R_far (p := ⟨gb355, 3, none⟩) (Kd.R_far (p := ⟨gb355, 2, none⟩) (Kd.R_far (p := ⟨gb355, 1, none⟩) (Kd.R_far (p := ⟨gb355, 0, none⟩) (Kd.R_types HO_7.out BK355.out (by decide)) (fun _ hk => hk.2) (.int .i64 ((rd_T39 l1 x23_1).f0))) (fun _ hk => hk.2) (.int .i64 ((rd_T39 l1 x23_1).f1))) (fun _ hk => hk.2) (.int .i64 ((rd_T39 l1 x23_1).f2))) (fun _ hk => hk.2) (.int .i64 ((rd_T39 l1 x23_1).f3))) (fun _ hk => ⟨hk.1.1, hk.1.2⟩)) hg hat); have n2_ := Aside0.mk (blk_grown (g := gb355) (o := .cells #[.int .i64 ((rd_T39 l1 x23_1).f0), .int .i64 ((rd_T39 l1 x23_1).f1), .int .i64 ((rd_T39 l1 x23_1).f2), .int .i64 ((rd_T39 l1 x23_1).f3)] 39 (0, 0)) (by (with_reducible repeat (first | refine blk_drewN ?_ _ | refine blk_drew ?_ | refine blk_alloc ?_ _)); refine blk_put (cs := #[.int .i64 ((rd_T39 l1 x23_1).f0), .int .i64 ((rd_T39 l1 x23_1).f1), .int .i64 ((rd_T39 l1 x23_1).f2), .int .i64 0]) ?_ 3 _ rfl; (with_reducible repeat (first | refine blk_drewN ?_ _ | refine blk_drew ?_ | refine blk_alloc ?_ _)); refine blk_put (cs := #[.int .i64 ((rd_T39 l1 x23_1).f0), .int .i64 ((rd_T39 l1 x23_1).f1), .int .i64 0, .int .i64 0]) ?_ 2 _ rfl; (with_reducible repeat (first | refine blk_drewN ?_ _ | refine blk_drew ?_ | refine blk_alloc ?_ _)); refine blk_put (cs := #[.int .i64 ((rd_T39 l1 x23_1).f0), .int .i64 0, .int .i64 0, .int .i64 0]) ?_ 1 _ rfl; (with_reducible repeat (first | refine blk_drewN ?_ _ | refine blk_drew ?_ | refine blk_alloc ?_ _)); refine blk_put (cs := #[.int .i64 0, .int .i64 0, .int .i64 0, .int .i64 0]) ?_ 0 _ rfl; (with_reducible repeat (first | refine blk_drewN ?_ _ | refine blk_drew ?_ | refine blk_alloc ?_ _)); exact BK355.out) hg (Kd.R_ne HO_8.out BK355.out (by decide))); have n3_ := Aside0.mk (hb); have n4_ := Aside0.mk (ho); clear HO_6; clear HO_7; clear BK355; clear HB; clear HO_8; have HO_6 := n0_; have HO_7 := n1_; have BK355 := n2_; have HB := n3_; have HO364 := n4_; clear n0_ n1_ n2_ n3_ n4_; clear ho hb hg hat))
              repeat (go_quiet (first | ((with_reducible refine gate_dst (N := 10) rfl ?_); refine box_event ?hg (N := 10) ?hd (cs := #[.int .i64 0, .int .i64 0, .int .i64 0, .int .i64 0]) (t := 39) ?hr ?_; (case hd => rfl); (case hg => rfl); (case hr => first | (go_simp; done) | (go_simp; rfl)); intro gb355 hg w23 hbox hb; have n0_ := Aside0.mk (Kd.R_below (by (with_reducible repeat (first | apply Kd.R_alloc | apply Kd.R_drewN | apply Kd.R_drew)); exact HO_6.out) hb); have n1_ := Aside0.mk (Kd.R_below (by (with_reducible repeat (first | apply Kd.R_alloc | apply Kd.R_drewN | apply Kd.R_drew)); exact HO_7.out) hb); have n2_ := Aside0.mk (Kd.R_below (by (with_reducible repeat (first | apply Kd.R_alloc | apply Kd.R_drewN | apply Kd.R_drew)); exact HO_8.out) hb); have n3_ := Aside0.mk (below_step (by repeat (first | (with_reducible first | exact HB.out | apply below_alloc | apply pw_below_drewN | apply below_drew1) | exact HB.out)) hb); have n4_ := Aside0.mk (hbox); have n5_ := Aside0.mk ((by rw [hg]; exact (below_size (by repeat (first | (with_reducible first | exact HB.out | apply below_alloc | apply pw_below_drewN | apply below_drew1) | exact HB.out))) : w.heap.size ≤ gb355)); have n6_ := Aside0.mk ((by rw [hg]; exact (below_size (by repeat (first | (with_reducible first | exact HB.out | apply below_alloc | apply pw_below_drewN | apply below_drew1) | exact HB.out))) : w.heap.size ≤ gb355)); clear HO_6; clear HO_7; clear HO_8; clear HB; have HO_6 := n0_; have HO_7 := n1_; have HO_8 := n2_; have HB := n3_; have BK355 := n4_; have GW355 := n5_; have GE355 := n6_; clear n0_ n1_ n2_ n3_ n4_ n5_ n6_; clear hb hbox hg; have hcz24_0 : w23.cell? ⟨gb355, 0, none⟩ = some (.int .i64 0) := (blk_cell BK355.out 0).trans rfl; have hcz24_1 : w23.cell? ⟨gb355, 1, none⟩ = some (.int .i64 0) := (blk_cell BK355.out 1).trans rfl; have hcz24_2 : w23.cell? ⟨gb355, 2, none⟩ = some (.int .i64 0) := (blk_cell BK355.out 2).trans rfl; have hcz24_3 : w23.cell? ⟨gb355, 3, none⟩ = some (.int .i64 0) := (blk_cell BK355.out 3).trans rfl; have hfz24_0 := blk_frozen BK355.out 0; have hfz24_1 := blk_frozen BK355.out 1; have hfz24_2 := blk_frozen BK355.out 2; have hfz24_3 := blk_frozen BK355.out 3; obtain ⟨Ao25, co25, eo25⟩ := Kd.R_slice HO_6.out; subst eo25; have p356 : 0 ≤ (((rd_T39 l1 x23_1).f0) : Int) := of_decide_eq_true (by first | (with_reducible assumption) | assumption); have q356 : ((rd_T39 l1 x23_1).f0) < (t348.length : Int) := of_decide_eq_true (by first | (with_reducible assumption) | assumption); obtain ⟨ad356, e356, hx356_0⟩ := Kd.at_int (Kd.R_reads' HO_6.out).2.2 ((rd_T39 l1 x23_1).f0) p356 q356; cases e356; have hn356_0 : ad356.block ≠ gb355 := Kd.own_blk (Kd.R_ne HO_6.out BK355.out (by decide)); have hn356_1 : ad356.block ≠ gb355 := Kd.own_blk (Kd.R_ne HO_6.out BK355.out (by decide)); have hn356_2 : ad356.block ≠ gb355 := Kd.own_blk (Kd.R_ne HO_6.out BK355.out (by decide)); have hn356_3 : ad356.block ≠ gb355 := Kd.own_blk (Kd.R_ne HO_6.out BK355.out (by decide)); replace hx356_0 := (cell_far (p := ⟨gb355, 0, none⟩) (by first | (rw [add_block]; exact hn356_0) | (show (Addr.add _ _).block ≠ _; rw [add_block]; exact hn356_0) | exact hn356_0) (.int .i64 ((rd_T39 l1 x23_1).f0))).trans hx356_0; replace hx356_0 := (cell_far (p := ⟨gb355, 1, none⟩) (by first | (rw [add_block]; exact hn356_1) | (show (Addr.add _ _).block ≠ _; rw [add_block]; exact hn356_1) | exact hn356_1) (.int .i64 ((rd_T39 l1 x23_1).f1))).trans hx356_0; replace hx356_0 := (cell_far (p := ⟨gb355, 2, none⟩) (by first | (rw [add_block]; exact hn356_2) | (show (Addr.add _ _).block ≠ _; rw [add_block]; exact hn356_2) | exact hn356_2) (.int .i64 ((rd_T39 l1 x23_1).f2))).trans hx356_0; replace hx356_0 := (cell_far (p := ⟨gb355, 3, none⟩) (by first | (rw [add_block]; exact hn356_3) | (show (Addr.add _ _).block ≠ _; rw [add_block]; exact hn356_3) | exact hn356_3) (.int .i64 ((rd_T39 l1 x23_1).f3))).trans hx356_0; (try have hy356_0 := fun (n_ : Nat) => (show ((((((w23.drewN n_).setCell ⟨gb355, 0, none⟩ (.int .i64 ((rd_T39 l1 x23_1).f0))).setCell ⟨gb355, 1, none⟩ (.int .i64 ((rd_T39 l1 x23_1).f1))).setCell ⟨gb355, 2, none⟩ (.int .i64 ((rd_T39 l1 x23_1).f2))).setCell ⟨gb355, 3, none⟩ (.int .i64 ((rd_T39 l1 x23_1).f3)))).cell? _ = some _ from hx356_0)); clear hn356_0; clear hn356_1; clear hn356_2; clear hn356_3; replace p356 := eq_true p356; replace q356 := eq_true q356; have p360 : 0 ≤ (((rd_T39 l1 x23_1).f0) : Int) := of_decide_eq_true (by first | (with_reducible assumption) | assumption); have q360 : ((rd_T39 l1 x23_1).f0) < (t348.length : Int) := of_decide_eq_true (by first | (with_reducible assumption) | assumption); obtain ⟨ad360, e360, hx360_0⟩ := Kd.at_int (Kd.R_reads' HO_6.out).2.2 ((rd_T39 l1 x23_1).f0) p360 q360; obtain rfl : ad356 = ad360 := (by injection e360); have hn360_0 : ad356.block ≠ gb355 := Kd.own_blk (Kd.R_ne HO_6.out BK355.out (by decide)); have hn360_1 : ad356.block ≠ gb355 := Kd.own_blk (Kd.R_ne HO_6.out BK355.out (by decide)); have hn360_2 : ad356.block ≠ gb355 := Kd.own_blk (Kd.R_ne HO_6.out BK355.out (by decide)); have hn360_3 : ad356.block ≠ gb355 := Kd.own_blk (Kd.R_ne HO_6.out BK355.out (by decide)); replace hx360_0 := (cell_far (p := ⟨gb355, 0, none⟩) (by first | (rw [add_block]; exact hn360_0) | (show (Addr.add _ _).block ≠ _; rw [add_block]; exact hn360_0) | exact hn360_0) (.int .i64 ((rd_T39 l1 x23_1).f0))).trans hx360_0; replace hx360_0 := (cell_far (p := ⟨gb355, 1, none⟩) (by first | (rw [add_block]; exact hn360_1) | (show (Addr.add _ _).block ≠ _; rw [add_block]; exact hn360_1) | exact hn360_1) (.int .i64 ((rd_T39 l1 x23_1).f1))).trans hx360_0; replace hx360_0 := (cell_far (p := ⟨gb355, 2, none⟩) (by first | (rw [add_block]; exact hn360_2) | (show (Addr.add _ _).block ≠ _; rw [add_block]; exact hn360_2) | exact hn360_2) (.int .i64 ((rd_T39 l1 x23_1).f2))).trans hx360_0; replace hx360_0 := (cell_far (p := ⟨gb355, 3, none⟩) (by first | (rw [add_block]; exact hn360_3) | (show (Addr.add _ _).block ≠ _; rw [add_block]; exact hn360_3) | exact hn360_3) (.int .i64 ((rd_T39 l1 x23_1).f3))).trans hx360_0; (try have hy360_0 := fun (n_ : Nat) => (show ((((((w23.drewN n_).setCell ⟨gb355, 0, none⟩ (.int .i64 ((rd_T39 l1 x23_1).f0))).setCell ⟨gb355, 1, none⟩ (.int .i64 ((rd_T39 l1 x23_1).f1))).setCell ⟨gb355, 2, none⟩ (.int .i64 ((rd_T39 l1 x23_1).f2))).setCell ⟨gb355, 3, none⟩ (.int .i64 ((rd_T39 l1 x23_1).f3)))).cell? _ = some _ from hx360_0)); clear hn360_0; clear hn360_1; clear hn360_2; clear hn360_3; replace p360 := eq_true p360; replace q360 := eq_true q360; obtain ⟨Ao26, co26, eo26⟩ := Kd.R_slice HO_7.out; subst eo26; have p361 : 0 ≤ (((rd_T39 l1 x23_1).f1) : Int) := of_decide_eq_true (by first | (with_reducible assumption) | assumption); have q361 : ((rd_T39 l1 x23_1).f1) < (t349.length : Int) := of_decide_eq_true (by first | (with_reducible assumption) | assumption); obtain ⟨ad361, e361, hx361_0⟩ := Kd.at_int (Kd.R_reads' HO_7.out).2.2 ((rd_T39 l1 x23_1).f1) p361 q361; cases e361; have hn361_0 : ad361.block ≠ gb355 := Kd.own_blk (Kd.R_ne HO_7.out BK355.out (by decide)); have hn361_1 : ad361.block ≠ gb355 := Kd.own_blk (Kd.R_ne HO_7.out BK355.out (by decide)); have hn361_2 : ad361.block ≠ gb355 := Kd.own_blk (Kd.R_ne HO_7.out BK355.out (by decide)); have hn361_3 : ad361.block ≠ gb355 := Kd.own_blk (Kd.R_ne HO_7.out BK355.out (by decide)); replace hx361_0 := (cell_far (p := ⟨gb355, 0, none⟩) (by first | (rw [add_block]; exact hn361_0) | (show (Addr.add _ _).block ≠ _; rw [add_block]; exact hn361_0) | exact hn361_0) (.int .i64 ((rd_T39 l1 x23_1).f0))).trans hx361_0; replace hx361_0 := (cell_far (p := ⟨gb355, 1, none⟩) (by first | (rw [add_block]; exact hn361_1) | (show (Addr.add _ _).block ≠ _; rw [add_block]; exact hn361_1) | exact hn361_1) (.int .i64 ((rd_T39 l1 x23_1).f1))).trans hx361_0; replace hx361_0 := (cell_far (p := ⟨gb355, 2, none⟩) (by first | (rw [add_block]; exact hn361_2) | (show (Addr.add _ _).block ≠ _; rw [add_block]; exact hn361_2) | exact hn361_2) (.int .i64 ((rd_T39 l1 x23_1).f2))).trans hx361_0; replace hx361_0 := (cell_far (p := ⟨gb355, 3, none⟩) (by first | (rw [add_block]; exact hn361_3) | (show (Addr.add _ _).block ≠ _; rw [add_block]; exact hn361_3) | exact hn361_3) (.int .i64 ((rd_T39 l1 x23_1).f3))).trans hx361_0; (try have hy361_0 := fun (n_ : Nat) => (show ((((((w23.drewN n_).setCell ⟨gb355, 0, none⟩ (.int .i64 ((rd_T39 l1 x23_1).f0))).setCell ⟨gb355, 1, none⟩ (.int .i64 ((rd_T39 l1 x23_1).f1))).setCell ⟨gb355, 2, none⟩ (.int .i64 ((rd_T39 l1 x23_1).f2))).setCell ⟨gb355, 3, none⟩ (.int .i64 ((rd_T39 l1 x23_1).f3)))).cell? _ = some _ from hx361_0)); clear hn361_0; clear hn361_1; clear hn361_2; clear hn361_3; replace p361 := eq_true p361; replace q361 := eq_true q361) | ((with_reducible refine gate_builtin (b := .append) (xs := #[.tmp 50, .tmp 52]) rfl ?_); at_builtin; refine Kd.R_append (Kd.int .i64) (w0 := w) w.heap.size rfl (.tmp 50) (.tmp 52) 27 2 (.int .i64 0) 8 rfl Try.underlying27 info2 rfl (by decide) (by omega) u8 x8_1 x23_1 [.int .i64 x23_1] (fun k_ => some k_ ≠ (.slice (some ad356) t348.length co25 : Value).ownBlock ∧ some k_ ≠ (.slice (some ad361) t349.length co26 : Value).ownBlock) (fun _ => False) rfl (by first | (go_simp; done) | (go_simp; rfl)) ?aP (fun _ hk => hk.elim) ?aF ?aO ?aB ?aS ?aL ?_; (case aP => exact rfl); (case aB => exact (by repeat (first | (with_reducible first | exact HB.out | apply below_alloc | apply pw_below_drewN | apply below_drew1 | refine below_set ?_ GE355.out) | exact HB.out))); (case aF => exact (fun k_ hk => ⟨Kd.fresh' (Kd.R_lt (by (with_reducible repeat (first | apply Kd.R_alloc | apply Kd.R_drewN | apply Kd.R_drew)); exact (Kd.R_mono (Kd.R_far (p := ⟨gb355, 3, none⟩) (Kd.R_far (p := ⟨gb355, 2, none⟩) (Kd.R_far (p := ⟨gb355, 1, none⟩) (Kd.R_far (p := ⟨gb355, 0, none⟩) (Kd.R_types HO_6.out BK355.out (by decide)) (fun _ hk => hk.2) (.int .i64 ((rd_T39 l1 x23_1).f0))) (fun _ hk => hk.2) (.int .i64 ((rd_T39 l1 x23_1).f1))) (fun _ hk => hk.2) (.int .i64 ((rd_T39 l1 x23_1).f2))) (fun _ hk => hk.2) (.int .i64 ((rd_T39 l1 x23_1).f3))) (fun _ h_ => h_.1)))) k_ hk, Kd.fresh' (Kd.R_lt (by (with_reducible repeat (first | apply Kd.R_alloc | apply Kd.R_drewN | apply Kd.R_drew)); exact (Kd.R_mono (Kd.R_far (p := ⟨gb355, 3, none⟩) (Kd.R_far (p := ⟨gb355, 2, none⟩) (Kd.R_far (p := ⟨gb355, 1, none⟩) (Kd.R_far (p := ⟨gb355, 0, none⟩) (Kd.R_types HO_7.out BK355.out (by decide)) (fun _ hk => hk.2) (.int .i64 ((rd_T39 l1 x23_1).f0))) (fun _ hk => hk.2) (.int .i64 ((rd_T39 l1 x23_1).f1))) (fun _ hk => hk.2) (.int .i64 ((rd_T39 l1 x23_1).f2))) (fun _ hk => hk.2) (.int .i64 ((rd_T39 l1 x23_1).f3))) (fun _ h_ => h_.1)))) k_ hk⟩)); (case aO => exact (by (with_reducible repeat (first | apply Kd.R_alloc | apply Kd.R_drewN | apply Kd.R_drew)); exact Kd.R_mono (Kd.R_far (p := ⟨gb355, 3, none⟩) (Kd.R_far (p := ⟨gb355, 2, none⟩) (Kd.R_far (p := ⟨gb355, 1, none⟩) (Kd.R_far (p := ⟨gb355, 0, none⟩) (Kd.R_types HO_8.out BK355.out (by decide)) (fun _ hk => hk.2) (.int .i64 ((rd_T39 l1 x23_1).f0))) (fun _ hk => hk.2) (.int .i64 ((rd_T39 l1 x23_1).f1))) (fun _ hk => hk.2) (.int .i64 ((rd_T39 l1 x23_1).f2))) (fun _ hk => hk.2) (.int .i64 ((rd_T39 l1 x23_1).f3))) (fun _ hk => ⟨hk.1.1, hk.1.2⟩))); (case aS => exact (below_size (by repeat (first | (with_reducible first | exact HB.out | apply below_alloc | apply pw_below_drewN | apply below_drew1 | refine below_set ?_ GE355.out) | exact HB.out)))); (case aL => have := LMc22.out; omega); intro v363 w27 ho hb hg hat; rw [← Ny362.out] at ho; have n0_ := Aside0.mk (Kd.R_after (ok := (fun k_ => some k_ ≠ (.slice (some ad361) t349.length co26 : Value).ownBlock)) (by (with_reducible repeat (first | apply Kd.R_alloc | apply Kd.R_drewN | apply Kd.R_drew)); exact Kd.R_mono (Kd.R_far (p := ⟨gb355, 3, none⟩) (Kd.R_far (p := ⟨gb355, 2, none⟩) (Kd.R_far (p := ⟨gb355, 1, none⟩) (Kd.R_far (p := ⟨gb355, 0, none⟩) (Kd.R_types HO_6.out BK355.out (by decide)) (fun _ hk => hk.2) (.int .i64 ((rd_T39 l1 x23_1).f0))) (fun _ hk => hk.2) (.int .i64 ((rd_T39 l1 x23_1).f1))) (fun _ hk => hk.2) (.int .i64 ((rd_T39 l1 x23_1).f2))) (fun _ hk => hk.2) (.int .i64 ((rd_T39 l1 x23_1).f3))) (fun _ hk => ⟨hk.1.1, hk.1.2⟩)) hg hat); have n1_ := Aside0.mk (Kd.R_after (ok := (fun k_ => some k_ ≠ (.slice (some ad356) t348.length co25 : Value).ownBlock)) (by (with_reducible repeat (first | apply Kd.R_alloc | apply Kd.R_drewN | apply Kd.R_drew)); exact Kd.R_mono (Kd.R_far (p := ⟨gb355, 3, none⟩) (Kd.R_far (p := ⟨gb355, 2, none⟩) (Kd.R_far (p := ⟨gb355, 1, none⟩) (Kd.R_far (p := ⟨gb355, 0, none⟩) (Kd.R_types HO_7.out BK355.out (by decide)) (fun _ hk => hk.2) (.int .i64 ((rd_T39 l1 x23_1).f0))) (fun _ hk => hk.2) (.int .i64 ((rd_T39 l1 x23_1).f1))) (fun _ hk => hk.2) (.int .i64 ((rd_T39 l1 x23_1).f2))) (fun _ hk => hk.2) (.int .i64 ((rd_T39 l1 x23_1).f3))) (fun _ hk => ⟨hk.1.1, hk.1.2⟩)) hg hat); have n2_ := Aside0.mk (blk_grown (g := gb355) (o := .cells #[.int .i64 ((rd_T39 l1 x23_1).f0), .int .i64 ((rd_T39 l1 x23_1).f1), .int .i64 ((rd_T39 l1 x23_1).f2), .int .i64 ((rd_T39 l1 x23_1).f3)] 39 (0, 0)) (by (with_reducible repeat (first | refine blk_drewN ?_ _ | refine blk_drew ?_ | refine blk_alloc ?_ _)); refine blk_put (cs := #[.int .i64 ((rd_T39 l1 x23_1).f0), .int .i64 ((rd_T39 l1 x23_1).f1), .int .i64 ((rd_T39 l1 x23_1).f2), .int .i64 0]) ?_ 3 _ rfl; (with_reducible repeat (first | refine blk_drewN ?_ _ | refine blk_drew ?_ | refine blk_alloc ?_ _)); refine blk_put (cs := #[.int .i64 ((rd_T39 l1 x23_1).f0), .int .i64 ((rd_T39 l1 x23_1).f1), .int .i64 0, .int .i64 0]) ?_ 2 _ rfl; (with_reducible repeat (first | refine blk_drewN ?_ _ | refine blk_drew ?_ | refine blk_alloc ?_ _)); refine blk_put (cs := #[.int .i64 ((rd_T39 l1 x23_1).f0), .int .i64 0, .int .i64 0, .int .i64 0]) ?_ 1 _ rfl; (with_reducible repeat (first | refine blk_drewN ?_ _ | refine blk_drew ?_ | refine blk_alloc ?_ _)); refine blk_put (cs := #[.int .i64 0, .int .i64 0, .int .i64 0, .int .i64 0]) ?_ 0 _ rfl; (with_reducible repeat (first | refine blk_drewN ?_ _ | refine blk_drew ?_ | refine blk_alloc ?_ _)); exact BK355.out) hg (Kd.R_ne HO_8.out BK355.out (by decide))); have n3_ := Aside0.mk (hb); have n4_ := Aside0.mk (ho); clear HO_6; clear HO_7; clear BK355; clear HB; clear HO_8; have HO_6 := n0_; have HO_7 := n1_; have BK355 := n2_; have HB := n3_; have HO364 := n4_; clear n0_ n1_ n2_ n3_ n4_; clear ho hb hg hat)); try go_wp2_with (first | ((with_reducible refine gate_dst (N := 10) rfl ?_); refine box_event ?hg (N := 10) ?hd (cs := #[.int .i64 0, .int .i64 0, .int .i64 0, .int .i64 0]) (t := 39) ?hr ?_; (case hd => rfl); (case hg => rfl); (case hr => first | (go_simp; done) | (go_simp; rfl)); intro gb355 hg w23 hbox hb; have n0_ := Aside0.mk (Kd.R_below (by (with_reducible repeat (first | apply Kd.R_alloc | apply Kd.R_drewN | apply Kd.R_drew)); exact HO_6.out) hb); have n1_ := Aside0.mk (Kd.R_below (by (with_reducible repeat (first | apply Kd.R_alloc | apply Kd.R_drewN | apply Kd.R_drew)); exact HO_7.out) hb); have n2_ := Aside0.mk (Kd.R_below (by (with_reducible repeat (first | apply Kd.R_alloc | apply Kd.R_drewN | apply Kd.R_drew)); exact HO_8.out) hb); have n3_ := Aside0.mk (below_step (by repeat (first | (with_reducible first | exact HB.out | apply below_alloc | apply pw_below_drewN | apply below_drew1) | exact HB.out)) hb); have n4_ := Aside0.mk (hbox); have n5_ := Aside0.mk ((by rw [hg]; exact (below_size (by repeat (first | (with_reducible first | exact HB.out | apply below_alloc | apply pw_below_drewN | apply below_drew1) | exact HB.out))) : w.heap.size ≤ gb355)); have n6_ := Aside0.mk ((by rw [hg]; exact (below_size (by repeat (first | (with_reducible first | exact HB.out | apply below_alloc | apply pw_below_drewN | apply below_drew1) | exact HB.out))) : w.heap.size ≤ gb355)); clear HO_6; clear HO_7; clear HO_8; clear HB; have HO_6 := n0_; have HO_7 := n1_; have HO_8 := n2_; have HB := n3_; have BK355 := n4_; have GW355 := n5_; have GE355 := n6_; clear n0_ n1_ n2_ n3_ n4_ n5_ n6_; clear hb hbox hg; have hcz24_0 : w23.cell? ⟨gb355, 0, none⟩ = some (.int .i64 0) := (blk_cell BK355.out 0).trans rfl; have hcz24_1 : w23.cell? ⟨gb355, 1, none⟩ = some (.int .i64 0) := (blk_cell BK355.out 1).trans rfl; have hcz24_2 : w23.cell? ⟨gb355, 2, none⟩ = some (.int .i64 0) := (blk_cell BK355.out 2).trans rfl; have hcz24_3 : w23.cell? ⟨gb355, 3, none⟩ = some (.int .i64 0) := (blk_cell BK355.out 3).trans rfl; have hfz24_0 := blk_frozen BK355.out 0; have hfz24_1 := blk_frozen BK355.out 1; have hfz24_2 := blk_frozen BK355.out 2; have hfz24_3 := blk_frozen BK355.out 3; obtain ⟨Ao25, co25, eo25⟩ := Kd.R_slice HO_6.out; subst eo25; have p356 : 0 ≤ (((rd_T39 l1 x23_1).f0) : Int) := of_decide_eq_true (by first | (with_reducible assumption) | assumption); have q356 : ((rd_T39 l1 x23_1).f0) < (t348.length : Int) := of_decide_eq_true (by first | (with_reducible assumption) | assumption); obtain ⟨ad356, e356, hx356_0⟩ := Kd.at_int (Kd.R_reads' HO_6.out).2.2 ((rd_T39 l1 x23_1).f0) p356 q356; cases e356; have hn356_0 : ad356.block ≠ gb355 := Kd.own_blk (Kd.R_ne HO_6.out BK355.out (by decide)); have hn356_1 : ad356.block ≠ gb355 := Kd.own_blk (Kd.R_ne HO_6.out BK355.out (by decide)); have hn356_2 : ad356.block ≠ gb355 := Kd.own_blk (Kd.R_ne HO_6.out BK355.out (by decide)); have hn356_3 : ad356.block ≠ gb355 := Kd.own_blk (Kd.R_ne HO_6.out BK355.out (by decide)); replace hx356_0 := (cell_far (p := ⟨gb355, 0, none⟩) (by first | (rw [add_block]; exact hn356_0) | (show (Addr.add _ _).block ≠ _; rw [add_block]; exact hn356_0) | exact hn356_0) (.int .i64 ((rd_T39 l1 x23_1).f0))).trans hx356_0; replace hx356_0 := (cell_far (p := ⟨gb355, 1, none⟩) (by first | (rw [add_block]; exact hn356_1) | (show (Addr.add _ _).block ≠ _; rw [add_block]; exact hn356_1) | exact hn356_1) (.int .i64 ((rd_T39 l1 x23_1).f1))).trans hx356_0; replace hx356_0 := (cell_far (p := ⟨gb355, 2, none⟩) (by first | (rw [add_block]; exact hn356_2) | (show (Addr.add _ _).block ≠ _; rw [add_block]; exact hn356_2) | exact hn356_2) (.int .i64 ((rd_T39 l1 x23_1).f2))).trans hx356_0; replace hx356_0 := (cell_far (p := ⟨gb355, 3, none⟩) (by first | (rw [add_block]; exact hn356_3) | (show (Addr.add _ _).block ≠ _; rw [add_block]; exact hn356_3) | exact hn356_3) (.int .i64 ((rd_T39 l1 x23_1).f3))).trans hx356_0; (try have hy356_0 := fun (n_ : Nat) => (show ((((((w23.drewN n_).setCell ⟨gb355, 0, none⟩ (.int .i64 ((rd_T39 l1 x23_1).f0))).setCell ⟨gb355, 1, none⟩ (.int .i64 ((rd_T39 l1 x23_1).f1))).setCell ⟨gb355, 2, none⟩ (.int .i64 ((rd_T39 l1 x23_1).f2))).setCell ⟨gb355, 3, none⟩ (.int .i64 ((rd_T39 l1 x23_1).f3)))).cell? _ = some _ from hx356_0)); clear hn356_0; clear hn356_1; clear hn356_2; clear hn356_3; replace p356 := eq_true p356; replace q356 := eq_true q356; have p360 : 0 ≤ (((rd_T39 l1 x23_1).f0) : Int) := of_decide_eq_true (by first | (with_reducible assumption) | assumption); have q360 : ((rd_T39 l1 x23_1).f0) < (t348.length : Int) := of_decide_eq_true (by first | (with_reducible assumption) | assumption); obtain ⟨ad360, e360, hx360_0⟩ := Kd.at_int (Kd.R_reads' HO_6.out).2.2 ((rd_T39 l1 x23_1).f0) p360 q360; obtain rfl : ad356 = ad360 := (by injection e360); have hn360_0 : ad356.block ≠ gb355 := Kd.own_blk (Kd.R_ne HO_6.out BK355.out (by decide)); have hn360_1 : ad356.block ≠ gb355 := Kd.own_blk (Kd.R_ne HO_6.out BK355.out (by decide)); have hn360_2 : ad356.block ≠ gb355 := Kd.own_blk (Kd.R_ne HO_6.out BK355.out (by decide)); have hn360_3 : ad356.block ≠ gb355 := Kd.own_blk (Kd.R_ne HO_6.out BK355.out (by decide)); replace hx360_0 := (cell_far (p := ⟨gb355, 0, none⟩) (by first | (rw [add_block]; exact hn360_0) | (show (Addr.add _ _).block ≠ _; rw [add_block]; exact hn360_0) | exact hn360_0) (.int .i64 ((rd_T39 l1 x23_1).f0))).trans hx360_0; replace hx360_0 := (cell_far (p := ⟨gb355, 1, none⟩) (by first | (rw [add_block]; exact hn360_1) | (show (Addr.add _ _).block ≠ _; rw [add_block]; exact hn360_1) | exact hn360_1) (.int .i64 ((rd_T39 l1 x23_1).f1))).trans hx360_0; replace hx360_0 := (cell_far (p := ⟨gb355, 2, none⟩) (by first | (rw [add_block]; exact hn360_2) | (show (Addr.add _ _).block ≠ _; rw [add_block]; exact hn360_2) | exact hn360_2) (.int .i64 ((rd_T39 l1 x23_1).f2))).trans hx360_0; replace hx360_0 := (cell_far (p := ⟨gb355, 3, none⟩) (by first | (rw [add_block]; exact hn360_3) | (show (Addr.add _ _).block ≠ _; rw [add_block]; exact hn360_3) | exact hn360_3) (.int .i64 ((rd_T39 l1 x23_1).f3))).trans hx360_0; (try have hy360_0 := fun (n_ : Nat) => (show ((((((w23.drewN n_).setCell ⟨gb355, 0, none⟩ (.int .i64 ((rd_T39 l1 x23_1).f0))).setCell ⟨gb355, 1, none⟩ (.int .i64 ((rd_T39 l1 x23_1).f1))).setCell ⟨gb355, 2, none⟩ (.int .i64 ((rd_T39 l1 x23_1).f2))).setCell ⟨gb355, 3, none⟩ (.int .i64 ((rd_T39 l1 x23_1).f3)))).cell? _ = some _ from hx360_0)); clear hn360_0; clear hn360_1; clear hn360_2; clear hn360_3; replace p360 := eq_true p360; replace q360 := eq_true q360; obtain ⟨Ao26, co26, eo26⟩ := Kd.R_slice HO_7.out; subst eo26; have p361 : 0 ≤ (((rd_T39 l1 x23_1).f1) : Int) := of_decide_eq_true (by first | (with_reducible assumption) | assumption); have q361 : ((rd_T39 l1 x23_1).f1) < (t349.length : Int) := of_decide_eq_true (by first | (with_reducible assumption) | assumption); obtain ⟨ad361, e361, hx361_0⟩ := Kd.at_int (Kd.R_reads' HO_7.out).2.2 ((rd_T39 l1 x23_1).f1) p361 q361; cases e361; have hn361_0 : ad361.block ≠ gb355 := Kd.own_blk (Kd.R_ne HO_7.out BK355.out (by decide)); have hn361_1 : ad361.block ≠ gb355 := Kd.own_blk (Kd.R_ne HO_7.out BK355.out (by decide)); have hn361_2 : ad361.block ≠ gb355 := Kd.own_blk (Kd.R_ne HO_7.out BK355.out (by decide)); have hn361_3 : ad361.block ≠ gb355 := Kd.own_blk (Kd.R_ne HO_7.out BK355.out (by decide)); replace hx361_0 := (cell_far (p := ⟨gb355, 0, none⟩) (by first | (rw [add_block]; exact hn361_0) | (show (Addr.add _ _).block ≠ _; rw [add_block]; exact hn361_0) | exact hn361_0) (.int .i64 ((rd_T39 l1 x23_1).f0))).trans hx361_0; replace hx361_0 := (cell_far (p := ⟨gb355, 1, none⟩) (by first | (rw [add_block]; exact hn361_1) | (show (Addr.add _ _).block ≠ _; rw [add_block]; exact hn361_1) | exact hn361_1) (.int .i64 ((rd_T39 l1 x23_1).f1))).trans hx361_0; replace hx361_0 := (cell_far (p := ⟨gb355, 2, none⟩) (by first | (rw [add_block]; exact hn361_2) | (show (Addr.add _ _).block ≠ _; rw [add_block]; exact hn361_2) | exact hn361_2) (.int .i64 ((rd_T39 l1 x23_1).f2))).trans hx361_0; replace hx361_0 := (cell_far (p := ⟨gb355, 3, none⟩) (by first | (rw [add_block]; exact hn361_3) | (show (Addr.add _ _).block ≠ _; rw [add_block]; exact hn361_3) | exact hn361_3) (.int .i64 ((rd_T39 l1 x23_1).f3))).trans hx361_0; (try have hy361_0 := fun (n_ : Nat) => (show ((((((w23.drewN n_).setCell ⟨gb355, 0, none⟩ (.int .i64 ((rd_T39 l1 x23_1).f0))).setCell ⟨gb355, 1, none⟩ (.int .i64 ((rd_T39 l1 x23_1).f1))).setCell ⟨gb355, 2, none⟩ (.int .i64 ((rd_T39 l1 x23_1).f2))).setCell ⟨gb355, 3, none⟩ (.int .i64 ((rd_T39 l1 x23_1).f3)))).cell? _ = some _ from hx361_0)); clear hn361_0; clear hn361_1; clear hn361_2; clear hn361_3; replace p361 := eq_true p361; replace q361 := eq_true q361) | ((with_reducible refine gate_builtin (b := .append) (xs := #[.tmp 50, .tmp 52]) rfl ?_); at_builtin; refine Kd.R_append (Kd.int .i64) (w0 := w) w.heap.size rfl (.tmp 50) (.tmp 52) 27 2 (.int .i64 0) 8 rfl Try.underlying27 info2 rfl (by decide) (by omega) u8 x8_1 x23_1 [.int .i64 x23_1] (fun k_ => some k_ ≠ (.slice (some ad356) t348.length co25 : Value).ownBlock ∧ some k_ ≠ (.slice (some ad361) t349.length co26 : Value).ownBlock) (fun _ => False) rfl (by first | (go_simp; done) | (go_simp; rfl)) ?aP (fun _ hk => hk.elim) ?aF ?aO ?aB ?aS ?aL ?_; (case aP => exact rfl); (case aB => exact (by repeat (first | (with_reducible first | exact HB.out | apply below_alloc | apply pw_below_drewN | apply below_drew1 | refine below_set ?_ GE355.out) | exact HB.out))); (case aF => exact (fun k_ hk => ⟨Kd.fresh' (Kd.R_lt (by (with_reducible repeat (first | apply Kd.R_alloc | apply Kd.R_drewN | apply Kd.R_drew)); exact (Kd.R_mono (Kd.R_far (p := ⟨gb355, 3, none⟩) (Kd.R_far (p := ⟨gb355, 2, none⟩) (Kd.R_far (p := ⟨gb355, 1, none⟩) (Kd.R_far (p := ⟨gb355, 0, none⟩) (Kd.R_types HO_6.out BK355.out (by decide)) (fun _ hk => hk.2) (.int .i64 ((rd_T39 l1 x23_1).f0))) (fun _ hk => hk.2) (.int .i64 ((rd_T39 l1 x23_1).f1))) (fun _ hk => hk.2) (.int .i64 ((rd_T39 l1 x23_1).f2))) (fun _ hk => hk.2) (.int .i64 ((rd_T39 l1 x23_1).f3))) (fun _ h_ => h_.1)))) k_ hk, Kd.fresh' (Kd.R_lt (by (with_reducible repeat (first | apply Kd.R_alloc | apply Kd.R_drewN | apply Kd.R_drew)); exact (Kd.R_mono (Kd.R_far (p := ⟨gb355, 3, none⟩) (Kd.R_far (p := ⟨gb355, 2, none⟩) (Kd.R_far (p := ⟨gb355, 1, none⟩) (Kd.R_far (p := ⟨gb355, 0, none⟩) (Kd.R_types HO_7.out BK355.out (by decide)) (fun _ hk => hk.2) (.int .i64 ((rd_T39 l1 x23_1).f0))) (fun _ hk => hk.2) (.int .i64 ((rd_T39 l1 x23_1).f1))) (fun _ hk => hk.2) (.int .i64 ((rd_T39 l1 x23_1).f2))) (fun _ hk => hk.2) (.int .i64 ((rd_T39 l1 x23_1).f3))) (fun _ h_ => h_.1)))) k_ hk⟩)); (case aO => exact (by (with_reducible repeat (first | apply Kd.R_alloc | apply Kd.R_drewN | apply Kd.R_drew)); exact Kd.R_mono (Kd.R_far (p := ⟨gb355, 3, none⟩) (Kd.R_far (p := ⟨gb355, 2, none⟩) (Kd.R_far (p := ⟨gb355, 1, none⟩) (Kd.R_far (p := ⟨gb355, 0, none⟩) (Kd.R_types HO_8.out BK355.out (by decide)) (fun _ hk => hk.2) (.int .i64 ((rd_T39 l1 x23_1).f0))) (fun _ hk => hk.2) (.int .i64 ((rd_T39 l1 x23_1).f1))) (fun _ hk => hk.2) (.int .i64 ((rd_T39 l1 x23_1).f2))) (fun _ hk => hk.2) (.int .i64 ((rd_T39 l1 x23_1).f3))) (fun _ hk => ⟨hk.1.1, hk.1.2⟩))); (case aS => exact (below_size (by repeat (first | (with_reducible first | exact HB.out | apply below_alloc | apply pw_below_drewN | apply below_drew1 | refine below_set ?_ GE355.out) | exact HB.out)))); (case aL => have := LMc22.out; omega); intro v363 w27 ho hb hg hat; rw [← Ny362.out] at ho; have n0_ := Aside0.mk (Kd.R_after (ok := (fun k_ => some k_ ≠ (.slice (some ad361) t349.length co26 : Value).ownBlock)) (by (with_reducible repeat (first | apply Kd.R_alloc | apply Kd.R_drewN | apply Kd.R_drew)); exact Kd.R_mono (Kd.R_far (p := ⟨gb355, 3, none⟩) (Kd.R_far (p := ⟨gb355, 2, none⟩) (Kd.R_far (p := ⟨gb355, 1, none⟩) (Kd.R_far (p := ⟨gb355, 0, none⟩) (Kd.R_types HO_6.out BK355.out (by decide)) (fun _ hk => hk.2) (.int .i64 ((rd_T39 l1 x23_1).f0))) (fun _ hk => hk.2) (.int .i64 ((rd_T39 l1 x23_1).f1))) (fun _ hk => hk.2) (.int .i64 ((rd_T39 l1 x23_1).f2))) (fun _ hk => hk.2) (.int .i64 ((rd_T39 l1 x23_1).f3))) (fun _ hk => ⟨hk.1.1, hk.1.2⟩)) hg hat); have n1_ := Aside0.mk (Kd.R_after (ok := (fun k_ => some k_ ≠ (.slice (some ad356) t348.length co25 : Value).ownBlock)) (by (with_reducible repeat (first | apply Kd.R_alloc | apply Kd.R_drewN | apply Kd.R_drew)); exact Kd.R_mono (Kd.R_far (p := ⟨gb355, 3, none⟩) (Kd.R_far (p := ⟨gb355, 2, none⟩) (Kd.R_far (p := ⟨gb355, 1, none⟩) (Kd.R_far (p := ⟨gb355, 0, none⟩) (Kd.R_types HO_7.out BK355.out (by decide)) (fun _ hk => hk.2) (.int .i64 ((rd_T39 l1 x23_1).f0))) (fun _ hk => hk.2) (.int .i64 ((rd_T39 l1 x23_1).f1))) (fun _ hk => hk.2) (.int .i64 ((rd_T39 l1 x23_1).f2))) (fun _ hk => hk.2) (.int .i64 ((rd_T39 l1 x23_1).f3))) (fun _ hk => ⟨hk.1.1, hk.1.2⟩)) hg hat); have n2_ := Aside0.mk (blk_grown (g := gb355) (o := .cells #[.int .i64 ((rd_T39 l1 x23_1).f0), .int .i64 ((rd_T39 l1 x23_1).f1), .int .i64 ((rd_T39 l1 x23_1).f2), .int .i64 ((rd_T39 l1 x23_1).f3)] 39 (0, 0)) (by (with_reducible repeat (first | refine blk_drewN ?_ _ | refine blk_drew ?_ | refine blk_alloc ?_ _)); refine blk_put (cs := #[.int .i64 ((rd_T39 l1 x23_1).f0), .int .i64 ((rd_T39 l1 x23_1).f1), .int .i64 ((rd_T39 l1 x23_1).f2), .int .i64 0]) ?_ 3 _ rfl; (with_reducible repeat (first | refine blk_drewN ?_ _ | refine blk_drew ?_ | refine blk_alloc ?_ _)); refine blk_put (cs := #[.int .i64 ((rd_T39 l1 x23_1).f0), .int .i64 ((rd_T39 l1 x23_1).f1), .int .i64 0, .int .i64 0]) ?_ 2 _ rfl; (with_reducible repeat (first | refine blk_drewN ?_ _ | refine blk_drew ?_ | refine blk_alloc ?_ _)); refine blk_put (cs := #[.int .i64 ((rd_T39 l1 x23_1).f0), .int .i64 0, .int .i64 0, .int .i64 0]) ?_ 1 _ rfl; (with_reducible repeat (first | refine blk_drewN ?_ _ | refine blk_drew ?_ | refine blk_alloc ?_ _)); refine blk_put (cs := #[.int .i64 0, .int .i64 0, .int .i64 0, .int .i64 0]) ?_ 0 _ rfl; (with_reducible repeat (first | refine blk_drewN ?_ _ | refine blk_drew ?_ | refine blk_alloc ?_ _)); exact BK355.out) hg (Kd.R_ne HO_8.out BK355.out (by decide))); have n3_ := Aside0.mk (hb); have n4_ := Aside0.mk (ho); clear HO_6; clear HO_7; clear BK355; clear HB; clear HO_8; have HO_6 := n0_; have HO_7 := n1_; have BK355 := n2_; have HB := n3_; have HO364 := n4_; clear n0_ n1_ n2_ n3_ n4_; clear ho hb hg hat)))
              go_roundg k1
              case measure => have := HK1.out; omega
              case rel => exact ⟨(y362), (wrap64 (x23_1 + 1)), (by first | rfl | (simp; done) | (simp [*]; done)), H', ⟨by have := HK1.out; omega⟩, ⟨by (with_reducible repeat (first | apply Kd.R_alloc | apply Kd.R_drewN | apply Kd.R_drew)); exact HO_6.out⟩, ⟨by (with_reducible repeat (first | apply Kd.R_alloc | apply Kd.R_drewN | apply Kd.R_drew)); exact HO_7.out⟩, ⟨by (with_reducible repeat (first | apply Kd.R_alloc | apply Kd.R_drewN | apply Kd.R_drew)); exact HO364.out⟩, ⟨by repeat (first | (with_reducible first | exact HB.out | apply below_alloc | apply pw_below_drewN | apply below_drew1 | refine below_set ?_ GE355.out) | exact HB.out)⟩⟩
             ·rw [if_neg c22] at H
              exact absurd H (by simp)
            ·rw [if_neg c21] at H
             have c21b0 : decide ((rd t349 ((rd_T39 l1 x23_1).f1)) < (wrap64 ((rd t348 ((rd_T39 l1 x23_1).f0)) + ((rd_T39 l1 x23_1).f2)))) = false := decide_eq_false c21
             clear c21
             have H' := Aside0.mk H
             clear H
             have p354 : 0 ≤ (x23_1 : Int) := of_decide_eq_true (by first | (with_reducible assumption) | assumption)
             have q354 : x23_1 < (l1.length : Int) := of_decide_eq_true (by first | (with_reducible assumption) | assumption)
             obtain ⟨ad354, e354, hx354_0, hx354_1, hx354_2, hx354_3⟩ := at_T39 HR1.out x23_1 p354 q354
             cases e354
             replace hx354_0 := (HB.out.cell (World.block_lt_of_cell? w _ hx354_0)).trans hx354_0
             replace hx354_1 := (HB.out.cell (World.block_lt_of_cell? w _ hx354_1)).trans hx354_1
             replace hx354_2 := (HB.out.cell (World.block_lt_of_cell? w _ hx354_2)).trans hx354_2
             replace hx354_3 := (HB.out.cell (World.block_lt_of_cell? w _ hx354_3)).trans hx354_3
             replace p354 := eq_true p354
             replace q354 := eq_true q354
             go_wp2_with (first | ((with_reducible refine gate_dst (N := 10) rfl ?_); refine box_event ?hg (N := 10) ?hd (cs := #[.int .i64 0, .int .i64 0, .int .i64 0, .int .i64 0]) (t := 39) ?hr ?_; (case hd => rfl); (case hg => rfl); (case hr => first | (go_simp; done) | (go_simp; rfl)); intro gb355 hg w28 hbox hb; have n0_ := Aside0.mk (Kd.R_below (by (with_reducible repeat (first | apply Kd.R_alloc | apply Kd.R_drewN | apply Kd.R_drew)); exact HO_6.out) hb); have n1_ := Aside0.mk (Kd.R_below (by (with_reducible repeat (first | apply Kd.R_alloc | apply Kd.R_drewN | apply Kd.R_drew)); exact HO_7.out) hb); have n2_ := Aside0.mk (Kd.R_below (by (with_reducible repeat (first | apply Kd.R_alloc | apply Kd.R_drewN | apply Kd.R_drew)); exact HO_8.out) hb); have n3_ := Aside0.mk (below_step (by repeat (first | (with_reducible first | exact HB.out | apply below_alloc | apply pw_below_drewN | apply below_drew1) | exact HB.out)) hb); have n4_ := Aside0.mk (hbox); have n5_ := Aside0.mk ((by rw [hg]; exact (below_size (by repeat (first | (with_reducible first | exact HB.out | apply below_alloc | apply pw_below_drewN | apply below_drew1) | exact HB.out))) : w.heap.size ≤ gb355)); have n6_ := Aside0.mk ((by rw [hg]; exact (below_size (by repeat (first | (with_reducible first | exact HB.out | apply below_alloc | apply pw_below_drewN | apply below_drew1) | exact HB.out))) : w.heap.size ≤ gb355)); clear HO_6; clear HO_7; clear HO_8; clear HB; have HO_6 := n0_; have HO_7 := n1_; have HO_8 := n2_; have HB := n3_; have BK355 := n4_; have GW355 := n5_; have GE355 := n6_; clear n0_ n1_ n2_ n3_ n4_ n5_ n6_; clear hb hbox hg; have hcz29_0 : w28.cell? ⟨gb355, 0, none⟩ = some (.int .i64 0) := (blk_cell BK355.out 0).trans rfl; have hcz29_1 : w28.cell? ⟨gb355, 1, none⟩ = some (.int .i64 0) := (blk_cell BK355.out 1).trans rfl; have hcz29_2 : w28.cell? ⟨gb355, 2, none⟩ = some (.int .i64 0) := (blk_cell BK355.out 2).trans rfl; have hcz29_3 : w28.cell? ⟨gb355, 3, none⟩ = some (.int .i64 0) := (blk_cell BK355.out 3).trans rfl; have hfz29_0 := blk_frozen BK355.out 0; have hfz29_1 := blk_frozen BK355.out 1; have hfz29_2 := blk_frozen BK355.out 2; have hfz29_3 := blk_frozen BK355.out 3; obtain ⟨Ao30, co30, eo30⟩ := Kd.R_slice HO_6.out; subst eo30; have p356 : 0 ≤ (((rd_T39 l1 x23_1).f0) : Int) := of_decide_eq_true (by first | (with_reducible assumption) | assumption); have q356 : ((rd_T39 l1 x23_1).f0) < (t348.length : Int) := of_decide_eq_true (by first | (with_reducible assumption) | assumption); obtain ⟨ad356, e356, hx356_0⟩ := Kd.at_int (Kd.R_reads' HO_6.out).2.2 ((rd_T39 l1 x23_1).f0) p356 q356; cases e356; have hn356_0 : ad356.block ≠ gb355 := Kd.own_blk (Kd.R_ne HO_6.out BK355.out (by decide)); have hn356_1 : ad356.block ≠ gb355 := Kd.own_blk (Kd.R_ne HO_6.out BK355.out (by decide)); have hn356_2 : ad356.block ≠ gb355 := Kd.own_blk (Kd.R_ne HO_6.out BK355.out (by decide)); have hn356_3 : ad356.block ≠ gb355 := Kd.own_blk (Kd.R_ne HO_6.out BK355.out (by decide)); replace hx356_0 := (cell_far (p := ⟨gb355, 0, none⟩) (by first | (rw [add_block]; exact hn356_0) | (show (Addr.add _ _).block ≠ _; rw [add_block]; exact hn356_0) | exact hn356_0) (.int .i64 ((rd_T39 l1 x23_1).f0))).trans hx356_0; replace hx356_0 := (cell_far (p := ⟨gb355, 1, none⟩) (by first | (rw [add_block]; exact hn356_1) | (show (Addr.add _ _).block ≠ _; rw [add_block]; exact hn356_1) | exact hn356_1) (.int .i64 ((rd_T39 l1 x23_1).f1))).trans hx356_0; replace hx356_0 := (cell_far (p := ⟨gb355, 2, none⟩) (by first | (rw [add_block]; exact hn356_2) | (show (Addr.add _ _).block ≠ _; rw [add_block]; exact hn356_2) | exact hn356_2) (.int .i64 ((rd_T39 l1 x23_1).f2))).trans hx356_0; replace hx356_0 := (cell_far (p := ⟨gb355, 3, none⟩) (by first | (rw [add_block]; exact hn356_3) | (show (Addr.add _ _).block ≠ _; rw [add_block]; exact hn356_3) | exact hn356_3) (.int .i64 ((rd_T39 l1 x23_1).f3))).trans hx356_0; (try have hy356_0 := fun (n_ : Nat) => (show ((((((w28.drewN n_).setCell ⟨gb355, 0, none⟩ (.int .i64 ((rd_T39 l1 x23_1).f0))).setCell ⟨gb355, 1, none⟩ (.int .i64 ((rd_T39 l1 x23_1).f1))).setCell ⟨gb355, 2, none⟩ (.int .i64 ((rd_T39 l1 x23_1).f2))).setCell ⟨gb355, 3, none⟩ (.int .i64 ((rd_T39 l1 x23_1).f3)))).cell? _ = some _ from hx356_0)); clear hn356_0; clear hn356_1; clear hn356_2; clear hn356_3; replace p356 := eq_true p356; replace q356 := eq_true q356; have p360 : 0 ≤ (((rd_T39 l1 x23_1).f0) : Int) := of_decide_eq_true (by first | (with_reducible assumption) | assumption); have q360 : ((rd_T39 l1 x23_1).f0) < (t348.length : Int) := of_decide_eq_true (by first | (with_reducible assumption) | assumption); obtain ⟨ad360, e360, hx360_0⟩ := Kd.at_int (Kd.R_reads' HO_6.out).2.2 ((rd_T39 l1 x23_1).f0) p360 q360; obtain rfl : ad356 = ad360 := (by injection e360); have hn360_0 : ad356.block ≠ gb355 := Kd.own_blk (Kd.R_ne HO_6.out BK355.out (by decide)); have hn360_1 : ad356.block ≠ gb355 := Kd.own_blk (Kd.R_ne HO_6.out BK355.out (by decide)); have hn360_2 : ad356.block ≠ gb355 := Kd.own_blk (Kd.R_ne HO_6.out BK355.out (by decide)); have hn360_3 : ad356.block ≠ gb355 := Kd.own_blk (Kd.R_ne HO_6.out BK355.out (by decide)); replace hx360_0 := (cell_far (p := ⟨gb355, 0, none⟩) (by first | (rw [add_block]; exact hn360_0) | (show (Addr.add _ _).block ≠ _; rw [add_block]; exact hn360_0) | exact hn360_0) (.int .i64 ((rd_T39 l1 x23_1).f0))).trans hx360_0; replace hx360_0 := (cell_far (p := ⟨gb355, 1, none⟩) (by first | (rw [add_block]; exact hn360_1) | (show (Addr.add _ _).block ≠ _; rw [add_block]; exact hn360_1) | exact hn360_1) (.int .i64 ((rd_T39 l1 x23_1).f1))).trans hx360_0; replace hx360_0 := (cell_far (p := ⟨gb355, 2, none⟩) (by first | (rw [add_block]; exact hn360_2) | (show (Addr.add _ _).block ≠ _; rw [add_block]; exact hn360_2) | exact hn360_2) (.int .i64 ((rd_T39 l1 x23_1).f2))).trans hx360_0; replace hx360_0 := (cell_far (p := ⟨gb355, 3, none⟩) (by first | (rw [add_block]; exact hn360_3) | (show (Addr.add _ _).block ≠ _; rw [add_block]; exact hn360_3) | exact hn360_3) (.int .i64 ((rd_T39 l1 x23_1).f3))).trans hx360_0; (try have hy360_0 := fun (n_ : Nat) => (show ((((((w28.drewN n_).setCell ⟨gb355, 0, none⟩ (.int .i64 ((rd_T39 l1 x23_1).f0))).setCell ⟨gb355, 1, none⟩ (.int .i64 ((rd_T39 l1 x23_1).f1))).setCell ⟨gb355, 2, none⟩ (.int .i64 ((rd_T39 l1 x23_1).f2))).setCell ⟨gb355, 3, none⟩ (.int .i64 ((rd_T39 l1 x23_1).f3)))).cell? _ = some _ from hx360_0)); clear hn360_0; clear hn360_1; clear hn360_2; clear hn360_3; replace p360 := eq_true p360; replace q360 := eq_true q360; obtain ⟨Ao31, co31, eo31⟩ := Kd.R_slice HO_7.out; subst eo31; have p361 : 0 ≤ (((rd_T39 l1 x23_1).f1) : Int) := of_decide_eq_true (by first | (with_reducible assumption) | assumption); have q361 : ((rd_T39 l1 x23_1).f1) < (t349.length : Int) := of_decide_eq_true (by first | (with_reducible assumption) | assumption); obtain ⟨ad361, e361, hx361_0⟩ := Kd.at_int (Kd.R_reads' HO_7.out).2.2 ((rd_T39 l1 x23_1).f1) p361 q361; cases e361; have hn361_0 : ad361.block ≠ gb355 := Kd.own_blk (Kd.R_ne HO_7.out BK355.out (by decide)); have hn361_1 : ad361.block ≠ gb355 := Kd.own_blk (Kd.R_ne HO_7.out BK355.out (by decide)); have hn361_2 : ad361.block ≠ gb355 := Kd.own_blk (Kd.R_ne HO_7.out BK355.out (by decide)); have hn361_3 : ad361.block ≠ gb355 := Kd.own_blk (Kd.R_ne HO_7.out BK355.out (by decide)); replace hx361_0 := (cell_far (p := ⟨gb355, 0, none⟩) (by first | (rw [add_block]; exact hn361_0) | (show (Addr.add _ _).block ≠ _; rw [add_block]; exact hn361_0) | exact hn361_0) (.int .i64 ((rd_T39 l1 x23_1).f0))).trans hx361_0; replace hx361_0 := (cell_far (p := ⟨gb355, 1, none⟩) (by first | (rw [add_block]; exact hn361_1) | (show (Addr.add _ _).block ≠ _; rw [add_block]; exact hn361_1) | exact hn361_1) (.int .i64 ((rd_T39 l1 x23_1).f1))).trans hx361_0; replace hx361_0 := (cell_far (p := ⟨gb355, 2, none⟩) (by first | (rw [add_block]; exact hn361_2) | (show (Addr.add _ _).block ≠ _; rw [add_block]; exact hn361_2) | exact hn361_2) (.int .i64 ((rd_T39 l1 x23_1).f2))).trans hx361_0; replace hx361_0 := (cell_far (p := ⟨gb355, 3, none⟩) (by first | (rw [add_block]; exact hn361_3) | (show (Addr.add _ _).block ≠ _; rw [add_block]; exact hn361_3) | exact hn361_3) (.int .i64 ((rd_T39 l1 x23_1).f3))).trans hx361_0; (try have hy361_0 := fun (n_ : Nat) => (show ((((((w28.drewN n_).setCell ⟨gb355, 0, none⟩ (.int .i64 ((rd_T39 l1 x23_1).f0))).setCell ⟨gb355, 1, none⟩ (.int .i64 ((rd_T39 l1 x23_1).f1))).setCell ⟨gb355, 2, none⟩ (.int .i64 ((rd_T39 l1 x23_1).f2))).setCell ⟨gb355, 3, none⟩ (.int .i64 ((rd_T39 l1 x23_1).f3)))).cell? _ = some _ from hx361_0)); clear hn361_0; clear hn361_1; clear hn361_2; clear hn361_3; replace p361 := eq_true p361; replace q361 := eq_true q361))
             repeat (go_quiet (first | ((with_reducible refine gate_dst (N := 10) rfl ?_); refine box_event ?hg (N := 10) ?hd (cs := #[.int .i64 0, .int .i64 0, .int .i64 0, .int .i64 0]) (t := 39) ?hr ?_; (case hd => rfl); (case hg => rfl); (case hr => first | (go_simp; done) | (go_simp; rfl)); intro gb355 hg w28 hbox hb; have n0_ := Aside0.mk (Kd.R_below (by (with_reducible repeat (first | apply Kd.R_alloc | apply Kd.R_drewN | apply Kd.R_drew)); exact HO_6.out) hb); have n1_ := Aside0.mk (Kd.R_below (by (with_reducible repeat (first | apply Kd.R_alloc | apply Kd.R_drewN | apply Kd.R_drew)); exact HO_7.out) hb); have n2_ := Aside0.mk (Kd.R_below (by (with_reducible repeat (first | apply Kd.R_alloc | apply Kd.R_drewN | apply Kd.R_drew)); exact HO_8.out) hb); have n3_ := Aside0.mk (below_step (by repeat (first | (with_reducible first | exact HB.out | apply below_alloc | apply pw_below_drewN | apply below_drew1) | exact HB.out)) hb); have n4_ := Aside0.mk (hbox); have n5_ := Aside0.mk ((by rw [hg]; exact (below_size (by repeat (first | (with_reducible first | exact HB.out | apply below_alloc | apply pw_below_drewN | apply below_drew1) | exact HB.out))) : w.heap.size ≤ gb355)); have n6_ := Aside0.mk ((by rw [hg]; exact (below_size (by repeat (first | (with_reducible first | exact HB.out | apply below_alloc | apply pw_below_drewN | apply below_drew1) | exact HB.out))) : w.heap.size ≤ gb355)); clear HO_6; clear HO_7; clear HO_8; clear HB; have HO_6 := n0_; have HO_7 := n1_; have HO_8 := n2_; have HB := n3_; have BK355 := n4_; have GW355 := n5_; have GE355 := n6_; clear n0_ n1_ n2_ n3_ n4_ n5_ n6_; clear hb hbox hg; have hcz29_0 : w28.cell? ⟨gb355, 0, none⟩ = some (.int .i64 0) := (blk_cell BK355.out 0).trans rfl; have hcz29_1 : w28.cell? ⟨gb355, 1, none⟩ = some (.int .i64 0) := (blk_cell BK355.out 1).trans rfl; have hcz29_2 : w28.cell? ⟨gb355, 2, none⟩ = some (.int .i64 0) := (blk_cell BK355.out 2).trans rfl; have hcz29_3 : w28.cell? ⟨gb355, 3, none⟩ = some (.int .i64 0) := (blk_cell BK355.out 3).trans rfl; have hfz29_0 := blk_frozen BK355.out 0; have hfz29_1 := blk_frozen BK355.out 1; have hfz29_2 := blk_frozen BK355.out 2; have hfz29_3 := blk_frozen BK355.out 3; obtain ⟨Ao30, co30, eo30⟩ := Kd.R_slice HO_6.out; subst eo30; have p356 : 0 ≤ (((rd_T39 l1 x23_1).f0) : Int) := of_decide_eq_true (by first | (with_reducible assumption) | assumption); have q356 : ((rd_T39 l1 x23_1).f0) < (t348.length : Int) := of_decide_eq_true (by first | (with_reducible assumption) | assumption); obtain ⟨ad356, e356, hx356_0⟩ := Kd.at_int (Kd.R_reads' HO_6.out).2.2 ((rd_T39 l1 x23_1).f0) p356 q356; cases e356; have hn356_0 : ad356.block ≠ gb355 := Kd.own_blk (Kd.R_ne HO_6.out BK355.out (by decide)); have hn356_1 : ad356.block ≠ gb355 := Kd.own_blk (Kd.R_ne HO_6.out BK355.out (by decide)); have hn356_2 : ad356.block ≠ gb355 := Kd.own_blk (Kd.R_ne HO_6.out BK355.out (by decide)); have hn356_3 : ad356.block ≠ gb355 := Kd.own_blk (Kd.R_ne HO_6.out BK355.out (by decide)); replace hx356_0 := (cell_far (p := ⟨gb355, 0, none⟩) (by first | (rw [add_block]; exact hn356_0) | (show (Addr.add _ _).block ≠ _; rw [add_block]; exact hn356_0) | exact hn356_0) (.int .i64 ((rd_T39 l1 x23_1).f0))).trans hx356_0; replace hx356_0 := (cell_far (p := ⟨gb355, 1, none⟩) (by first | (rw [add_block]; exact hn356_1) | (show (Addr.add _ _).block ≠ _; rw [add_block]; exact hn356_1) | exact hn356_1) (.int .i64 ((rd_T39 l1 x23_1).f1))).trans hx356_0; replace hx356_0 := (cell_far (p := ⟨gb355, 2, none⟩) (by first | (rw [add_block]; exact hn356_2) | (show (Addr.add _ _).block ≠ _; rw [add_block]; exact hn356_2) | exact hn356_2) (.int .i64 ((rd_T39 l1 x23_1).f2))).trans hx356_0; replace hx356_0 := (cell_far (p := ⟨gb355, 3, none⟩) (by first | (rw [add_block]; exact hn356_3) | (show (Addr.add _ _).block ≠ _; rw [add_block]; exact hn356_3) | exact hn356_3) (.int .i64 ((rd_T39 l1 x23_1).f3))).trans hx356_0; (try have hy356_0 := fun (n_ : Nat) => (show ((((((w28.drewN n_).setCell ⟨gb355, 0, none⟩ (.int .i64 ((rd_T39 l1 x23_1).f0))).setCell ⟨gb355, 1, none⟩ (.int .i64 ((rd_T39 l1 x23_1).f1))).setCell ⟨gb355, 2, none⟩ (.int .i64 ((rd_T39 l1 x23_1).f2))).setCell ⟨gb355, 3, none⟩ (.int .i64 ((rd_T39 l1 x23_1).f3)))).cell? _ = some _ from hx356_0)); clear hn356_0; clear hn356_1; clear hn356_2; clear hn356_3; replace p356 := eq_true p356; replace q356 := eq_true q356; have p360 : 0 ≤ (((rd_T39 l1 x23_1).f0) : Int) := of_decide_eq_true (by first | (with_reducible assumption) | assumption); have q360 : ((rd_T39 l1 x23_1).f0) < (t348.length : Int) := of_decide_eq_true (by first | (with_reducible assumption) | assumption); obtain ⟨ad360, e360, hx360_0⟩ := Kd.at_int (Kd.R_reads' HO_6.out).2.2 ((rd_T39 l1 x23_1).f0) p360 q360; obtain rfl : ad356 = ad360 := (by injection e360); have hn360_0 : ad356.block ≠ gb355 := Kd.own_blk (Kd.R_ne HO_6.out BK355.out (by decide)); have hn360_1 : ad356.block ≠ gb355 := Kd.own_blk (Kd.R_ne HO_6.out BK355.out (by decide)); have hn360_2 : ad356.block ≠ gb355 := Kd.own_blk (Kd.R_ne HO_6.out BK355.out (by decide)); have hn360_3 : ad356.block ≠ gb355 := Kd.own_blk (Kd.R_ne HO_6.out BK355.out (by decide)); replace hx360_0 := (cell_far (p := ⟨gb355, 0, none⟩) (by first | (rw [add_block]; exact hn360_0) | (show (Addr.add _ _).block ≠ _; rw [add_block]; exact hn360_0) | exact hn360_0) (.int .i64 ((rd_T39 l1 x23_1).f0))).trans hx360_0; replace hx360_0 := (cell_far (p := ⟨gb355, 1, none⟩) (by first | (rw [add_block]; exact hn360_1) | (show (Addr.add _ _).block ≠ _; rw [add_block]; exact hn360_1) | exact hn360_1) (.int .i64 ((rd_T39 l1 x23_1).f1))).trans hx360_0; replace hx360_0 := (cell_far (p := ⟨gb355, 2, none⟩) (by first | (rw [add_block]; exact hn360_2) | (show (Addr.add _ _).block ≠ _; rw [add_block]; exact hn360_2) | exact hn360_2) (.int .i64 ((rd_T39 l1 x23_1).f2))).trans hx360_0; replace hx360_0 := (cell_far (p := ⟨gb355, 3, none⟩) (by first | (rw [add_block]; exact hn360_3) | (show (Addr.add _ _).block ≠ _; rw [add_block]; exact hn360_3) | exact hn360_3) (.int .i64 ((rd_T39 l1 x23_1).f3))).trans hx360_0; (try have hy360_0 := fun (n_ : Nat) => (show ((((((w28.drewN n_).setCell ⟨gb355, 0, none⟩ (.int .i64 ((rd_T39 l1 x23_1).f0))).setCell ⟨gb355, 1, none⟩ (.int .i64 ((rd_T39 l1 x23_1).f1))).setCell ⟨gb355, 2, none⟩ (.int .i64 ((rd_T39 l1 x23_1).f2))).setCell ⟨gb355, 3, none⟩ (.int .i64 ((rd_T39 l1 x23_1).f3)))).cell? _ = some _ from hx360_0)); clear hn360_0; clear hn360_1; clear hn360_2; clear hn360_3; replace p360 := eq_true p360; replace q360 := eq_true q360; obtain ⟨Ao31, co31, eo31⟩ := Kd.R_slice HO_7.out; subst eo31; have p361 : 0 ≤ (((rd_T39 l1 x23_1).f1) : Int) := of_decide_eq_true (by first | (with_reducible assumption) | assumption); have q361 : ((rd_T39 l1 x23_1).f1) < (t349.length : Int) := of_decide_eq_true (by first | (with_reducible assumption) | assumption); obtain ⟨ad361, e361, hx361_0⟩ := Kd.at_int (Kd.R_reads' HO_7.out).2.2 ((rd_T39 l1 x23_1).f1) p361 q361; cases e361; have hn361_0 : ad361.block ≠ gb355 := Kd.own_blk (Kd.R_ne HO_7.out BK355.out (by decide)); have hn361_1 : ad361.block ≠ gb355 := Kd.own_blk (Kd.R_ne HO_7.out BK355.out (by decide)); have hn361_2 : ad361.block ≠ gb355 := Kd.own_blk (Kd.R_ne HO_7.out BK355.out (by decide)); have hn361_3 : ad361.block ≠ gb355 := Kd.own_blk (Kd.R_ne HO_7.out BK355.out (by decide)); replace hx361_0 := (cell_far (p := ⟨gb355, 0, none⟩) (by first | (rw [add_block]; exact hn361_0) | (show (Addr.add _ _).block ≠ _; rw [add_block]; exact hn361_0) | exact hn361_0) (.int .i64 ((rd_T39 l1 x23_1).f0))).trans hx361_0; replace hx361_0 := (cell_far (p := ⟨gb355, 1, none⟩) (by first | (rw [add_block]; exact hn361_1) | (show (Addr.add _ _).block ≠ _; rw [add_block]; exact hn361_1) | exact hn361_1) (.int .i64 ((rd_T39 l1 x23_1).f1))).trans hx361_0; replace hx361_0 := (cell_far (p := ⟨gb355, 2, none⟩) (by first | (rw [add_block]; exact hn361_2) | (show (Addr.add _ _).block ≠ _; rw [add_block]; exact hn361_2) | exact hn361_2) (.int .i64 ((rd_T39 l1 x23_1).f2))).trans hx361_0; replace hx361_0 := (cell_far (p := ⟨gb355, 3, none⟩) (by first | (rw [add_block]; exact hn361_3) | (show (Addr.add _ _).block ≠ _; rw [add_block]; exact hn361_3) | exact hn361_3) (.int .i64 ((rd_T39 l1 x23_1).f3))).trans hx361_0; (try have hy361_0 := fun (n_ : Nat) => (show ((((((w28.drewN n_).setCell ⟨gb355, 0, none⟩ (.int .i64 ((rd_T39 l1 x23_1).f0))).setCell ⟨gb355, 1, none⟩ (.int .i64 ((rd_T39 l1 x23_1).f1))).setCell ⟨gb355, 2, none⟩ (.int .i64 ((rd_T39 l1 x23_1).f2))).setCell ⟨gb355, 3, none⟩ (.int .i64 ((rd_T39 l1 x23_1).f3)))).cell? _ = some _ from hx361_0)); clear hn361_0; clear hn361_1; clear hn361_2; clear hn361_3; replace p361 := eq_true p361; replace q361 := eq_true q361)); try go_wp2_with (first | ((with_reducible refine gate_dst (N := 10) rfl ?_); refine box_event ?hg (N := 10) ?hd (cs := #[.int .i64 0, .int .i64 0, .int .i64 0, .int .i64 0]) (t := 39) ?hr ?_; (case hd => rfl); (case hg => rfl); (case hr => first | (go_simp; done) | (go_simp; rfl)); intro gb355 hg w28 hbox hb; have n0_ := Aside0.mk (Kd.R_below (by (with_reducible repeat (first | apply Kd.R_alloc | apply Kd.R_drewN | apply Kd.R_drew)); exact HO_6.out) hb); have n1_ := Aside0.mk (Kd.R_below (by (with_reducible repeat (first | apply Kd.R_alloc | apply Kd.R_drewN | apply Kd.R_drew)); exact HO_7.out) hb); have n2_ := Aside0.mk (Kd.R_below (by (with_reducible repeat (first | apply Kd.R_alloc | apply Kd.R_drewN | apply Kd.R_drew)); exact HO_8.out) hb); have n3_ := Aside0.mk (below_step (by repeat (first | (with_reducible first | exact HB.out | apply below_alloc | apply pw_below_drewN | apply below_drew1) | exact HB.out)) hb); have n4_ := Aside0.mk (hbox); have n5_ := Aside0.mk ((by rw [hg]; exact (below_size (by repeat (first | (with_reducible first | exact HB.out | apply below_alloc | apply pw_below_drewN | apply below_drew1) | exact HB.out))) : w.heap.size ≤ gb355)); have n6_ := Aside0.mk ((by rw [hg]; exact (below_size (by repeat (first | (with_reducible first | exact HB.out | apply below_alloc | apply pw_below_drewN | apply below_drew1) | exact HB.out))) : w.heap.size ≤ gb355)); clear HO_6; clear HO_7; clear HO_8; clear HB; have HO_6 := n0_; have HO_7 := n1_; have HO_8 := n2_; have HB := n3_; have BK355 := n4_; have GW355 := n5_; have GE355 := n6_; clear n0_ n1_ n2_ n3_ n4_ n5_ n6_; clear hb hbox hg; have hcz29_0 : w28.cell? ⟨gb355, 0, none⟩ = some (.int .i64 0) := (blk_cell BK355.out 0).trans rfl; have hcz29_1 : w28.cell? ⟨gb355, 1, none⟩ = some (.int .i64 0) := (blk_cell BK355.out 1).trans rfl; have hcz29_2 : w28.cell? ⟨gb355, 2, none⟩ = some (.int .i64 0) := (blk_cell BK355.out 2).trans rfl; have hcz29_3 : w28.cell? ⟨gb355, 3, none⟩ = some (.int .i64 0) := (blk_cell BK355.out 3).trans rfl; have hfz29_0 := blk_frozen BK355.out 0; have hfz29_1 := blk_frozen BK355.out 1; have hfz29_2 := blk_frozen BK355.out 2; have hfz29_3 := blk_frozen BK355.out 3; obtain ⟨Ao30, co30, eo30⟩ := Kd.R_slice HO_6.out; subst eo30; have p356 : 0 ≤ (((rd_T39 l1 x23_1).f0) : Int) := of_decide_eq_true (by first | (with_reducible assumption) | assumption); have q356 : ((rd_T39 l1 x23_1).f0) < (t348.length : Int) := of_decide_eq_true (by first | (with_reducible assumption) | assumption); obtain ⟨ad356, e356, hx356_0⟩ := Kd.at_int (Kd.R_reads' HO_6.out).2.2 ((rd_T39 l1 x23_1).f0) p356 q356; cases e356; have hn356_0 : ad356.block ≠ gb355 := Kd.own_blk (Kd.R_ne HO_6.out BK355.out (by decide)); have hn356_1 : ad356.block ≠ gb355 := Kd.own_blk (Kd.R_ne HO_6.out BK355.out (by decide)); have hn356_2 : ad356.block ≠ gb355 := Kd.own_blk (Kd.R_ne HO_6.out BK355.out (by decide)); have hn356_3 : ad356.block ≠ gb355 := Kd.own_blk (Kd.R_ne HO_6.out BK355.out (by decide)); replace hx356_0 := (cell_far (p := ⟨gb355, 0, none⟩) (by first | (rw [add_block]; exact hn356_0) | (show (Addr.add _ _).block ≠ _; rw [add_block]; exact hn356_0) | exact hn356_0) (.int .i64 ((rd_T39 l1 x23_1).f0))).trans hx356_0; replace hx356_0 := (cell_far (p := ⟨gb355, 1, none⟩) (by first | (rw [add_block]; exact hn356_1) | (show (Addr.add _ _).block ≠ _; rw [add_block]; exact hn356_1) | exact hn356_1) (.int .i64 ((rd_T39 l1 x23_1).f1))).trans hx356_0; replace hx356_0 := (cell_far (p := ⟨gb355, 2, none⟩) (by first | (rw [add_block]; exact hn356_2) | (show (Addr.add _ _).block ≠ _; rw [add_block]; exact hn356_2) | exact hn356_2) (.int .i64 ((rd_T39 l1 x23_1).f2))).trans hx356_0; replace hx356_0 := (cell_far (p := ⟨gb355, 3, none⟩) (by first | (rw [add_block]; exact hn356_3) | (show (Addr.add _ _).block ≠ _; rw [add_block]; exact hn356_3) | exact hn356_3) (.int .i64 ((rd_T39 l1 x23_1).f3))).trans hx356_0; (try have hy356_0 := fun (n_ : Nat) => (show ((((((w28.drewN n_).setCell ⟨gb355, 0, none⟩ (.int .i64 ((rd_T39 l1 x23_1).f0))).setCell ⟨gb355, 1, none⟩ (.int .i64 ((rd_T39 l1 x23_1).f1))).setCell ⟨gb355, 2, none⟩ (.int .i64 ((rd_T39 l1 x23_1).f2))).setCell ⟨gb355, 3, none⟩ (.int .i64 ((rd_T39 l1 x23_1).f3)))).cell? _ = some _ from hx356_0)); clear hn356_0; clear hn356_1; clear hn356_2; clear hn356_3; replace p356 := eq_true p356; replace q356 := eq_true q356; have p360 : 0 ≤ (((rd_T39 l1 x23_1).f0) : Int) := of_decide_eq_true (by first | (with_reducible assumption) | assumption); have q360 : ((rd_T39 l1 x23_1).f0) < (t348.length : Int) := of_decide_eq_true (by first | (with_reducible assumption) | assumption); obtain ⟨ad360, e360, hx360_0⟩ := Kd.at_int (Kd.R_reads' HO_6.out).2.2 ((rd_T39 l1 x23_1).f0) p360 q360; obtain rfl : ad356 = ad360 := (by injection e360); have hn360_0 : ad356.block ≠ gb355 := Kd.own_blk (Kd.R_ne HO_6.out BK355.out (by decide)); have hn360_1 : ad356.block ≠ gb355 := Kd.own_blk (Kd.R_ne HO_6.out BK355.out (by decide)); have hn360_2 : ad356.block ≠ gb355 := Kd.own_blk (Kd.R_ne HO_6.out BK355.out (by decide)); have hn360_3 : ad356.block ≠ gb355 := Kd.own_blk (Kd.R_ne HO_6.out BK355.out (by decide)); replace hx360_0 := (cell_far (p := ⟨gb355, 0, none⟩) (by first | (rw [add_block]; exact hn360_0) | (show (Addr.add _ _).block ≠ _; rw [add_block]; exact hn360_0) | exact hn360_0) (.int .i64 ((rd_T39 l1 x23_1).f0))).trans hx360_0; replace hx360_0 := (cell_far (p := ⟨gb355, 1, none⟩) (by first | (rw [add_block]; exact hn360_1) | (show (Addr.add _ _).block ≠ _; rw [add_block]; exact hn360_1) | exact hn360_1) (.int .i64 ((rd_T39 l1 x23_1).f1))).trans hx360_0; replace hx360_0 := (cell_far (p := ⟨gb355, 2, none⟩) (by first | (rw [add_block]; exact hn360_2) | (show (Addr.add _ _).block ≠ _; rw [add_block]; exact hn360_2) | exact hn360_2) (.int .i64 ((rd_T39 l1 x23_1).f2))).trans hx360_0; replace hx360_0 := (cell_far (p := ⟨gb355, 3, none⟩) (by first | (rw [add_block]; exact hn360_3) | (show (Addr.add _ _).block ≠ _; rw [add_block]; exact hn360_3) | exact hn360_3) (.int .i64 ((rd_T39 l1 x23_1).f3))).trans hx360_0; (try have hy360_0 := fun (n_ : Nat) => (show ((((((w28.drewN n_).setCell ⟨gb355, 0, none⟩ (.int .i64 ((rd_T39 l1 x23_1).f0))).setCell ⟨gb355, 1, none⟩ (.int .i64 ((rd_T39 l1 x23_1).f1))).setCell ⟨gb355, 2, none⟩ (.int .i64 ((rd_T39 l1 x23_1).f2))).setCell ⟨gb355, 3, none⟩ (.int .i64 ((rd_T39 l1 x23_1).f3)))).cell? _ = some _ from hx360_0)); clear hn360_0; clear hn360_1; clear hn360_2; clear hn360_3; replace p360 := eq_true p360; replace q360 := eq_true q360; obtain ⟨Ao31, co31, eo31⟩ := Kd.R_slice HO_7.out; subst eo31; have p361 : 0 ≤ (((rd_T39 l1 x23_1).f1) : Int) := of_decide_eq_true (by first | (with_reducible assumption) | assumption); have q361 : ((rd_T39 l1 x23_1).f1) < (t349.length : Int) := of_decide_eq_true (by first | (with_reducible assumption) | assumption); obtain ⟨ad361, e361, hx361_0⟩ := Kd.at_int (Kd.R_reads' HO_7.out).2.2 ((rd_T39 l1 x23_1).f1) p361 q361; cases e361; have hn361_0 : ad361.block ≠ gb355 := Kd.own_blk (Kd.R_ne HO_7.out BK355.out (by decide)); have hn361_1 : ad361.block ≠ gb355 := Kd.own_blk (Kd.R_ne HO_7.out BK355.out (by decide)); have hn361_2 : ad361.block ≠ gb355 := Kd.own_blk (Kd.R_ne HO_7.out BK355.out (by decide)); have hn361_3 : ad361.block ≠ gb355 := Kd.own_blk (Kd.R_ne HO_7.out BK355.out (by decide)); replace hx361_0 := (cell_far (p := ⟨gb355, 0, none⟩) (by first | (rw [add_block]; exact hn361_0) | (show (Addr.add _ _).block ≠ _; rw [add_block]; exact hn361_0) | exact hn361_0) (.int .i64 ((rd_T39 l1 x23_1).f0))).trans hx361_0; replace hx361_0 := (cell_far (p := ⟨gb355, 1, none⟩) (by first | (rw [add_block]; exact hn361_1) | (show (Addr.add _ _).block ≠ _; rw [add_block]; exact hn361_1) | exact hn361_1) (.int .i64 ((rd_T39 l1 x23_1).f1))).trans hx361_0; replace hx361_0 := (cell_far (p := ⟨gb355, 2, none⟩) (by first | (rw [add_block]; exact hn361_2) | (show (Addr.add _ _).block ≠ _; rw [add_block]; exact hn361_2) | exact hn361_2) (.int .i64 ((rd_T39 l1 x23_1).f2))).trans hx361_0; replace hx361_0 := (cell_far (p := ⟨gb355, 3, none⟩) (by first | (rw [add_block]; exact hn361_3) | (show (Addr.add _ _).block ≠ _; rw [add_block]; exact hn361_3) | exact hn361_3) (.int .i64 ((rd_T39 l1 x23_1).f3))).trans hx361_0; (try have hy361_0 := fun (n_ : Nat) => (show ((((((w28.drewN n_).setCell ⟨gb355, 0, none⟩ (.int .i64 ((rd_T39 l1 x23_1).f0))).setCell ⟨gb355, 1, none⟩ (.int .i64 ((rd_T39 l1 x23_1).f1))).setCell ⟨gb355, 2, none⟩ (.int .i64 ((rd_T39 l1 x23_1).f2))).setCell ⟨gb355, 3, none⟩ (.int .i64 ((rd_T39 l1 x23_1).f3)))).cell? _ = some _ from hx361_0)); clear hn361_0; clear hn361_1; clear hn361_2; clear hn361_3; replace p361 := eq_true p361; replace q361 := eq_true q361)))
             go_roundg k1
             case measure => have := HK1.out; omega
             case rel => exact ⟨(x8_1), (wrap64 (x23_1 + 1)), (by first | rfl | (simp; done) | (simp [*]; done)), H', ⟨by have := HK1.out; omega⟩, ⟨by (with_reducible repeat (first | apply Kd.R_alloc | apply Kd.R_drewN | apply Kd.R_drew)); exact Kd.R_mono (Kd.R_far (p := ⟨gb355, 3, none⟩) (Kd.R_far (p := ⟨gb355, 2, none⟩) (Kd.R_far (p := ⟨gb355, 1, none⟩) (Kd.R_far (p := ⟨gb355, 0, none⟩) (Kd.R_types HO_6.out BK355.out (by decide)) (fun _ hk => hk.2) (.int .i64 ((rd_T39 l1 x23_1).f0))) (fun _ hk => hk.2) (.int .i64 ((rd_T39 l1 x23_1).f1))) (fun _ hk => hk.2) (.int .i64 ((rd_T39 l1 x23_1).f2))) (fun _ hk => hk.2) (.int .i64 ((rd_T39 l1 x23_1).f3))) (fun _ hk => ⟨hk.1.1, hk.1.2⟩)⟩, ⟨by (with_reducible repeat (first | apply Kd.R_alloc | apply Kd.R_drewN | apply Kd.R_drew)); exact Kd.R_mono (Kd.R_far (p := ⟨gb355, 3, none⟩) (Kd.R_far (p := ⟨gb355, 2, none⟩) (Kd.R_far (p := ⟨gb355, 1, none⟩) (Kd.R_far (p := ⟨gb355, 0, none⟩) (Kd.R_types HO_7.out BK355.out (by decide)) (fun _ hk => hk.2) (.int .i64 ((rd_T39 l1 x23_1).f0))) (fun _ hk => hk.2) (.int .i64 ((rd_T39 l1 x23_1).f1))) (fun _ hk => hk.2) (.int .i64 ((rd_T39 l1 x23_1).f2))) (fun _ hk => hk.2) (.int .i64 ((rd_T39 l1 x23_1).f3))) (fun _ hk => ⟨hk.1.1, hk.1.2⟩)⟩, ⟨by (with_reducible repeat (first | apply Kd.R_alloc | apply Kd.R_drewN | apply Kd.R_drew)); exact Kd.R_mono (Kd.R_far (p := ⟨gb355, 3, none⟩) (Kd.R_far (p := ⟨gb355, 2, none⟩) (Kd.R_far (p := ⟨gb355, 1, none⟩) (Kd.R_far (p := ⟨gb355, 0, none⟩) (Kd.R_types HO_8.out BK355.out (by decide)) (fun _ hk => hk.2) (.int .i64 ((rd_T39 l1 x23_1).f0))) (fun _ hk => hk.2) (.int .i64 ((rd_T39 l1 x23_1).f1))) (fun _ hk => hk.2) (.int .i64 ((rd_T39 l1 x23_1).f2))) (fun _ hk => hk.2) (.int .i64 ((rd_T39 l1 x23_1).f3))) (fun _ hk => ⟨hk.1.1, hk.1.2⟩)⟩, ⟨by repeat (first | (with_reducible first | exact HB.out | apply below_alloc | apply pw_below_drewN | apply below_drew1 | refine below_set ?_ GE355.out) | exact HB.out)⟩⟩
           ·rw [if_neg c20] at H
            exact absurd H (by simp)
          ·rw [if_neg c19] at H
           exact absurd H (by simp)
        ·rw [if_neg c12] at H
         exact absurd H (by simp)
       ·rw [if_neg c11] at H
        exact absurd H (by simp)
      ·rw [if_neg c10] at H
       exact absurd H (by simp)
     ·rw [if_neg c9] at H
      exact absurd H (by simp)
    ·rw [if_neg c8] at H
     have c8b0 : decide (x23_1 < (l1.length : Int)) = false := decide_eq_false c8
     clear c8
     simp only [Option.some.injEq, Prod.mk.injEq] at H
     obtain ⟨rfl, rfl⟩ := H
     go_wp2
     repeat (go_quiet (fail); try go_wp2)
     go_ret2
     exact ⟨_, by first | rfl | (simp [errW_none, errW_some] <;> rfl) | (simp [*, errW_none, errW_some] <;> rfl), by (with_reducible repeat (first | apply Kd.R_alloc | apply Kd.R_drewN | apply Kd.R_drew)); exact Kd.R_mono HO_8.out (fun _ hk => trivial), by repeat (first | (with_reducible first | exact HB.out | apply below_alloc | apply pw_below_drewN | apply below_drew1) | exact HB.out)⟩
 ·replace c4 := Bool.eq_false_iff.mpr c4
  subst c4
  have H1 : (some (([] : List Int), 1)) = some (r1, r2) := by rw [if_neg (show ¬ (false = true) by decide)] at H; exact H
  clear H
  have H := H1
  clear H1
  simp only [Option.some.injEq, Prod.mk.injEq] at H
  obtain ⟨rfl, rfl⟩ := H
  go_enter Try.func10, Try.ntmps10
  go_wp2_with (first | (go_at_call 20; (with_reducible refine (impl_AreFuses.calls k a0 _ _ l1 false _ ?side1 ?side2 A3.out).mono ?_); (case side1 => repeat (first | exact HR1.out | (with_reducible refine Kd.C_alloc ?_ _) | (with_reducible refine Kd.C_drewN ?_ _) | (with_reducible refine Kd.C_drew ?_))); (case side2 => exact HC1.out); rintro e w32 ⟨rfl, hb⟩; have n0_ := Aside0.mk (below_step (by repeat (first | (with_reducible first | exact HB.out | apply below_alloc | apply pw_below_drewN | apply below_drew1) | exact HB.out)) hb); clear HB; have HB := n0_; clear n0_; (try clear hb); (try clear hb2); (try clear hk); (try clear hi)))
  repeat (go_quiet (first | (go_at_call 20; (with_reducible refine (impl_AreFuses.calls k a0 _ _ l1 false _ ?side1 ?side2 A3.out).mono ?_); (case side1 => repeat (first | exact HR1.out | (with_reducible refine Kd.C_alloc ?_ _) | (with_reducible refine Kd.C_drewN ?_ _) | (with_reducible refine Kd.C_drew ?_))); (case side2 => exact HC1.out); rintro e w32 ⟨rfl, hb⟩; have n0_ := Aside0.mk (below_step (by repeat (first | (with_reducible first | exact HB.out | apply below_alloc | apply pw_below_drewN | apply below_drew1) | exact HB.out)) hb); clear HB; have HB := n0_; clear n0_; (try clear hb); (try clear hb2); (try clear hk); (try clear hi))); try go_wp2_with (first | (go_at_call 20; (with_reducible refine (impl_AreFuses.calls k a0 _ _ l1 false _ ?side1 ?side2 A3.out).mono ?_); (case side1 => repeat (first | exact HR1.out | (with_reducible refine Kd.C_alloc ?_ _) | (with_reducible refine Kd.C_drewN ?_ _) | (with_reducible refine Kd.C_drew ?_))); (case side2 => exact HC1.out); rintro e w32 ⟨rfl, hb⟩; have n0_ := Aside0.mk (below_step (by repeat (first | (with_reducible first | exact HB.out | apply below_alloc | apply pw_below_drewN | apply below_drew1) | exact HB.out)) hb); clear HB; have HB := n0_; clear n0_; (try clear hb); (try clear hb2); (try clear hk); (try clear hi))))
  go_ret2
  exact ⟨_, by first | rfl | (simp [errW_none, errW_some] <;> rfl) | (simp [*, errW_none, errW_some] <;> rfl), by first | exact Kd.R_nil _ _ _ _ _ | exact Kd.N_nil _ _ _ _ _ | exact Kd.V_nil _ _ _ _ _ | exact Kd.Q_nil _ _ _ _ _ | exact Kd.S_nil _ _ _ _ _, by repeat (first | (with_reducible first | exact HB.out | apply below_alloc | apply pw_below_drewN | apply below_drew1) | exact HB.out)⟩
end Go.Proofs.Ytlnfjhahnacmiaa.F
