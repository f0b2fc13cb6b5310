import Derived.Test.YtlnfjhahnacmiaaJFnFuses5
import Derived.Below
import Derived.Deep.Draws
import Derived.Deep.AppendLies
import Derived.Maps.AppendAt
import Derived.OwnWalk
import Derived.Laws.BytesArg
import Derived.Laws.MakeOwn
import Derived.Laws.OwnMore
import Derived.Tactics
import Derived.Lib.ConvBytes
import Derived.Laws.Slices
import Derived.WalkKit
import Derived.KernelRfl
import Derived.RowKit3
import Derived.Deep.LoopGhost
import Derived.Deep.QuietTactic
import Derived.BigQuiet
import Derived.WideLaws
import Derived.Deep.DeepCutAuto
import Derived.Deep.CutBlock
import Derived.Deep.RegionHeld3
import Derived.Lib.AppendStr
import Derived.ArgAppend
import Derived.Laws.IdiomCopy
import Derived.RowKit
import Derived.OrdersHeld
import Derived.Laws.BitsLemmas
import Derived.Laws.StructEq
import Derived.Test.YtlnfjhahnacmiaaProg
namespace Go.Proofs.Ytlnfjhahnacmiaa.F
open Go.RowKit Go.Proofs.YtlnfjhahnacmiaaW.PrintWords Go.Proofs.YtlnfjhahnacmiaaW.PrintLast Go.Proofs.YtlnfjhahnacmiaaW.PrintMore
attribute [local go_sem] max2_int min2_int max_two min_two max_three min_three max_four min_four   -- for this text's walks alone
set_option linter.unusedVariables false
set_option linter.unusedSimpArgs false
mutual
def impl_FastestWay.l0 : Nat → List (S39) → Int → List Int → Int → Option (List Int × Int)
 | 0, _, _, _, _ => none
 | k + 1, x1, x2, x9, x10 => if x10 ≥ 0 then (if 0 ≤ x10 then (if x10 < (x9.length : Int) then ((some (x9.set (x10 : Int).toNat (-1) : List Int)).bind fun y459 => (if x10 = x2 then (impl_FastestWay.l0 k x1 x2 (y459.set (x10 : Int).toNat 0) (wrap64 (x10 - 1))) else (impl_FastestWay.l1 k x1 x2 y459 x10 x1 (x1.length : Int) 0))) else (none)) else (none)) else (impl_FastestWay.l2 k x1 x2 x9 ([] : List Int) 0)
def impl_FastestWay.l1 : Nat → List (S39) → Int → List Int → Int → List (S39) → Int → Int → Option (List Int × Int)
 | 0, _, _, _, _, _, _, _ => none
 | k + 1, x1, x2, x9, x10, x43, x44, x45 => if x45 < x44 then (if 0 ≤ x45 then (if x45 < (x43.length : Int) then (if ((rd_T39 x43 x45).f0) = x10 then (if 0 ≤ ((rd_T39 x43 x45).f1) then (if ((rd_T39 x43 x45).f1) < (x9.length : Int) then (impl_FastestWay.j2 k x1 x2 x9 x10 x43 x44 x45 (decide ((rd x9 ((rd_T39 x43 x45).f1)) ≥ 0)) ((rd_T39 x43 x45).f0) ((rd_T39 x43 x45).f1) ((rd_T39 x43 x45).f2) ((rd_T39 x43 x45).f3)) else (none)) else (none)) else (impl_FastestWay.j2 k x1 x2 x9 x10 x43 x44 x45 false ((rd_T39 x43 x45).f0) ((rd_T39 x43 x45).f1) ((rd_T39 x43 x45).f2) ((rd_T39 x43 x45).f3))) else (none)) else (none)) else (impl_FastestWay.l0 k x1 x2 x9 (wrap64 (x10 - 1)))
def impl_FastestWay.j2 : Nat → List (S39) → Int → List Int → Int → List (S39) → Int → Int → Bool → Int → Int → Int → Int → Option (List Int × Int)
 | 0, _, _, _, _, _, _, _, _, _, _, _, _ => none
 | k + 1, x1, x2, x9, x10, x43, x44, x45, x60, x463000, x463001, x463002, x463003 => if x60 = true then (if 0 ≤ x463001 then (if x463001 < (x9.length : Int) then (if 0 ≤ x10 then (if x10 < (x9.length : Int) then (if (rd x9 x10) < 0 then (impl_FastestWay.l1 k x1 x2 (x9.set (x10 : Int).toNat (wrap64 (x463002 + (rd x9 x463001)))) x10 x43 x44 (wrap64 (x45 + 1))) else (if (wrap64 (x463002 + (rd x9 x463001))) < (rd x9 x10) then (impl_FastestWay.l1 k x1 x2 (x9.set (x10 : Int).toNat (wrap64 (x463002 + (rd x9 x463001)))) x10 x43 x44 (wrap64 (x45 + 1))) else (impl_FastestWay.l1 k x1 x2 x9 x10 x43 x44 (wrap64 (x45 + 1))))) else (none)) else (none)) else (none)) else (none)) else (impl_FastestWay.l1 k x1 x2 x9 x10 x43 x44 (wrap64 (x45 + 1)))
def impl_FastestWay.l2 : Nat → List (S39) → Int → List Int → List Int → Int → Option (List Int × Int)
 | 0, _, _, _, _, _ => none
 | k + 1, x1, x2, x9, x14, x15 => if x15 = x2 then (some (x14, 0)) else (impl_FastestWay.l3 k x1 x2 x9 x14 x15 x1 (x1.length : Int) 0)
def impl_FastestWay.l3 : Nat → List (S39) → Int → List Int → List Int → Int → List (S39) → Int → Int → Option (List Int × Int)
 | 0, _, _, _, _, _, _, _, _ => none
 | k + 1, x1, x2, x9, x14, x15, x90, x91, x92 => if x92 < x91 then (if 0 ≤ x92 then (if x92 < (x90.length : Int) then (if ((rd_T39 x90 x92).f0) = x15 then (if 0 ≤ ((rd_T39 x90 x92).f1) then (if ((rd_T39 x90 x92).f1) < (x9.length : Int) then (if (rd x9 ((rd_T39 x90 x92).f1)) ≥ 0 then (if 0 ≤ x15 then (if x15 < (x9.length : Int) then (if (wrap64 (((rd_T39 x90 x92).f2) + (rd x9 ((rd_T39 x90 x92).f1)))) = (rd x9 x15) then (if x14.length < 17592186044416 then (impl_FastestWay.l2 k x1 x2 x9 (x14 ++ [x92]) ((rd_T39 x90 x92).f1)) else (none)) else (impl_FastestWay.l3 k x1 x2 x9 x14 x15 x90 x91 (wrap64 (x92 + 1)))) else (none)) else (none)) else (impl_FastestWay.l3 k x1 x2 x9 x14 x15 x90 x91 (wrap64 (x92 + 1)))) else (none)) else (none)) else (impl_FastestWay.l3 k x1 x2 x9 x14 x15 x90 x91 (wrap64 (x92 + 1)))) else (none)) else (none)) else (impl_FastestWay.l2 k x1 x2 x9 x14 x15)
end
def impl_FastestWay.f (k : Nat) (a0 : Int) (l1 : List (S39)) (a2 : Int) : Option (List Int × Int) := (impl_nodeAsked.f k a0 l1 (([a2] : List Int))).bind fun t455 => (if t455 = 0 then (if 0 ≤ a0 then (if (a0 : Int).toNat ≤ 35184372088832 then (impl_FastestWay.l0 k l1 a2 (List.replicate (a0 : Int).toNat 0) (wrap64 (a0 - 1))) else (none)) else (none)) else (some (([] : List Int), t455)))
theorem impl_FastestWay.mono_l : ∀ k, (∀ y0 y1 y2 y3, LeO (impl_FastestWay.l0 k y0 y1 y2 y3) (impl_FastestWay.l0 (k + 1) y0 y1 y2 y3)) ∧ (∀ y0 y1 y2 y3 y4 y5 y6, LeO (impl_FastestWay.l1 k y0 y1 y2 y3 y4 y5 y6) (impl_FastestWay.l1 (k + 1) y0 y1 y2 y3 y4 y5 y6)) ∧ (∀ y0 y1 y2 y3 y4 y5 y6 y7 y8 y9 y10 y11, LeO (impl_FastestWay.j2 k y0 y1 y2 y3 y4 y5 y6 y7 y8 y9 y10 y11) (impl_FastestWay.j2 (k + 1) y0 y1 y2 y3 y4 y5 y6 y7 y8 y9 y10 y11)) ∧ (∀ y0 y1 y2 y3 y4, LeO (impl_FastestWay.l2 k y0 y1 y2 y3 y4) (impl_FastestWay.l2 (k + 1) y0 y1 y2 y3 y4)) ∧ (∀ y0 y1 y2 y3 y4 y5 y6 y7, LeO (impl_FastestWay.l3 k y0 y1 y2 y3 y4 y5 y6 y7) (impl_FastestWay.l3 (k + 1) y0 y1 y2 y3 y4 y5 y6 y7))
 | 0 => ⟨fun _ _ _ _ r h => by simp [impl_FastestWay.l0] at h, fun _ _ _ _ _ _ _ r h => by simp [impl_FastestWay.l1] at h, fun _ _ _ _ _ _ _ _ _ _ _ _ r h => by simp [impl_FastestWay.j2] at h, fun _ _ _ _ _ r h => by simp [impl_FastestWay.l2] at h, fun _ _ _ _ _ _ _ _ r h => by simp [impl_FastestWay.l3] at h⟩
 | k + 1 => by
  obtain ⟨ih0, ih1, ih2, ih3, ih4⟩ := impl_FastestWay.mono_l k
  refine ⟨?_, ?_, ?_, ?_, ?_⟩
  ·intro y0 y1 y2 y3
   unfold impl_FastestWay.l0
   repeat' first
   | (with_reducible exact ih0 _ _ _ _)
   | (with_reducible exact ih1 _ _ _ _ _ _ _)
   | (with_reducible exact ih2 _ _ _ _ _ _ _ _ _ _ _ _)
   | (with_reducible exact ih3 _ _ _ _ _)
   | (with_reducible exact ih4 _ _ _ _ _ _ _ _)
   | (with_reducible exact impl_nodeAsked.mono _ _ _ _)
   | (with_reducible exact LeO.refl _)
   | (with_reducible exact LeO.none _)
   | (with_reducible refine LeO.ite ?_ ?_)
   | (with_reducible refine LeO.bind ?_ (fun _ => ?_))
   | exact ih0 _ _ _ _
   | exact ih1 _ _ _ _ _ _ _
   | exact ih2 _ _ _ _ _ _ _ _ _ _ _ _
   | exact ih3 _ _ _ _ _
   | exact ih4 _ _ _ _ _ _ _ _
   | exact impl_nodeAsked.mono _ _ _ _
   | exact LeO.none _
   | refine LeO.ite ?_ ?_
   | refine LeO.bind ?_ (fun _ => ?_)
  ·intro y0 y1 y2 y3 y4 y5 y6
   unfold impl_FastestWay.l1
   repeat' first
   | (with_reducible exact ih0 _ _ _ _)
   | (with_reducible exact ih1 _ _ _ _ _ _ _)
   | (with_reducible exact ih2 _ _ _ _ _ _ _ _ _ _ _ _)
   | (with_reducible exact ih3 _ _ _ _ _)
   | (with_reducible exact ih4 _ _ _ _ _ _ _ _)
   | (with_reducible exact impl_nodeAsked.mono _ _ _ _)
   | (with_reducible exact LeO.refl _)
   | (with_reducible exact LeO.none _)
   | (with_reducible refine LeO.ite ?_ ?_)
   | (with_reducible refine LeO.bind ?_ (fun _ => ?_))
   | exact ih0 _ _ _ _
   | exact ih1 _ _ _ _ _ _ _
   | exact ih2 _ _ _ _ _ _ _ _ _ _ _ _
   | exact ih3 _ _ _ _ _
   | exact ih4 _ _ _ _ _ _ _ _
   | exact impl_nodeAsked.mono _ _ _ _
   | exact LeO.none _
   | refine LeO.ite ?_ ?_
   | refine LeO.bind ?_ (fun _ => ?_)
  ·intro y0 y1 y2 y3 y4 y5 y6 y7 y8 y9 y10 y11
   unfold impl_FastestWay.j2
   repeat' first
   | (with_reducible exact ih0 _ _ _ _)
   | (with_reducible exact ih1 _ _ _ _ _ _ _)
   | (with_reducible exact ih2 _ _ _ _ _ _ _ _ _ _ _ _)
   | (with_reducible exact ih3 _ _ _ _ _)
   | (with_reducible exact ih4 _ _ _ _ _ _ _ _)
   | (with_reducible exact impl_nodeAsked.mono _ _ _ _)
   | (with_reducible exact LeO.refl _)
   | (with_reducible exact LeO.none _)
   | (with_reducible refine LeO.ite ?_ ?_)
   | (with_reducible refine LeO.bind ?_ (fun _ => ?_))
   | exact ih0 _ _ _ _
   | exact ih1 _ _ _ _ _ _ _
   | exact ih2 _ _ _ _ _ _ _ _ _ _ _ _
   | exact ih3 _ _ _ _ _
   | exact ih4 _ _ _ _ _ _ _ _
   | exact impl_nodeAsked.mono _ _ _ _
   | exact LeO.none _
   | refine LeO.ite ?_ ?_
   | refine LeO.bind ?_ (fun _ => ?_)
  ·intro y0 y1 y2 y3 y4
   unfold impl_FastestWay.l2
   repeat' first
   | (with_reducible exact ih0 _ _ _ _)
   | (with_reducible exact ih1 _ _ _ _ _ _ _)
   | (with_reducible exact ih2 _ _ _ _ _ _ _ _ _ _ _ _)
   | (with_reducible exact ih3 _ _ _ _ _)
   | (with_reducible exact ih4 _ _ _ _ _ _ _ _)
   | (with_reducible exact impl_nodeAsked.mono _ _ _ _)
   | (with_reducible exact LeO.refl _)
   | (with_reducible exact LeO.none _)
   | (with_reducible refine LeO.ite ?_ ?_)
   | (with_reducible refine LeO.bind ?_ (fun _ => ?_))
   | exact ih0 _ _ _ _
   | exact ih1 _ _ _ _ _ _ _
   | exact ih2 _ _ _ _ _ _ _ _ _ _ _ _
   | exact ih3 _ _ _ _ _
   | exact ih4 _ _ _ _ _ _ _ _
   | exact impl_nodeAsked.mono _ _ _ _
   | exact LeO.none _
   | refine LeO.ite ?_ ?_
   | refine LeO.bind ?_ (fun _ => ?_)
  ·intro y0 y1 y2 y3 y4 y5 y6 y7
   unfold impl_FastestWay.l3
   repeat' first
   | (with_reducible exact ih0 _ _ _ _)
   | (with_reducible exact ih1 _ _ _ _ _ _ _)
   | (with_reducible exact ih2 _ _ _ _ _ _ _ _ _ _ _ _)
   | (with_reducible exact ih3 _ _ _ _ _)
   | (with_reducible exact ih4 _ _ _ _ _ _ _ _)
   | (with_reducible exact impl_nodeAsked.mono _ _ _ _)
   | (with_reducible exact LeO.refl _)
   | (with_reducible exact LeO.none _)
   | (with_reducible refine LeO.ite ?_ ?_)
   | (with_reducible refine LeO.bind ?_ (fun _ => ?_))
   | exact ih0 _ _ _ _
   | exact ih1 _ _ _ _ _ _ _
   | exact ih2 _ _ _ _ _ _ _ _ _ _ _ _
   | exact ih3 _ _ _ _ _
   | exact ih4 _ _ _ _ _ _ _ _
   | exact impl_nodeAsked.mono _ _ _ _
   | exact LeO.none _
   | refine LeO.ite ?_ ?_
   | refine LeO.bind ?_ (fun _ => ?_)
theorem impl_FastestWay.mono : ∀ a0 a1 a2 k, LeO (impl_FastestWay.f k a0 a1 a2) (impl_FastestWay.f (k + 1) a0 a1 a2) := by
 intro a0 a1 a2 k
 obtain ⟨ih0, ih1, ih2, ih3, ih4⟩ := impl_FastestWay.mono_l k
 unfold impl_FastestWay.f
 repeat' first
   | (with_reducible exact ih0 _ _ _ _)
   | (with_reducible exact ih1 _ _ _ _ _ _ _)
   | (with_reducible exact ih2 _ _ _ _ _ _ _ _ _ _ _ _)
   | (with_reducible exact ih3 _ _ _ _ _)
   | (with_reducible exact ih4 _ _ _ _ _ _ _ _)
   | (with_reducible exact impl_nodeAsked.mono _ _ _ _)
   | (with_reducible exact LeO.refl _)
   | (with_reducible exact LeO.none _)
   | (with_reducible refine LeO.ite ?_ ?_)
   | (with_reducible refine LeO.bind ?_ (fun _ => ?_))
   | exact ih0 _ _ _ _
   | exact ih1 _ _ _ _ _ _ _
   | exact ih2 _ _ _ _ _ _ _ _ _ _ _ _
   | exact ih3 _ _ _ _ _
   | exact ih4 _ _ _ _ _ _ _ _
   | exact impl_nodeAsked.mono _ _ _ _
   | exact LeO.none _
   | refine LeO.ite ?_ ?_
   | refine LeO.bind ?_ (fun _ => ?_)
set_option maxHeartbeats 8000000 in
set_option maxRecDepth 100000 in
theorem impl_FastestWay.calls (k : Nat) (a0 : Int) (A1 : Option Addr) (c1 : Nat) (l1 : List (S39)) (a2 : Int) (r1 : List Int) (r2 : Int) (w : World) (hr1 : Kd.C k39 w A1 l1.length l1) (hc1 : l1.length ≤ c1) (h : impl_FastestWay.f k a0 l1 a2 = some (r1, r2)) :
  Calls Try.prog 18 #[.int .i64 a0, .slice A1 l1.length c1, .int .i64 a2] w fun e w' => ∃ v0_ : Value, e = .returned (.tuple #[v0_, .int .i64 r2]) ∧ Kd.R (Kd.int .i64) 2 w' w.heap.size (fun _ => True) v0_ r1 ∧ Below w.heap.size w w' := by
 have hu39 := Try.underlying39
 have HR1 := Aside0.mk hr1
 have HC1 := Aside0.mk hc1
 clear hr1 hc1
 have HB := Aside0.mk (Below.refl w.heap.size w)
 have H : ((impl_nodeAsked.f k a0 l1 (([a2] : List Int))).bind fun t455 => (if t455 = 0 then (if 0 ≤ a0 then (if (a0 : Int).toNat ≤ 35184372088832 then (impl_FastestWay.l0 k l1 a2 (List.replicate (a0 : Int).toNat 0) (wrap64 (a0 - 1))) else (none)) else (none)) else (some (([] : List Int), t455)))) = some (r1, r2) := h
 clear h
 obtain ⟨y452, hy452⟩ : ∃ y_ : List Int, y_ = (([a2] : List Int)) := ⟨_, rfl⟩
 replace H : ((impl_nodeAsked.f k a0 l1 y452).bind fun t455 => (if t455 = 0 then (if 0 ≤ a0 then (if (a0 : Int).toNat ≤ 35184372088832 then (impl_FastestWay.l0 k l1 a2 (List.replicate (a0 : Int).toNat 0) (wrap64 (a0 - 1))) else (none)) else (none)) else (some (([] : List Int), t455)))) = some (r1, r2) := by first | (rw [hy452]; with_reducible exact H) | (have H2_ := (Option.bind_some _ _).symm.trans H; rw [hy452]; with_reducible exact H2_) | (have H2_ := (Option.bind_some _ _).symm.trans H; with_reducible exact H2_) | with_reducible exact H | (rw [hy452]; exact H) | exact H
 have Ny452 := Aside0.mk hy452
 clear hy452
 replace H := Option.bind_eq_some_iff.mp H
 obtain ⟨t455, A40, H⟩ := H
 replace H : (if t455 = 0 then (if 0 ≤ a0 then (if (a0 : Int).toNat ≤ 35184372088832 then (impl_FastestWay.l0 k l1 a2 (List.replicate (a0 : Int).toNat 0) (wrap64 (a0 - 1))) else (none)) else (none)) else (some (([] : List Int), t455))) = some (r1, r2) := H
 have A4 := Aside0.mk A40
 clear A40
 by_cases c5 : t455 = 0
 ·rw [if_pos c5] at H
  have c5b0 : (t455 == 0) = true := beq_iff_eq.mpr c5
  have c5b1 : (t455 != 0) = false := bne_eq_false_iff_eq.mpr c5
  clear c5
  by_cases c6 : 0 ≤ a0
  ·rw [if_pos c6] at H
   have c6b0 := eq_true c6
   have c6b1 : decide (0 ≤ a0) = true := decide_eq_true c6
   clear c6
   by_cases c7 : (a0 : Int).toNat ≤ 35184372088832
   ·rw [if_pos c7] at H
    have c7b0 := eq_true c7
    have c7b1 : decide ((a0 : Int).toNat ≤ 35184372088832) = true := decide_eq_true c7
    clear c7
    obtain ⟨y456, hy456⟩ : ∃ y_ : List Int, y_ = (List.replicate (a0 : Int).toNat 0) := ⟨_, rfl⟩
    replace H : (impl_FastestWay.l0 k l1 a2 y456 (wrap64 (a0 - 1))) = some (r1, r2) := by first | (rw [hy456]; with_reducible exact H) | (have H2_ := (Option.bind_some _ _).symm.trans H; rw [hy456]; with_reducible exact H2_) | (have H2_ := (Option.bind_some _ _).symm.trans H; with_reducible exact H2_) | with_reducible exact H | (rw [hy456]; exact H) | exact H
    have Ny456 := Aside0.mk hy456
    clear hy456
    have H' := Aside0.mk H
    clear H
    go_enter Try.func18, Try.ntmps18
    go_wp2_with (first | ((with_reducible refine gate_dst (N := 21) rfl ?_); refine Kd.R_lit (Kd.int .i64) _ 2 ?hg (N := 21) ?hd (xs := ([a2] : List Int)) (inner := [.int .i64 a2]) (ok := fun _ => True) (okp := fun _ => True) ?hr ?hp (fun _ hk => hk) trivial (Below.refl _ _) (Nat.le_refl _) (by simp) ?_; (case hd => rfl); (case hg => rfl); (case hr => first | (go_simp; done) | (go_simp; rfl)); (case hp => exact (Reps.one (show Kd.M (Kd.int .i64) _ _ _ a2 [.int .i64 a2] from rfl) (Reps.none _ _))); intro v453 w8 ho9 hb hg_ hnew_; clear hg_ hnew_; (first | rw [← Ny452.out] at ho9 | (simp only [Int.reduceToNat] at ho9; rw [← Ny452.out] at ho9)); have n0_ := Aside0.mk (Kd.R_lower ho9 (below_size (by repeat (first | (with_reducible first | exact HB.out | apply below_alloc | apply pw_below_drewN | apply below_drew1) | exact HB.out)))); have n1_ := Aside0.mk (below_step (by repeat (first | (with_reducible first | exact HB.out | apply below_alloc | apply pw_below_drewN | apply below_drew1) | exact HB.out)) hb); clear HB; have HO454 := n0_; have HB := n1_; clear n0_ n1_; clear hb ho9; obtain ⟨Ao10, co10, eo10⟩ := Kd.R_slice HO454.out; subst eo10) | (go_at_call 34; (with_reducible refine (impl_nodeAsked.calls k a0 _ _ l1 _ _ y452 t455 _ ?side1 ?side2 ?side3 ?side4 A4.out).mono ?_); (case side1 => repeat (first | exact (Kd.C_below HR1.out HB.out) | (with_reducible refine Kd.C_alloc ?_ _) | (with_reducible refine Kd.C_drewN ?_ _) | (with_reducible refine Kd.C_drew ?_))); (case side2 => exact HC1.out); (case side3 => repeat (first | exact (Kd.R_reads' HO454.out).2.2 | (with_reducible refine Kd.C_alloc ?_ _) | (with_reducible refine Kd.C_drewN ?_ _) | (with_reducible refine Kd.C_drew ?_))); (case side4 => exact (Kd.R_reads' HO454.out).2.1); rintro e w11 ⟨rfl, hb⟩; have n0_ := Aside0.mk (Kd.R_below (by (with_reducible repeat (first | apply Kd.R_alloc | apply Kd.R_drewN | apply Kd.R_drew)); exact HO454.out) hb); have n1_ := Aside0.mk (below_step (by repeat (first | (with_reducible first | exact HB.out | apply below_alloc | apply pw_below_drewN | apply below_drew1) | exact HB.out)) hb); clear HO454; clear HB; have HO454 := n0_; have HB := n1_; clear n0_ n1_; (try clear hb); (try clear hb2); (try clear hk); (try clear hi)) | ((with_reducible refine gate_dst (N := 27) rfl ?_); refine Kd.R_make (Kd.int .i64) _ 2 rfl (N := 27) rfl 27 _ _ rfl a0 rfl rfl Try.underlying27 (.int .i64 0) 8 info2 rfl (by decide) (by omega) 0 (ok := fun _ => True) (okp := fun _ => True) rfl (fun _ hk => hk) trivial (of_decide_eq_true (by first | (with_reducible assumption) | assumption)) (Nat.le_trans (Nat.mul_le_mul_right _ (of_decide_eq_true (by first | (with_reducible assumption) | assumption) : a0.toNat ≤ 35184372088832)) (by omega)) (Below.refl _ _) (Nat.le_refl _) ?_; intro v457 w12 ho13 hb hg_ hnew_; clear hg_ hnew_; (first | rw [← Ny456.out] at ho13 | (simp only [Int.reduceToNat] at ho13; rw [← Ny456.out] at ho13)); have n0_ := Aside0.mk (Kd.R_elder' (by (with_reducible repeat (first | apply Kd.R_alloc | apply Kd.R_drewN | apply Kd.R_drew)); exact HO454.out) (Kd.R_base ho13) hb); have n1_ := Aside0.mk (Kd.R_lower (Kd.R_new' ho13 (Kd.R_lt (by (with_reducible repeat (first | apply Kd.R_alloc | apply Kd.R_drewN | apply Kd.R_drew)); exact HO454.out))) (below_size (by repeat (first | (with_reducible first | exact HB.out | apply below_alloc | apply pw_below_drewN | apply below_drew1) | exact HB.out)))); have n2_ := Aside0.mk (below_step (by repeat (first | (with_reducible first | exact HB.out | apply below_alloc | apply pw_below_drewN | apply below_drew1) | exact HB.out)) hb); clear HO454; clear HB; have HO454 := n0_; have HO458 := n1_; have HB := n2_; clear n0_ n1_ n2_; clear hb ho13))
    repeat (go_quiet (first | ((with_reducible refine gate_dst (N := 21) rfl ?_); refine Kd.R_lit (Kd.int .i64) _ 2 ?hg (N := 21) ?hd (xs := ([a2] : List Int)) (inner := [.int .i64 a2]) (ok := fun _ => True) (okp := fun _ => True) ?hr ?hp (fun _ hk => hk) trivial (Below.refl _ _) (Nat.le_refl _) (by simp) ?_; (case hd => rfl); (case hg => rfl); (case hr => first | (go_simp; done) | (go_simp; rfl)); (case hp => exact (Reps.one (show Kd.M (Kd.int .i64) _ _ _ a2 [.int .i64 a2] from rfl) (Reps.none _ _))); intro v453 w8 ho9 hb hg_ hnew_; clear hg_ hnew_; (first | rw [← Ny452.out] at ho9 | (simp only [Int.reduceToNat] at ho9; rw [← Ny452.out] at ho9)); have n0_ := Aside0.mk (Kd.R_lower ho9 (below_size (by repeat (first | (with_reducible first | exact HB.out | apply below_alloc | apply pw_below_drewN | apply below_drew1) | exact HB.out)))); have n1_ := Aside0.mk (below_step (by repeat (first | (with_reducible first | exact HB.out | apply below_alloc | apply pw_below_drewN | apply below_drew1) | exact HB.out)) hb); clear HB; have HO454 := n0_; have HB := n1_; clear n0_ n1_; clear hb ho9; obtain ⟨Ao10, co10, eo10⟩ := Kd.R_slice HO454.out; subst eo10) | (go_at_call 34; (with_reducible refine (impl_nodeAsked.calls k a0 _ _ l1 _ _ y452 t455 _ ?side1 ?side2 ?side3 ?side4 A4.out).mono ?_); (case side1 => repeat (first | exact (Kd.C_below HR1.out HB.out) | (with_reducible refine Kd.C_alloc ?_ _) | (with_reducible refine Kd.C_drewN ?_ _) | (with_reducible refine Kd.C_drew ?_))); (case side2 => exact HC1.out); (case side3 => repeat (first | exact (Kd.R_reads' HO454.out).2.2 | (with_reducible refine Kd.C_alloc ?_ _) | (with_reducible refine Kd.C_drewN ?_ _) | (with_reducible refine Kd.C_drew ?_))); (case side4 => exact (Kd.R_reads' HO454.out).2.1); rintro e w11 ⟨rfl, hb⟩; have n0_ := Aside0.mk (Kd.R_below (by (with_reducible repeat (first | apply Kd.R_alloc | apply Kd.R_drewN | apply Kd.R_drew)); exact HO454.out) hb); have n1_ := Aside0.mk (below_step (by repeat (first | (with_reducible first | exact HB.out | apply below_alloc | apply pw_below_drewN | apply below_drew1) | exact HB.out)) hb); clear HO454; clear HB; have HO454 := n0_; have HB := n1_; clear n0_ n1_; (try clear hb); (try clear hb2); (try clear hk); (try clear hi)) | ((with_reducible refine gate_dst (N := 27) rfl ?_); refine Kd.R_make (Kd.int .i64) _ 2 rfl (N := 27) rfl 27 _ _ rfl a0 rfl rfl Try.underlying27 (.int .i64 0) 8 info2 rfl (by decide) (by omega) 0 (ok := fun _ => True) (okp := fun _ => True) rfl (fun _ hk => hk) trivial (of_decide_eq_true (by first | (with_reducible assumption) | assumption)) (Nat.le_trans (Nat.mul_le_mul_right _ (of_decide_eq_true (by first | (with_reducible assumption) | assumption) : a0.toNat ≤ 35184372088832)) (by omega)) (Below.refl _ _) (Nat.le_refl _) ?_; intro v457 w12 ho13 hb hg_ hnew_; clear hg_ hnew_; (first | rw [← Ny456.out] at ho13 | (simp only [Int.reduceToNat] at ho13; rw [← Ny456.out] at ho13)); have n0_ := Aside0.mk (Kd.R_elder' (by (with_reducible repeat (first | apply Kd.R_alloc | apply Kd.R_drewN | apply Kd.R_drew)); exact HO454.out) (Kd.R_base ho13) hb); have n1_ := Aside0.mk (Kd.R_lower (Kd.R_new' ho13 (Kd.R_lt (by (with_reducible repeat (first | apply Kd.R_alloc | apply Kd.R_drewN | apply Kd.R_drew)); exact HO454.out))) (below_size (by repeat (first | (with_reducible first | exact HB.out | apply below_alloc | apply pw_below_drewN | apply below_drew1) | exact HB.out)))); have n2_ := Aside0.mk (below_step (by repeat (first | (with_reducible first | exact HB.out | apply below_alloc | apply pw_below_drewN | apply below_drew1) | exact HB.out)) hb); clear HO454; clear HB; have HO454 := n0_; have HO458 := n1_; have HB := n2_; clear n0_ n1_ n2_; clear hb ho13)); try go_wp2_with (first | ((with_reducible refine gate_dst (N := 21) rfl ?_); refine Kd.R_lit (Kd.int .i64) _ 2 ?hg (N := 21) ?hd (xs := ([a2] : List Int)) (inner := [.int .i64 a2]) (ok := fun _ => True) (okp := fun _ => True) ?hr ?hp (fun _ hk => hk) trivial (Below.refl _ _) (Nat.le_refl _) (by simp) ?_; (case hd => rfl); (case hg => rfl); (case hr => first | (go_simp; done) | (go_simp; rfl)); (case hp => exact (Reps.one (show Kd.M (Kd.int .i64) _ _ _ a2 [.int .i64 a2] from rfl) (Reps.none _ _))); intro v453 w8 ho9 hb hg_ hnew_; clear hg_ hnew_; (first | rw [← Ny452.out] at ho9 | (simp only [Int.reduceToNat] at ho9; rw [← Ny452.out] at ho9)); have n0_ := Aside0.mk (Kd.R_lower ho9 (below_size (by repeat (first | (with_reducible first | exact HB.out | apply below_alloc | apply pw_below_drewN | apply below_drew1) | exact HB.out)))); have n1_ := Aside0.mk (below_step (by repeat (first | (with_reducible first | exact HB.out | apply below_alloc | apply pw_below_drewN | apply below_drew1) | exact HB.out)) hb); clear HB; have HO454 := n0_; have HB := n1_; clear n0_ n1_; clear hb ho9; obtain ⟨Ao10, co10, eo10⟩ := Kd.R_slice HO454.out; subst eo10) | (go_at_call 34; (with_reducible refine (impl_nodeAsked.calls k a0 _ _ l1 _ _ y452 t455 _ ?side1 ?side2 ?side3 ?side4 A4.out).mono ?_); (case side1 => repeat (first | exact (Kd.C_below HR1.out HB.out) | (with_reducible refine Kd.C_alloc ?_ _) | (with_reducible refine Kd.C_drewN ?_ _) | (with_reducible refine Kd.C_drew ?_))); (case side2 => exact HC1.out); (case side3 => repeat (first | exact (Kd.R_reads' HO454.out).2.2 | (with_reducible refine Kd.C_alloc ?_ _) | (with_reducible refine Kd.C_drewN ?_ _) | (with_reducible refine Kd.C_drew ?_))); (case side4 => exact (Kd.R_reads' HO454.out).2.1); rintro e w11 ⟨rfl, hb⟩; have n0_ := Aside0.mk (Kd.R_below (by (with_reducible repeat (first | apply Kd.R_alloc | apply Kd.R_drewN | apply Kd.R_drew)); exact HO454.out) hb); have n1_ := Aside0.mk (below_step (by repeat (first | (with_reducible first | exact HB.out | apply below_alloc | apply pw_below_drewN | apply below_drew1) | exact HB.out)) hb); clear HO454; clear HB; have HO454 := n0_; have HB := n1_; clear n0_ n1_; (try clear hb); (try clear hb2); (try clear hk); (try clear hi)) | ((with_reducible refine gate_dst (N := 27) rfl ?_); refine Kd.R_make (Kd.int .i64) _ 2 rfl (N := 27) rfl 27 _ _ rfl a0 rfl rfl Try.underlying27 (.int .i64 0) 8 info2 rfl (by decide) (by omega) 0 (ok := fun _ => True) (okp := fun _ => True) rfl (fun _ hk => hk) trivial (of_decide_eq_true (by first | (with_reducible assumption) | assumption)) (Nat.le_trans (Nat.mul_le_mul_right _ (of_decide_eq_true (by first | (with_reducible assumption) | assumption) : a0.toNat ≤ 35184372088832)) (by omega)) (Below.refl _ _) (Nat.le_refl _) ?_; intro v457 w12 ho13 hb hg_ hnew_; clear hg_ hnew_; (first | rw [← Ny456.out] at ho13 | (simp only [Int.reduceToNat] at ho13; rw [← Ny456.out] at ho13)); have n0_ := Aside0.mk (Kd.R_elder' (by (with_reducible repeat (first | apply Kd.R_alloc | apply Kd.R_drewN | apply Kd.R_drew)); exact HO454.out) (Kd.R_base ho13) hb); have n1_ := Aside0.mk (Kd.R_lower (Kd.R_new' ho13 (Kd.R_lt (by (with_reducible repeat (first | apply Kd.R_alloc | apply Kd.R_drewN | apply Kd.R_drew)); exact HO454.out))) (below_size (by repeat (first | (with_reducible first | exact HB.out | apply below_alloc | apply pw_below_drewN | apply below_drew1) | exact HB.out)))); have n2_ := Aside0.mk (below_step (by repeat (first | (with_reducible first | exact HB.out | apply below_alloc | apply pw_below_drewN | apply below_drew1) | exact HB.out)) hb); clear HO454; clear HB; have HO454 := n0_; have HO458 := n1_; have HB := n2_; clear n0_ n1_ n2_; clear hb ho13)))
    go_loopg [10] k (fun kq v10 w' => ∃ (x9_1 : List Int) (x10_1 : Int), v10 = .int .i64 x10_1 ∧ Aside0 (impl_FastestWay.l0 kq l1 a2 x9_1 x10_1 = some (r1, r2)) ∧ Aside0 (kq ≤ k) ∧ Aside0 (Kd.R (Kd.int .i64) 2 w' w.heap.size (fun _ => True) v457 x9_1) ∧ Aside0 (Below w.heap.size w w'))
    case atStart => exact ⟨(y456), (wrap64 (a0 - 1)), (by first | rfl | (simp; done) | (simp [*]; done)), H', ⟨Nat.le_refl _⟩, ⟨by (with_reducible repeat (first | apply Kd.R_alloc | apply Kd.R_drewN | apply Kd.R_drew)); exact Kd.R_mono HO458.out (fun _ hk => trivial)⟩, ⟨by repeat (first | (with_reducible first | exact HB.out | apply below_alloc | apply pw_below_drewN | apply below_drew1) | exact HB.out)⟩⟩
    case round =>
     clear H'
     try clear c1
     try clear p2
     try clear c5
     try clear c5b0
     try clear c5b1
     try clear c6
     try clear c6b0
     try clear c6b1
     try clear p6
     try clear c7
     try clear c7b0
     try clear c7b1
     obtain ⟨x9_1, x10_1, rfl, HA, HK1, HO_9, HB⟩ := hrel
     cases gk with
     | zero => exact absurd HA.out (by simp [impl_FastestWay.l0])
     | succ k1 =>
      have H := HA.out
      clear HA
      simp only [impl_FastestWay.l0] at H
      by_cases c14 : x10_1 ≥ 0
      ·rw [if_pos c14] at H
       have c14b0 : decide (0 ≤ x10_1) = true := decide_eq_true c14
       clear c14
       by_cases c15 : 0 ≤ x10_1
       ·rw [if_pos c15] at H
        have c15b0 : decide (0 ≤ x10_1) = true := decide_eq_true c15
        clear c15
        by_cases c16 : x10_1 < (x9_1.length : Int)
        ·rw [if_pos c16] at H
         have c16b0 : decide (x10_1 < (x9_1.length : Int)) = true := decide_eq_true c16
         clear c16
         obtain ⟨y459, hy459⟩ : ∃ y_ : List Int, y_ = (x9_1.set (x10_1 : Int).toNat (-1)) := ⟨_, rfl⟩
         replace H : (if x10_1 = a2 then (impl_FastestWay.l0 k1 l1 a2 (y459.set (x10_1 : Int).toNat 0) (wrap64 (x10_1 - 1))) else (impl_FastestWay.l1 k1 l1 a2 y459 x10_1 l1 (l1.length : Int) 0)) = some (r1, r2) := by first | (rw [hy459]; with_reducible exact H) | (have H2_ := (Option.bind_some _ _).symm.trans H; rw [hy459]; with_reducible exact H2_) | (have H2_ := (Option.bind_some _ _).symm.trans H; with_reducible exact H2_) | with_reducible exact H | (rw [hy459]; exact H) | exact H
         have Ny459 := Aside0.mk hy459
         clear hy459
         by_cases c18 : x10_1 = a2
         ·rw [if_pos c18] at H
          have c18b0 : (x10_1 == a2) = true := beq_iff_eq.mpr c18
          have c18b1 : (x10_1 != a2) = false := bne_eq_false_iff_eq.mpr c18
          clear c18
          obtain ⟨y460, hy460⟩ : ∃ y_ : List Int, y_ = (y459.set (x10_1 : Int).toNat 0) := ⟨_, rfl⟩
          replace H : (impl_FastestWay.l0 k1 l1 a2 y460 (wrap64 (x10_1 - 1))) = some (r1, r2) := by first | (rw [hy460]; with_reducible exact H) | (have H2_ := (Option.bind_some _ _).symm.trans H; rw [hy460]; with_reducible exact H2_) | (have H2_ := (Option.bind_some _ _).symm.trans H; with_reducible exact H2_) | with_reducible exact H | (rw [hy460]; exact H) | exact H
          have Ny460 := Aside0.mk hy460
          clear hy460
          have H' := Aside0.mk H
          clear H
          have p17 : 0 ≤ (x10_1 : Int) := of_decide_eq_true (by first | (with_reducible assumption) | assumption)
          have q17 : (x10_1 : Int) < ((x9_1.length : Int) : Int) := of_decide_eq_true (by first | (with_reducible assumption) | assumption)
          obtain ⟨go17, co17, eo17, gb17, gl17, cl17, HG17⟩ := Kd.R_form HO_9.out (by omega)
          (first | cases eo17 | (injection eo17 with ea_ en_ ec_; (first | subst ea_ | (injection ea_ with ea_; subst ea_)); subst ec_; clear en_))
          have GB17 := Aside0.mk gb17
          have GG17 := Aside0.mk HG17
          clear gb17 gl17 HG17
          obtain ⟨hx17_0, hf17_0⟩ := Kd.R_celln 0 HO_9.out (x10_1 : Int) p17 q17
          replace p17 := eq_true p17
          replace q17 := eq_true q17
          have HP20 := Kd.R_putg HO_9.out (x10_1 : Int) (-1)
          go_wp2_with (first | ((with_reducible refine gate_store (t := 2) (p := 36) rfl ?_); (try (rw [drewN_self wr]; generalize hq_ : World.drewN wr _ = wr; have n0_ := Aside0.mk (Kd.R_at hq_ HO_9.out); have n1_ := Aside0.mk (below_at hq_ HB.out); clear hq_ HO_9 HB; have HO_9 := n0_; have HB := n1_; clear n0_ n1_; (try (have HP20 := Kd.R_putg HO_9.out (x10_1 : Int) (-1))))); refine store_event (t := 2) (p := 36) (v := ?vo_w21) (w1 := (wr.setCell ⟨go17, (x10_1 : Int).toNat, none⟩ (.int .i64 (-1)))) ?hg ?ho ?hn ?hr ?_; (case ho => rfl); (case hg => rfl); (case hn => rfl); (case hr => first | (go_simp; done) | (go_simp; rfl)); intro w21 hw; have hg : wr.grownBy w21 (some go17) := (by rw [hw]; exact HP20.2); have hp_ : Kd.R (Kd.int .i64) 2 w21 w.heap.size (fun _ => True) (.slice (some ⟨go17, 0, none⟩) x9_1.length co17) y459 := (by rw [hw, Ny459.out]; exact HP20.1); clear HP20; have n0_ := Aside0.mk (hp_); have n1_ := Aside0.mk ((by rw [hw]; exact below_set (HB.out) GB17.out : Below w.heap.size w w21)); clear HO_9; clear HB; have HO_9 := n0_; have HB := n1_; clear n0_ n1_; clear hg hw hp_; have p19 : 0 ≤ (x10_1 : Int) := of_decide_eq_true (by first | (with_reducible assumption) | assumption); have q19 : (x10_1 : Int) < ((x9_1.length : Int) : Int) := of_decide_eq_true (by first | (with_reducible assumption) | assumption); obtain ⟨hx19_0, hf19_0⟩ := Kd.R_celln 0 HO_9.out (x10_1 : Int) p19 q19; replace p19 := eq_true p19; replace q19 := eq_true q19; obtain ⟨hy22_, hz22_⟩ := Kd.R_celln 0 HO_9.out (x10_1 : Int) (of_decide_eq_true (by first | (with_reducible assumption) | assumption)) (of_decide_eq_true (by first | (with_reducible assumption) | assumption)); have HP22 := Kd.R_putg HO_9.out (x10_1 : Int) 0) | ((with_reducible refine gate_store (t := 2) (p := 42) rfl ?_); (try (rw [drewN_self w21]; generalize hq_ : World.drewN w21 _ = w21; have n0_ := Aside0.mk (Kd.R_at hq_ HO_9.out); have n1_ := Aside0.mk (below_at hq_ HB.out); clear hq_ HO_9 HB; have HO_9 := n0_; have HB := n1_; clear n0_ n1_; (try (obtain ⟨hy22_, hz22_⟩ := Kd.R_celln 0 HO_9.out (x10_1 : Int) (of_decide_eq_true (by first | (with_reducible assumption) | assumption)) (of_decide_eq_true (by first | (with_reducible assumption) | assumption)))); (try (have HP22 := Kd.R_putg HO_9.out (x10_1 : Int) 0)))); refine store_event (t := 2) (p := 42) (v := ?vo_w23) (w1 := (w21.setCell ⟨go17, (x10_1 : Int).toNat, none⟩ (.int .i64 0))) ?hg ?ho ?hn ?hr ?_; (case ho => rfl); (case hg => rfl); (case hn => rfl); (case hr => first | (go_simp; done) | (go_simp; rfl)); intro w23 hw; have hg : w21.grownBy w23 (some go17) := (by rw [hw]; exact HP22.2); have hp_ : Kd.R (Kd.int .i64) 2 w23 w.heap.size (fun _ => True) (.slice (some ⟨go17, 0, none⟩) x9_1.length co17) y460 := (by rw [hw, Ny460.out]; exact HP22.1); clear HP22; have n0_ := Aside0.mk (hp_); have n1_ := Aside0.mk ((by rw [hw]; exact below_set (HB.out) GB17.out : Below w.heap.size w w23)); clear HO_9; clear HB; have HO_9 := n0_; have HB := n1_; clear n0_ n1_; clear hg hw hp_))
          repeat (go_quiet (first | ((with_reducible refine gate_store (t := 2) (p := 36) rfl ?_); (try (rw [drewN_self wr]; generalize hq_ : World.drewN wr _ = wr; have n0_ := Aside0.mk (Kd.R_at hq_ HO_9.out); have n1_ := Aside0.mk (below_at hq_ HB.out); clear hq_ HO_9 HB; have HO_9 := n0_; have HB := n1_; clear n0_ n1_; (try (have HP20 := Kd.R_putg HO_9.out (x10_1 : Int) (-1))))); refine store_event (t := 2) (p := 36) (v := ?vo_w21) (w1 := (wr.setCell ⟨go17, (x10_1 : Int).toNat, none⟩ (.int .i64 (-1)))) ?hg ?ho ?hn ?hr ?_; (case ho => rfl); (case hg => rfl); (case hn => rfl); (case hr => first | (go_simp; done) | (go_simp; rfl)); intro w21 hw; have hg : wr.grownBy w21 (some go17) := (by rw [hw]; exact HP20.2); have hp_ : Kd.R (Kd.int .i64) 2 w21 w.heap.size (fun _ => True) (.slice (some ⟨go17, 0, none⟩) x9_1.length co17) y459 := (by rw [hw, Ny459.out]; exact HP20.1); clear HP20; have n0_ := Aside0.mk (hp_); have n1_ := Aside0.mk ((by rw [hw]; exact below_set (HB.out) GB17.out : Below w.heap.size w w21)); clear HO_9; clear HB; have HO_9 := n0_; have HB := n1_; clear n0_ n1_; clear hg hw hp_; have p19 : 0 ≤ (x10_1 : Int) := of_decide_eq_true (by first | (with_reducible assumption) | assumption); have q19 : (x10_1 : Int) < ((x9_1.length : Int) : Int) := of_decide_eq_true (by first | (with_reducible assumption) | assumption); obtain ⟨hx19_0, hf19_0⟩ := Kd.R_celln 0 HO_9.out (x10_1 : Int) p19 q19; replace p19 := eq_true p19; replace q19 := eq_true q19; obtain ⟨hy22_, hz22_⟩ := Kd.R_celln 0 HO_9.out (x10_1 : Int) (of_decide_eq_true (by first | (with_reducible assumption) | assumption)) (of_decide_eq_true (by first | (with_reducible assumption) | assumption)); have HP22 := Kd.R_putg HO_9.out (x10_1 : Int) 0) | ((with_reducible refine gate_store (t := 2) (p := 42) rfl ?_); (try (rw [drewN_self w21]; generalize hq_ : World.drewN w21 _ = w21; have n0_ := Aside0.mk (Kd.R_at hq_ HO_9.out); have n1_ := Aside0.mk (below_at hq_ HB.out); clear hq_ HO_9 HB; have HO_9 := n0_; have HB := n1_; clear n0_ n1_; (try (obtain ⟨hy22_, hz22_⟩ := Kd.R_celln 0 HO_9.out (x10_1 : Int) (of_decide_eq_true (by first | (with_reducible assumption) | assumption)) (of_decide_eq_true (by first | (with_reducible assumption) | assumption)))); (try (have HP22 := Kd.R_putg HO_9.out (x10_1 : Int) 0)))); refine store_event (t := 2) (p := 42) (v := ?vo_w23) (w1 := (w21.setCell ⟨go17, (x10_1 : Int).toNat, none⟩ (.int .i64 0))) ?hg ?ho ?hn ?hr ?_; (case ho => rfl); (case hg => rfl); (case hn => rfl); (case hr => first | (go_simp; done) | (go_simp; rfl)); intro w23 hw; have hg : w21.grownBy w23 (some go17) := (by rw [hw]; exact HP22.2); have hp_ : Kd.R (Kd.int .i64) 2 w23 w.heap.size (fun _ => True) (.slice (some ⟨go17, 0, none⟩) x9_1.length co17) y460 := (by rw [hw, Ny460.out]; exact HP22.1); clear HP22; have n0_ := Aside0.mk (hp_); have n1_ := Aside0.mk ((by rw [hw]; exact below_set (HB.out) GB17.out : Below w.heap.size w w23)); clear HO_9; clear HB; have HO_9 := n0_; have HB := n1_; clear n0_ n1_; clear hg hw hp_)); try go_wp2_with (first | ((with_reducible refine gate_store (t := 2) (p := 36) rfl ?_); (try (rw [drewN_self wr]; generalize hq_ : World.drewN wr _ = wr; have n0_ := Aside0.mk (Kd.R_at hq_ HO_9.out); have n1_ := Aside0.mk (below_at hq_ HB.out); clear hq_ HO_9 HB; have HO_9 := n0_; have HB := n1_; clear n0_ n1_; (try (have HP20 := Kd.R_putg HO_9.out (x10_1 : Int) (-1))))); refine store_event (t := 2) (p := 36) (v := ?vo_w21) (w1 := (wr.setCell ⟨go17, (x10_1 : Int).toNat, none⟩ (.int .i64 (-1)))) ?hg ?ho ?hn ?hr ?_; (case ho => rfl); (case hg => rfl); (case hn => rfl); (case hr => first | (go_simp; done) | (go_simp; rfl)); intro w21 hw; have hg : wr.grownBy w21 (some go17) := (by rw [hw]; exact HP20.2); have hp_ : Kd.R (Kd.int .i64) 2 w21 w.heap.size (fun _ => True) (.slice (some ⟨go17, 0, none⟩) x9_1.length co17) y459 := (by rw [hw, Ny459.out]; exact HP20.1); clear HP20; have n0_ := Aside0.mk (hp_); have n1_ := Aside0.mk ((by rw [hw]; exact below_set (HB.out) GB17.out : Below w.heap.size w w21)); clear HO_9; clear HB; have HO_9 := n0_; have HB := n1_; clear n0_ n1_; clear hg hw hp_; have p19 : 0 ≤ (x10_1 : Int) := of_decide_eq_true (by first | (with_reducible assumption) | assumption); have q19 : (x10_1 : Int) < ((x9_1.length : Int) : Int) := of_decide_eq_true (by first | (with_reducible assumption) | assumption); obtain ⟨hx19_0, hf19_0⟩ := Kd.R_celln 0 HO_9.out (x10_1 : Int) p19 q19; replace p19 := eq_true p19; replace q19 := eq_true q19; obtain ⟨hy22_, hz22_⟩ := Kd.R_celln 0 HO_9.out (x10_1 : Int) (of_decide_eq_true (by first | (with_reducible assumption) | assumption)) (of_decide_eq_true (by first | (with_reducible assumption) | assumption)); have HP22 := Kd.R_putg HO_9.out (x10_1 : Int) 0) | ((with_reducible refine gate_store (t := 2) (p := 42) rfl ?_); (try (rw [drewN_self w21]; generalize hq_ : World.drewN w21 _ = w21; have n0_ := Aside0.mk (Kd.R_at hq_ HO_9.out); have n1_ := Aside0.mk (below_at hq_ HB.out); clear hq_ HO_9 HB; have HO_9 := n0_; have HB := n1_; clear n0_ n1_; (try (obtain ⟨hy22_, hz22_⟩ := Kd.R_celln 0 HO_9.out (x10_1 : Int) (of_decide_eq_true (by first | (with_reducible assumption) | assumption)) (of_decide_eq_true (by first | (with_reducible assumption) | assumption)))); (try (have HP22 := Kd.R_putg HO_9.out (x10_1 : Int) 0)))); refine store_event (t := 2) (p := 42) (v := ?vo_w23) (w1 := (w21.setCell ⟨go17, (x10_1 : Int).toNat, none⟩ (.int .i64 0))) ?hg ?ho ?hn ?hr ?_; (case ho => rfl); (case hg => rfl); (case hn => rfl); (case hr => first | (go_simp; done) | (go_simp; rfl)); intro w23 hw; have hg : w21.grownBy w23 (some go17) := (by rw [hw]; exact HP22.2); have hp_ : Kd.R (Kd.int .i64) 2 w23 w.heap.size (fun _ => True) (.slice (some ⟨go17, 0, none⟩) x9_1.length co17) y460 := (by rw [hw, Ny460.out]; exact HP22.1); clear HP22; have n0_ := Aside0.mk (hp_); have n1_ := Aside0.mk ((by rw [hw]; exact below_set (HB.out) GB17.out : Below w.heap.size w w23)); clear HO_9; clear HB; have HO_9 := n0_; have HB := n1_; clear n0_ n1_; clear hg hw hp_)))
          go_roundg k1
          case measure => have := HK1.out; omega
          case rel => exact ⟨(y460), (wrap64 (x10_1 - 1)), (by first | rfl | (simp; done) | (simp [*]; done)), H', ⟨by have := HK1.out; omega⟩, ⟨by (with_reducible repeat (first | apply Kd.R_alloc | apply Kd.R_drewN | apply Kd.R_drew)); first | exact HO_9.out | (rw [Ny460.out]; exact (Kd.R_putg (by (with_reducible repeat (first | apply Kd.R_alloc | apply Kd.R_drewN | apply Kd.R_drew)); exact HO_9.out) _ _).1)⟩, ⟨by repeat (first | (with_reducible first | exact HB.out | apply below_alloc | apply pw_below_drewN | apply below_drew1) | exact HB.out)⟩⟩
         ·rw [if_neg c18] at H
          have c18b0 : (x10_1 == a2) = false := beq_eq_false_iff_ne.mpr c18
          have c18b1 : (x10_1 != a2) = true := bne_iff_ne.mpr c18
          have H' := Aside0.mk H
          clear H
          have p17 : 0 ≤ (x10_1 : Int) := of_decide_eq_true (by first | (with_reducible assumption) | assumption)
          have q17 : (x10_1 : Int) < ((x9_1.length : Int) : Int) := of_decide_eq_true (by first | (with_reducible assumption) | assumption)
          obtain ⟨go17, co17, eo17, gb17, gl17, cl17, HG17⟩ := Kd.R_form HO_9.out (by omega)
          (first | cases eo17 | (injection eo17 with ea_ en_ ec_; (first | subst ea_ | (injection ea_ with ea_; subst ea_)); subst ec_; clear en_))
          have GB17 := Aside0.mk gb17
          have GG17 := Aside0.mk HG17
          clear gb17 gl17 HG17
          obtain ⟨hx17_0, hf17_0⟩ := Kd.R_celln 0 HO_9.out (x10_1 : Int) p17 q17
          replace p17 := eq_true p17
          replace q17 := eq_true q17
          have HP24 := Kd.R_putg HO_9.out (x10_1 : Int) (-1)
          go_wp2_with (first | ((with_reducible refine gate_store (t := 2) (p := 36) rfl ?_); (try (rw [drewN_self wr]; generalize hq_ : World.drewN wr _ = wr; have n0_ := Aside0.mk (Kd.R_at hq_ HO_9.out); have n1_ := Aside0.mk (below_at hq_ HB.out); clear hq_ HO_9 HB; have HO_9 := n0_; have HB := n1_; clear n0_ n1_; (try (have HP24 := Kd.R_putg HO_9.out (x10_1 : Int) (-1))))); refine store_event (t := 2) (p := 36) (v := ?vo_w25) (w1 := (wr.setCell ⟨go17, (x10_1 : Int).toNat, none⟩ (.int .i64 (-1)))) ?hg ?ho ?hn ?hr ?_; (case ho => rfl); (case hg => rfl); (case hn => rfl); (case hr => first | (go_simp; done) | (go_simp; rfl)); intro w25 hw; have hg : wr.grownBy w25 (some go17) := (by rw [hw]; exact HP24.2); have hp_ : Kd.R (Kd.int .i64) 2 w25 w.heap.size (fun _ => True) (.slice (some ⟨go17, 0, none⟩) x9_1.length co17) y459 := (by rw [hw, Ny459.out]; exact HP24.1); clear HP24; have n0_ := Aside0.mk (hp_); have n1_ := Aside0.mk ((by rw [hw]; exact below_set (HB.out) GB17.out : Below w.heap.size w w25)); clear HO_9; clear HB; have HO_9 := n0_; have HB := n1_; clear n0_ n1_; clear hg hw hp_))
          repeat (go_quiet (first | ((with_reducible refine gate_store (t := 2) (p := 36) rfl ?_); (try (rw [drewN_self wr]; generalize hq_ : World.drewN wr _ = wr; have n0_ := Aside0.mk (Kd.R_at hq_ HO_9.out); have n1_ := Aside0.mk (below_at hq_ HB.out); clear hq_ HO_9 HB; have HO_9 := n0_; have HB := n1_; clear n0_ n1_; (try (have HP24 := Kd.R_putg HO_9.out (x10_1 : Int) (-1))))); refine store_event (t := 2) (p := 36) (v := ?vo_w25) (w1 := (wr.setCell ⟨go17, (x10_1 : Int).toNat, none⟩ (.int .i64 (-1)))) ?hg ?ho ?hn ?hr ?_; (case ho => rfl); (case hg => rfl); (case hn => rfl); (case hr => first | (go_simp; done) | (go_simp; rfl)); intro w25 hw; have hg : wr.grownBy w25 (some go17) := (by rw [hw]; exact HP24.2); have hp_ : Kd.R (Kd.int .i64) 2 w25 w.heap.size (fun _ => True) (.slice (some ⟨go17, 0, none⟩) x9_1.length co17) y459 := (by rw [hw, Ny459.out]; exact HP24.1); clear HP24; have n0_ := Aside0.mk (hp_); have n1_ := Aside0.mk ((by rw [hw]; exact below_set (HB.out) GB17.out : Below w.heap.size w w25)); clear HO_9; clear HB; have HO_9 := n0_; have HB := n1_; clear n0_ n1_; clear hg hw hp_)); try go_wp2_with (first | ((with_reducible refine gate_store (t := 2) (p := 36) rfl ?_); (try (rw [drewN_self wr]; generalize hq_ : World.drewN wr _ = wr; have n0_ := Aside0.mk (Kd.R_at hq_ HO_9.out); have n1_ := Aside0.mk (below_at hq_ HB.out); clear hq_ HO_9 HB; have HO_9 := n0_; have HB := n1_; clear n0_ n1_; (try (have HP24 := Kd.R_putg HO_9.out (x10_1 : Int) (-1))))); refine store_event (t := 2) (p := 36) (v := ?vo_w25) (w1 := (wr.setCell ⟨go17, (x10_1 : Int).toNat, none⟩ (.int .i64 (-1)))) ?hg ?ho ?hn ?hr ?_; (case ho => rfl); (case hg => rfl); (case hn => rfl); (case hr => first | (go_simp; done) | (go_simp; rfl)); intro w25 hw; have hg : wr.grownBy w25 (some go17) := (by rw [hw]; exact HP24.2); have hp_ : Kd.R (Kd.int .i64) 2 w25 w.heap.size (fun _ => True) (.slice (some ⟨go17, 0, none⟩) x9_1.length co17) y459 := (by rw [hw, Ny459.out]; exact HP24.1); clear HP24; have n0_ := Aside0.mk (hp_); have n1_ := Aside0.mk ((by rw [hw]; exact below_set (HB.out) GB17.out : Below w.heap.size w w25)); clear HO_9; clear HB; have HO_9 := n0_; have HB := n1_; clear n0_ n1_; clear hg hw hp_)))
          go_loopg [45] k1 (fun kq v45 w' => ∃ (x9_2 : List Int) (x45_2 : Int), v45 = .int .i64 x45_2 ∧ Aside0 (impl_FastestWay.l1 kq l1 a2 x9_2 x10_1 l1 (l1.length : Int) x45_2 = some (r1, r2)) ∧ Aside0 (kq ≤ k1) ∧ Aside0 (Kd.R (Kd.int .i64) 2 w' w.heap.size (fun _ => True) (.slice (some ⟨go17, 0, none⟩) x9_1.length co17) x9_2) ∧ Aside0 (Below w.heap.size w w'))
          case atStart => exact ⟨(y459), (0), (by first | rfl | (simp; done) | (simp [*]; done)), H', ⟨Nat.le_refl _⟩, ⟨by (with_reducible repeat (first | apply Kd.R_alloc | apply Kd.R_drewN | apply Kd.R_drew)); exact HO_9.out⟩, ⟨by repeat (first | (with_reducible first | exact HB.out | apply below_alloc | apply pw_below_drewN | apply below_drew1) | exact HB.out)⟩⟩
          case round =>
           clear H'
           try clear c1
           try clear p1
           try clear q1
           try clear hx1
           try clear p2
           try clear c5
           try clear c5b0
           try clear c5b1
           try clear c6
           try clear c6b0
           try clear c6b1
           try clear p6
           try clear c7
           try clear c7b0
           try clear c7b1
           try clear c14
           try clear c14b0
           try clear c15
           try clear c15b0
           try clear c16
           try clear c16b0
           try clear p17
           try clear q17
           try clear hx17
           try clear hf17
           try clear c18
           try clear c18b0
           try clear c18b1
           try clear p19
           try clear q19
           try clear hx19
           try clear hf19
           try clear hx17_0
           try clear hx19_0
           try clear p17
           try clear p19
           try clear p2
           try clear p6
           try clear q17
           try clear q19
           obtain ⟨x9_2, x45_2, rfl, HA, HK2, HO_9, HB⟩ := hrel
           have hl9_2 := (Kd.R_reads' HO_9.out).1
           rw [hl9_2] at HO_9
           (try simp only [hl9_2])
           cases gk with
           | zero => exact absurd HA.out (by simp [impl_FastestWay.l1])
           | succ k2 =>
            have H := HA.out
            clear HA
            simp only [impl_FastestWay.l1] at H
            by_cases c26 : x45_2 < (l1.length : Int)
            ·rw [if_pos c26] at H
             have c26b0 : decide (x45_2 < (l1.length : Int)) = true := decide_eq_true c26
             clear c26
             by_cases c27 : 0 ≤ x45_2
             ·rw [if_pos c27] at H
              have c27b0 : decide (0 ≤ x45_2) = true := decide_eq_true c27
              clear c27
              by_cases c28 : x45_2 < (l1.length : Int)
              ·rw [if_pos c28] at H
               have c28b0 : decide (x45_2 < (l1.length : Int)) = true := decide_eq_true c28
               clear c28
               have HC29 := Aside0.mk H
               clear H
               have p461 : 0 ≤ (x45_2 : Int) := of_decide_eq_true (by first | (with_reducible assumption) | assumption)
               have q461 : x45_2 < (l1.length : Int) := of_decide_eq_true (by first | (with_reducible assumption) | assumption)
               obtain ⟨ad461, e461, hx461_0, hx461_1, hx461_2, hx461_3⟩ := at_T39 HR1.out x45_2 p461 q461
               cases e461
               replace hx461_0 := (HB.out.cell (World.block_lt_of_cell? w _ hx461_0)).trans hx461_0
               replace hx461_1 := (HB.out.cell (World.block_lt_of_cell? w _ hx461_1)).trans hx461_1
               replace hx461_2 := (HB.out.cell (World.block_lt_of_cell? w _ hx461_2)).trans hx461_2
               replace hx461_3 := (HB.out.cell (World.block_lt_of_cell? w _ hx461_3)).trans hx461_3
               replace p461 := eq_true p461
               replace q461 := eq_true q461
               go_upto_region 14 with (first | ((with_reducible refine gate_dst (N := 12) rfl ?_); refine box_event ?hg (N := 12) ?hd (cs := #[.int .i64 0, .int .i64 0, .int .i64 0, .int .i64 0]) (t := 39) ?hr ?_; (case hd => rfl); (case hg => rfl); (case hr => first | (go_simp; done) | (go_simp; rfl)); intro gb462 hg w30 hbox hb; have n0_ := Aside0.mk (Kd.R_below (by (with_reducible repeat (first | apply Kd.R_alloc | apply Kd.R_drewN | apply Kd.R_drew)); exact HO_9.out) hb); have n1_ := Aside0.mk (below_step (by repeat (first | (with_reducible first | exact HB.out | apply below_alloc | apply pw_below_drewN | apply below_drew1) | exact HB.out)) hb); have n2_ := Aside0.mk (hbox); have n3_ := Aside0.mk ((by rw [hg]; exact (below_size (by repeat (first | (with_reducible first | exact HB.out | apply below_alloc | apply pw_below_drewN | apply below_drew1) | exact HB.out))) : w.heap.size ≤ gb462)); have n4_ := Aside0.mk ((by rw [hg]; exact (below_size (by repeat (first | (with_reducible first | exact HB.out | apply below_alloc | apply pw_below_drewN | apply below_drew1) | exact HB.out))) : w.heap.size ≤ gb462)); clear HO_9; clear HB; have HO_9 := n0_; have HB := n1_; have BK462 := n2_; have GW462 := n3_; have GE462 := n4_; clear n0_ n1_ n2_ n3_ n4_; clear hb hbox hg; have hcz31_0 : w30.cell? ⟨gb462, 0, none⟩ = some (.int .i64 0) := (blk_cell BK462.out 0).trans rfl; have hcz31_1 : w30.cell? ⟨gb462, 1, none⟩ = some (.int .i64 0) := (blk_cell BK462.out 1).trans rfl; have hcz31_2 : w30.cell? ⟨gb462, 2, none⟩ = some (.int .i64 0) := (blk_cell BK462.out 2).trans rfl; have hcz31_3 : w30.cell? ⟨gb462, 3, none⟩ = some (.int .i64 0) := (blk_cell BK462.out 3).trans rfl; have hfz31_0 := blk_frozen BK462.out 0; have hfz31_1 := blk_frozen BK462.out 1; have hfz31_2 := blk_frozen BK462.out 2; have hfz31_3 := blk_frozen BK462.out 3))
               repeat (go_quiet (first | ((with_reducible refine gate_dst (N := 12) rfl ?_); refine box_event ?hg (N := 12) ?hd (cs := #[.int .i64 0, .int .i64 0, .int .i64 0, .int .i64 0]) (t := 39) ?hr ?_; (case hd => rfl); (case hg => rfl); (case hr => first | (go_simp; done) | (go_simp; rfl)); intro gb462 hg w30 hbox hb; have n0_ := Aside0.mk (Kd.R_below (by (with_reducible repeat (first | apply Kd.R_alloc | apply Kd.R_drewN | apply Kd.R_drew)); exact HO_9.out) hb); have n1_ := Aside0.mk (below_step (by repeat (first | (with_reducible first | exact HB.out | apply below_alloc | apply pw_below_drewN | apply below_drew1) | exact HB.out)) hb); have n2_ := Aside0.mk (hbox); have n3_ := Aside0.mk ((by rw [hg]; exact (below_size (by repeat (first | (with_reducible first | exact HB.out | apply below_alloc | apply pw_below_drewN | apply below_drew1) | exact HB.out))) : w.heap.size ≤ gb462)); have n4_ := Aside0.mk ((by rw [hg]; exact (below_size (by repeat (first | (with_reducible first | exact HB.out | apply below_alloc | apply pw_below_drewN | apply below_drew1) | exact HB.out))) : w.heap.size ≤ gb462)); clear HO_9; clear HB; have HO_9 := n0_; have HB := n1_; have BK462 := n2_; have GW462 := n3_; have GE462 := n4_; clear n0_ n1_ n2_ n3_ n4_; clear hb hbox hg; have hcz31_0 : w30.cell? ⟨gb462, 0, none⟩ = some (.int .i64 0) := (blk_cell BK462.out 0).trans rfl; have hcz31_1 : w30.cell? ⟨gb462, 1, none⟩ = some (.int .i64 0) := (blk_cell BK462.out 1).trans rfl; have hcz31_2 : w30.cell? ⟨gb462, 2, none⟩ = some (.int .i64 0) := (blk_cell BK462.out 2).trans rfl; have hcz31_3 : w30.cell? ⟨gb462, 3, none⟩ = some (.int .i64 0) := (blk_cell BK462.out 3).trans rfl; have hfz31_0 := blk_frozen BK462.out 0; have hfz31_1 := blk_frozen BK462.out 1; have hfz31_2 := blk_frozen BK462.out 2; have hfz31_3 := blk_frozen BK462.out 3)); go_upto_region 14 with (first | ((with_reducible refine gate_dst (N := 12) rfl ?_); refine box_event ?hg (N := 12) ?hd (cs := #[.int .i64 0, .int .i64 0, .int .i64 0, .int .i64 0]) (t := 39) ?hr ?_; (case hd => rfl); (case hg => rfl); (case hr => first | (go_simp; done) | (go_simp; rfl)); intro gb462 hg w30 hbox hb; have n0_ := Aside0.mk (Kd.R_below (by (with_reducible repeat (first | apply Kd.R_alloc | apply Kd.R_drewN | apply Kd.R_drew)); exact HO_9.out) hb); have n1_ := Aside0.mk (below_step (by repeat (first | (with_reducible first | exact HB.out | apply below_alloc | apply pw_below_drewN | apply below_drew1) | exact HB.out)) hb); have n2_ := Aside0.mk (hbox); have n3_ := Aside0.mk ((by rw [hg]; exact (below_size (by repeat (first | (with_reducible first | exact HB.out | apply below_alloc | apply pw_below_drewN | apply below_drew1) | exact HB.out))) : w.heap.size ≤ gb462)); have n4_ := Aside0.mk ((by rw [hg]; exact (below_size (by repeat (first | (with_reducible first | exact HB.out | apply below_alloc | apply pw_below_drewN | apply below_drew1) | exact HB.out))) : w.heap.size ≤ gb462)); clear HO_9; clear HB; have HO_9 := n0_; have HB := n1_; have BK462 := n2_; have GW462 := n3_; have GE462 := n4_; clear n0_ n1_ n2_ n3_ n4_; clear hb hbox hg; have hcz31_0 : w30.cell? ⟨gb462, 0, none⟩ = some (.int .i64 0) := (blk_cell BK462.out 0).trans rfl; have hcz31_1 : w30.cell? ⟨gb462, 1, none⟩ = some (.int .i64 0) := (blk_cell BK462.out 1).trans rfl; have hcz31_2 : w30.cell? ⟨gb462, 2, none⟩ = some (.int .i64 0) := (blk_cell BK462.out 2).trans rfl; have hcz31_3 : w30.cell? ⟨gb462, 3, none⟩ = some (.int .i64 0) := (blk_cell BK462.out 3).trans rfl; have hfz31_0 := blk_frozen BK462.out 0; have hfz31_1 := blk_frozen BK462.out 1; have hfz31_2 := blk_frozen BK462.out 2; have hfz31_3 := blk_frozen BK462.out 3)))
               (try simp only [Act.put, List.setIfInBounds_toArray, List.set_cons_zero, List.set_cons_succ])
               go_cut [60] (fun v60 wc => ∃ (kq : Nat) (x60_28 : Bool), v60 = .bool x60_28 ∧ Aside0 (impl_FastestWay.j2 kq l1 a2 x9_2 x10_1 l1 (l1.length : Int) x45_2 x60_28 ((rd_T39 l1 x45_2).f0) ((rd_T39 l1 x45_2).f1) ((rd_T39 l1 x45_2).f2) ((rd_T39 l1 x45_2).f3) = some (r1, r2)) ∧ Aside0 (kq ≤ k2) ∧ Aside0 (Kd.R (Kd.int .i64) 2 wc w.heap.size (fun _ => True) (.slice (some ⟨go17, 0, none⟩) x9_2.length co17) x9_2) ∧ Aside0 (wc.heap[gb462]? = some (.cells #[.int .i64 ((rd_T39 l1 x45_2).f0), .int .i64 ((rd_T39 l1 x45_2).f1), .int .i64 ((rd_T39 l1 x45_2).f2), .int .i64 ((rd_T39 l1 x45_2).f3)] 39 (0, 0))) ∧ Aside0 (Below w.heap.size w wc))
               case first =>
                have H := HC29.out
                clear HC29
                by_cases c32 : ((rd_T39 l1 x45_2).f0) = x10_1
                ·rw [if_pos c32] at H
                 have c32b0 : (((rd_T39 l1 x45_2).f0) == x10_1) = true := beq_iff_eq.mpr c32
                 have c32b1 : (((rd_T39 l1 x45_2).f0) != x10_1) = false := bne_eq_false_iff_eq.mpr c32
                 clear c32
                 (first | rw [c32b0] | (simp only [i64_w, i32_w]; rw [c32b0]) | skip)
                 by_cases c33 : 0 ≤ ((rd_T39 l1 x45_2).f1)
                 ·rw [if_pos c33] at H
                  have c33b0 : decide (0 ≤ ((rd_T39 l1 x45_2).f1)) = true := decide_eq_true c33
                  clear c33
                  by_cases c34 : ((rd_T39 l1 x45_2).f1) < (x9_2.length : Int)
                  ·rw [if_pos c34] at H
                   have c34b0 : decide (((rd_T39 l1 x45_2).f1) < (x9_2.length : Int)) = true := decide_eq_true c34
                   clear c34
                   have H' := Aside0.mk H
                   clear H
                   have hcz35_0 : w30.cell? ⟨gb462, 0, none⟩ = some (.int .i64 0) := (blk_cell BK462.out 0).trans rfl
                   have hcz35_1 : w30.cell? ⟨gb462, 1, none⟩ = some (.int .i64 0) := (blk_cell BK462.out 1).trans rfl
                   have hcz35_2 : w30.cell? ⟨gb462, 2, none⟩ = some (.int .i64 0) := (blk_cell BK462.out 2).trans rfl
                   have hcz35_3 : w30.cell? ⟨gb462, 3, none⟩ = some (.int .i64 0) := (blk_cell BK462.out 3).trans rfl
                   have hfz35_0 := blk_frozen BK462.out 0
                   have hfz35_1 := blk_frozen BK462.out 1
                   have hfz35_2 := blk_frozen BK462.out 2
                   have hfz35_3 := blk_frozen BK462.out 3
                   have p463 : 0 ≤ (((rd_T39 l1 x45_2).f1) : Int) := of_decide_eq_true (by first | (with_reducible assumption) | assumption)
                   have q463 : ((rd_T39 l1 x45_2).f1) < (x9_2.length : Int) := of_decide_eq_true (by first | (with_reducible assumption) | assumption)
                   obtain ⟨ad463, e463, hx463_0⟩ := Kd.at_int (Kd.R_reads' HO_9.out).2.2 ((rd_T39 l1 x45_2).f1) p463 q463
                   obtain rfl : (⟨go17, 0, none⟩ : Addr) = ad463 := (by injection e463)
                   (first | simp only [add_plain] at hx463_0 | simp only [add_at] at hx463_0 | simp only [Addr.add, Nat.zero_add] at hx463_0 | skip)
                   have hn463_0 : (⟨go17, 0, none⟩ : Addr).block ≠ gb462 := Kd.own_blk (Kd.R_ne HO_9.out BK462.out (by decide))
                   have hn463_1 : (⟨go17, 0, none⟩ : Addr).block ≠ gb462 := Kd.own_blk (Kd.R_ne HO_9.out BK462.out (by decide))
                   have hn463_2 : (⟨go17, 0, none⟩ : Addr).block ≠ gb462 := Kd.own_blk (Kd.R_ne HO_9.out BK462.out (by decide))
                   have hn463_3 : (⟨go17, 0, none⟩ : Addr).block ≠ gb462 := Kd.own_blk (Kd.R_ne HO_9.out BK462.out (by decide))
                   replace hx463_0 := (cell_far (p := ⟨gb462, 0, none⟩) (by first | (rw [add_block]; exact hn463_0) | (show (Addr.add _ _).block ≠ _; rw [add_block]; exact hn463_0) | exact hn463_0) (.int .i64 ((rd_T39 l1 x45_2).f0))).trans hx463_0
                   replace hx463_0 := (cell_far (p := ⟨gb462, 1, none⟩) (by first | (rw [add_block]; exact hn463_1) | (show (Addr.add _ _).block ≠ _; rw [add_block]; exact hn463_1) | exact hn463_1) (.int .i64 ((rd_T39 l1 x45_2).f1))).trans hx463_0
                   replace hx463_0 := (cell_far (p := ⟨gb462, 2, none⟩) (by first | (rw [add_block]; exact hn463_2) | (show (Addr.add _ _).block ≠ _; rw [add_block]; exact hn463_2) | exact hn463_2) (.int .i64 ((rd_T39 l1 x45_2).f2))).trans hx463_0
                   replace hx463_0 := (cell_far (p := ⟨gb462, 3, none⟩) (by first | (rw [add_block]; exact hn463_3) | (show (Addr.add _ _).block ≠ _; rw [add_block]; exact hn463_3) | exact hn463_3) (.int .i64 ((rd_T39 l1 x45_2).f3))).trans hx463_0
                   (try have hy463_0 := fun (n_ : Nat) => (show ((((((w30.drewN n_).setCell ⟨gb462, 0, none⟩ (.int .i64 ((rd_T39 l1 x45_2).f0))).setCell ⟨gb462, 1, none⟩ (.int .i64 ((rd_T39 l1 x45_2).f1))).setCell ⟨gb462, 2, none⟩ (.int .i64 ((rd_T39 l1 x45_2).f2))).setCell ⟨gb462, 3, none⟩ (.int .i64 ((rd_T39 l1 x45_2).f3)))).cell? _ = some _ from hx463_0))
                   clear hn463_0
                   clear hn463_1
                   clear hn463_2
                   clear hn463_3
                   replace p463 := eq_true p463
                   replace q463 := eq_true q463
                   go_wp2
                   repeat (go_quiet (fail); try go_wp2)
                   go_meet
                   case rel => exact ⟨_, (decide ((rd x9_2 ((rd_T39 l1 x45_2).f1)) ≥ 0)), (by first | rfl | (simp; done) | (simp [*]; done)), H', ⟨by have := HK1.out; have := HK2.out; first | omega | exact Nat.le_refl _⟩, ⟨by (try simp only [hl9_2]); (with_reducible repeat (first | apply Kd.R_alloc | apply Kd.R_drewN | apply Kd.R_drew)); exact Kd.R_mono (Kd.R_far (p := ⟨gb462, 3, none⟩) (Kd.R_far (p := ⟨gb462, 2, none⟩) (Kd.R_far (p := ⟨gb462, 1, none⟩) (Kd.R_far (p := ⟨gb462, 0, none⟩) (Kd.R_types HO_9.out BK462.out (by decide)) (fun _ hk => hk.2) (.int .i64 ((rd_T39 l1 x45_2).f0))) (fun _ hk => hk.2) (.int .i64 ((rd_T39 l1 x45_2).f1))) (fun _ hk => hk.2) (.int .i64 ((rd_T39 l1 x45_2).f2))) (fun _ hk => hk.2) (.int .i64 ((rd_T39 l1 x45_2).f3))) (fun _ hk => trivial)⟩, ⟨by (try simp only [hl9_2]); (with_reducible repeat (first | refine blk_drewN ?_ _ | refine blk_drew ?_ | refine blk_alloc ?_ _)); refine blk_put (cs := #[.int .i64 ((rd_T39 l1 x45_2).f0), .int .i64 ((rd_T39 l1 x45_2).f1), .int .i64 ((rd_T39 l1 x45_2).f2), .int .i64 0]) ?_ 3 _ rfl; (with_reducible repeat (first | refine blk_drewN ?_ _ | refine blk_drew ?_ | refine blk_alloc ?_ _)); refine blk_put (cs := #[.int .i64 ((rd_T39 l1 x45_2).f0), .int .i64 ((rd_T39 l1 x45_2).f1), .int .i64 0, .int .i64 0]) ?_ 2 _ rfl; (with_reducible repeat (first | refine blk_drewN ?_ _ | refine blk_drew ?_ | refine blk_alloc ?_ _)); refine blk_put (cs := #[.int .i64 ((rd_T39 l1 x45_2).f0), .int .i64 0, .int .i64 0, .int .i64 0]) ?_ 1 _ rfl; (with_reducible repeat (first | refine blk_drewN ?_ _ | refine blk_drew ?_ | refine blk_alloc ?_ _)); refine blk_put (cs := #[.int .i64 0, .int .i64 0, .int .i64 0, .int .i64 0]) ?_ 0 _ rfl; (with_reducible repeat (first | refine blk_drewN ?_ _ | refine blk_drew ?_ | refine blk_alloc ?_ _)); exact BK462.out⟩, ⟨by repeat (first | (with_reducible first | exact HB.out | apply below_alloc | apply pw_below_drewN | apply below_drew1 | refine below_set ?_ GE462.out) | exact HB.out)⟩⟩
                  ·rw [if_neg c34] at H
                   exact absurd H (by simp)
                 ·rw [if_neg c33] at H
                  exact absurd H (by simp)
                ·rw [if_neg c32] at H
                 have c32b0 : (((rd_T39 l1 x45_2).f0) == x10_1) = false := beq_eq_false_iff_ne.mpr c32
                 have c32b1 : (((rd_T39 l1 x45_2).f0) != x10_1) = true := bne_iff_ne.mpr c32
                 (first | rw [c32b0] | (simp only [i64_w, i32_w]; rw [c32b0]) | skip)
                 have H' := Aside0.mk H
                 clear H
                 have hcz36_0 : w30.cell? ⟨gb462, 0, none⟩ = some (.int .i64 0) := (blk_cell BK462.out 0).trans rfl
                 have hcz36_1 : w30.cell? ⟨gb462, 1, none⟩ = some (.int .i64 0) := (blk_cell BK462.out 1).trans rfl
                 have hcz36_2 : w30.cell? ⟨gb462, 2, none⟩ = some (.int .i64 0) := (blk_cell BK462.out 2).trans rfl
                 have hcz36_3 : w30.cell? ⟨gb462, 3, none⟩ = some (.int .i64 0) := (blk_cell BK462.out 3).trans rfl
                 have hfz36_0 := blk_frozen BK462.out 0
                 have hfz36_1 := blk_frozen BK462.out 1
                 have hfz36_2 := blk_frozen BK462.out 2
                 have hfz36_3 := blk_frozen BK462.out 3
                 go_wp2
                 repeat (go_quiet (fail); try go_wp2)
                 go_meet
                 case rel => exact ⟨_, (false), (by first | rfl | (simp; done) | (simp [*]; done)), H', ⟨by have := HK1.out; have := HK2.out; first | omega | exact Nat.le_refl _⟩, ⟨by (try simp only [hl9_2]); (with_reducible repeat (first | apply Kd.R_alloc | apply Kd.R_drewN | apply Kd.R_drew)); exact Kd.R_mono (Kd.R_far (p := ⟨gb462, 3, none⟩) (Kd.R_far (p := ⟨gb462, 2, none⟩) (Kd.R_far (p := ⟨gb462, 1, none⟩) (Kd.R_far (p := ⟨gb462, 0, none⟩) (Kd.R_types HO_9.out BK462.out (by decide)) (fun _ hk => hk.2) (.int .i64 ((rd_T39 l1 x45_2).f0))) (fun _ hk => hk.2) (.int .i64 ((rd_T39 l1 x45_2).f1))) (fun _ hk => hk.2) (.int .i64 ((rd_T39 l1 x45_2).f2))) (fun _ hk => hk.2) (.int .i64 ((rd_T39 l1 x45_2).f3))) (fun _ hk => trivial)⟩, ⟨by (try simp only [hl9_2]); (with_reducible repeat (first | refine blk_drewN ?_ _ | refine blk_drew ?_ | refine blk_alloc ?_ _)); refine blk_put (cs := #[.int .i64 ((rd_T39 l1 x45_2).f0), .int .i64 ((rd_T39 l1 x45_2).f1), .int .i64 ((rd_T39 l1 x45_2).f2), .int .i64 0]) ?_ 3 _ rfl; (with_reducible repeat (first | refine blk_drewN ?_ _ | refine blk_drew ?_ | refine blk_alloc ?_ _)); refine blk_put (cs := #[.int .i64 ((rd_T39 l1 x45_2).f0), .int .i64 ((rd_T39 l1 x45_2).f1), .int .i64 0, .int .i64 0]) ?_ 2 _ rfl; (with_reducible repeat (first | refine blk_drewN ?_ _ | refine blk_drew ?_ | refine blk_alloc ?_ _)); refine blk_put (cs := #[.int .i64 ((rd_T39 l1 x45_2).f0), .int .i64 0, .int .i64 0, .int .i64 0]) ?_ 1 _ rfl; (with_reducible repeat (first | refine blk_drewN ?_ _ | refine blk_drew ?_ | refine blk_alloc ?_ _)); refine blk_put (cs := #[.int .i64 0, .int .i64 0, .int .i64 0, .int .i64 0]) ?_ 0 _ rfl; (with_reducible repeat (first | refine blk_drewN ?_ _ | refine blk_drew ?_ | refine blk_alloc ?_ _)); exact BK462.out⟩, ⟨by repeat (first | (with_reducible first | exact HB.out | apply below_alloc | apply pw_below_drewN | apply below_drew1 | refine below_set ?_ GE462.out) | exact HB.out)⟩⟩
               case rest =>
                clear HC29
                try clear c1
                try clear p1
                try clear q1
                try clear hx1
                try clear c2
                try clear p2
                try clear c3
                try clear p4
                try clear q4
                try clear hx4
                try clear c5
                try clear c5b0
                try clear c5b1
                try clear c6
                try clear c6b0
                try clear c6b1
                try clear p6
                try clear c7
                try clear c7b0
                try clear c7b1
                try clear c14
                try clear c14b0
                try clear c15
                try clear c15b0
                try clear c16
                try clear c16b0
                try clear p17
                try clear q17
                try clear hx17
                try clear hf17
                try clear c18
                try clear c18b0
                try clear c18b1
                try clear p19
                try clear q19
                try clear hx19
                try clear hf19
                try clear c26
                try clear c26b0
                try clear c27
                try clear c27b0
                try clear c28
                try clear c28b0
                try clear c32
                try clear c32b0
                try clear c32b1
                try clear c33
                try clear c33b0
                try clear c34
                try clear c34b0
                try clear hcz31_0
                try clear hcz31_1
                try clear hcz31_2
                try clear hcz31_3
                try clear hcz35_0
                try clear hcz35_1
                try clear hcz35_2
                try clear hcz35_3
                try clear hcz36_0
                try clear hcz36_1
                try clear hcz36_2
                try clear hcz36_3
                try clear hfz31_0
                try clear hfz31_1
                try clear hfz31_2
                try clear hfz31_3
                try clear hfz35_0
                try clear hfz35_1
                try clear hfz35_2
                try clear hfz35_3
                try clear hfz36_0
                try clear hfz36_1
                try clear hfz36_2
                try clear hfz36_3
                try clear hx17_0
                try clear hx19_0
                try clear hx461_0
                try clear hx461_1
                try clear hx461_2
                try clear hx461_3
                try clear hx463_0
                try clear p1
                try clear p17
                try clear p19
                try clear p2
                try clear p461
                try clear p463
                try clear p6
                try clear q1
                try clear q17
                try clear q19
                try clear q461
                try clear q463
                obtain ⟨kq, x60_28, rfl, HA, HJ28, HO_9, BK462, HB⟩ := hcut
                cases kq with
                | zero => exact absurd HA.out (by simp [impl_FastestWay.j2])
                | succ kj28 =>
                 have H := HA.out
                 clear HA
                 simp only [impl_FastestWay.j2] at H
                 by_cases c37 : x60_28 = true
                 ·subst c37
                  have H1 : (if 0 ≤ ((rd_T39 l1 x45_2).f1) then (if ((rd_T39 l1 x45_2).f1) < (x9_2.length : Int) then (if 0 ≤ x10_1 then (if x10_1 < (x9_2.length : Int) then (if (rd x9_2 x10_1) < 0 then (impl_FastestWay.l1 kj28 l1 a2 (x9_2.set (x10_1 : Int).toNat (wrap64 (((rd_T39 l1 x45_2).f2) + (rd x9_2 ((rd_T39 l1 x45_2).f1))))) x10_1 l1 (l1.length : Int) (wrap64 (x45_2 + 1))) else (if (wrap64 (((rd_T39 l1 x45_2).f2) + (rd x9_2 ((rd_T39 l1 x45_2).f1)))) < (rd x9_2 x10_1) then (impl_FastestWay.l1 kj28 l1 a2 (x9_2.set (x10_1 : Int).toNat (wrap64 (((rd_T39 l1 x45_2).f2) + (rd x9_2 ((rd_T39 l1 x45_2).f1))))) x10_1 l1 (l1.length : Int) (wrap64 (x45_2 + 1))) else (impl_FastestWay.l1 kj28 l1 a2 x9_2 x10_1 l1 (l1.length : Int) (wrap64 (x45_2 + 1))))) else (none)) else (none)) else (none)) else (none)) = some (r1, r2) := by rw [if_pos rfl] at H; exact H
                  clear H
                  have H := H1
                  clear H1
                  by_cases c38 : 0 ≤ ((rd_T39 l1 x45_2).f1)
                  ·rw [if_pos c38] at H
                   have c38b0 : decide (0 ≤ ((rd_T39 l1 x45_2).f1)) = true := decide_eq_true c38
                   clear c38
                   by_cases c39 : ((rd_T39 l1 x45_2).f1) < (x9_2.length : Int)
                   ·rw [if_pos c39] at H
                    have c39b0 : decide (((rd_T39 l1 x45_2).f1) < (x9_2.length : Int)) = true := decide_eq_true c39
                    clear c39
                    by_cases c40 : 0 ≤ x10_1
                    ·rw [if_pos c40] at H
                     have c40b0 : decide (0 ≤ x10_1) = true := decide_eq_true c40
                     clear c40
                     by_cases c41 : x10_1 < (x9_2.length : Int)
                     ·rw [if_pos c41] at H
                      have c41b0 : decide (x10_1 < (x9_2.length : Int)) = true := decide_eq_true c41
                      clear c41
                      by_cases c42 : (rd x9_2 x10_1) < 0
                      ·rw [if_pos c42] at H
                       have c42b0 : decide ((rd x9_2 x10_1) < 0) = true := decide_eq_true c42
                       clear c42
                       obtain ⟨y466, hy466⟩ : ∃ y_ : List Int, y_ = (x9_2.set (x10_1 : Int).toNat (wrap64 (((rd_T39 l1 x45_2).f2) + (rd x9_2 ((rd_T39 l1 x45_2).f1))))) := ⟨_, rfl⟩
                       replace H : (impl_FastestWay.l1 kj28 l1 a2 y466 x10_1 l1 (l1.length : Int) (wrap64 (x45_2 + 1))) = some (r1, r2) := by first | (rw [hy466]; with_reducible exact H) | (have H2_ := (Option.bind_some _ _).symm.trans H; rw [hy466]; with_reducible exact H2_) | (have H2_ := (Option.bind_some _ _).symm.trans H; with_reducible exact H2_) | with_reducible exact H | (rw [hy466]; exact H) | exact H
                       have Ny466 := Aside0.mk hy466
                       clear hy466
                       have H' := Aside0.mk H
                       clear H
                       have hcz44_0 : wc.cell? ⟨gb462, 0, none⟩ = some (.int .i64 ((rd_T39 l1 x45_2).f0)) := (blk_cell BK462.out 0).trans rfl
                       have hcz44_1 : wc.cell? ⟨gb462, 1, none⟩ = some (.int .i64 ((rd_T39 l1 x45_2).f1)) := (blk_cell BK462.out 1).trans rfl
                       have hcz44_2 : wc.cell? ⟨gb462, 2, none⟩ = some (.int .i64 ((rd_T39 l1 x45_2).f2)) := (blk_cell BK462.out 2).trans rfl
                       have hcz44_3 : wc.cell? ⟨gb462, 3, none⟩ = some (.int .i64 ((rd_T39 l1 x45_2).f3)) := (blk_cell BK462.out 3).trans rfl
                       have hfz44_0 := blk_frozen BK462.out 0
                       have hfz44_1 := blk_frozen BK462.out 1
                       have hfz44_2 := blk_frozen BK462.out 2
                       have hfz44_3 := blk_frozen BK462.out 3
                       have p464 : 0 ≤ (((rd_T39 l1 x45_2).f1) : Int) := of_decide_eq_true (by first | (with_reducible assumption) | assumption)
                       have q464 : ((rd_T39 l1 x45_2).f1) < (x9_2.length : Int) := of_decide_eq_true (by first | (with_reducible assumption) | assumption)
                       obtain ⟨ad464, e464, hx464_0⟩ := Kd.at_int (Kd.R_reads' HO_9.out).2.2 ((rd_T39 l1 x45_2).f1) p464 q464
                       obtain rfl : (⟨go17, 0, none⟩ : Addr) = ad464 := (by injection e464)
                       (first | simp only [add_plain] at hx464_0 | simp only [add_at] at hx464_0 | simp only [Addr.add, Nat.zero_add] at hx464_0 | skip)
                       replace p464 := eq_true p464
                       replace q464 := eq_true q464
                       have p465 : 0 ≤ (x10_1 : Int) := of_decide_eq_true (by first | (with_reducible assumption) | assumption)
                       have q465 : x10_1 < (x9_2.length : Int) := of_decide_eq_true (by first | (with_reducible assumption) | assumption)
                       obtain ⟨ad465, e465, hx465_0⟩ := Kd.at_int (Kd.R_reads' HO_9.out).2.2 x10_1 p465 q465
                       obtain rfl : (⟨go17, 0, none⟩ : Addr) = ad465 := (by injection e465)
                       (first | simp only [add_plain] at hx465_0 | simp only [add_at] at hx465_0 | simp only [Addr.add, Nat.zero_add] at hx465_0 | skip)
                       replace p465 := eq_true p465
                       replace q465 := eq_true q465
                       have p43 : 0 ≤ (x10_1 : Int) := of_decide_eq_true (by first | (with_reducible assumption) | assumption)
                       have q43 : (x10_1 : Int) < ((x9_2.length : Int) : Int) := of_decide_eq_true (by first | (with_reducible assumption) | assumption)
                       obtain ⟨hx43_0, hf43_0⟩ := Kd.R_celln 0 HO_9.out (x10_1 : Int) p43 q43
                       replace p43 := eq_true p43
                       replace q43 := eq_true q43
                       have HP45 := Kd.R_putg HO_9.out (x10_1 : Int) (wrap64 (((rd_T39 l1 x45_2).f2) + (rd x9_2 ((rd_T39 l1 x45_2).f1))))
                       go_wp2_with (first | ((with_reducible refine gate_store (t := 2) (p := 85) rfl ?_); (try (rw [drewN_self wc]; generalize hq_ : World.drewN wc _ = wc; have n0_ := Aside0.mk (Kd.R_at hq_ HO_9.out); have n1_ := Aside0.mk (blk_at hq_ BK462.out); have n2_ := Aside0.mk (below_at hq_ HB.out); clear hq_ HO_9 BK462 HB; have HO_9 := n0_; have BK462 := n1_; have HB := n2_; clear n0_ n1_ n2_; (try (have HP45 := Kd.R_putg HO_9.out (x10_1 : Int) (wrap64 (((rd_T39 l1 x45_2).f2) + (rd x9_2 ((rd_T39 l1 x45_2).f1)))))))); refine store_event (t := 2) (p := 85) (v := ?vo_w46) (w1 := (wc.setCell ⟨go17, (x10_1 : Int).toNat, none⟩ (.int .i64 (wrap64 (((rd_T39 l1 x45_2).f2) + (rd x9_2 ((rd_T39 l1 x45_2).f1))))))) ?hg ?ho ?hn ?hr ?_; (case ho => rfl); (case hg => rfl); (case hn => rfl); (case hr => first | (go_simp; done) | (go_simp; rfl)); intro w46 hw; have hg : wc.grownBy w46 (some go17) := (by rw [hw]; exact HP45.2); have hp_ : Kd.R (Kd.int .i64) 2 w46 w.heap.size (fun _ => True) (.slice (some ⟨go17, 0, none⟩) x9_2.length co17) y466 := (by rw [hw, Ny466.out]; exact HP45.1); clear HP45; have n0_ := Aside0.mk (hp_); have n1_ := Aside0.mk (blk_grown (g := gb462) (o := .cells #[.int .i64 ((rd_T39 l1 x45_2).f0), .int .i64 ((rd_T39 l1 x45_2).f1), .int .i64 ((rd_T39 l1 x45_2).f2), .int .i64 ((rd_T39 l1 x45_2).f3)] 39 (0, 0)) (by (with_reducible repeat (first | refine blk_drewN ?_ _ | refine blk_drew ?_ | refine blk_alloc ?_ _)); exact BK462.out) hg (Kd.R_ne HO_9.out BK462.out (by decide))); have n2_ := Aside0.mk ((by rw [hw]; exact below_set (HB.out) GB17.out : Below w.heap.size w w46)); clear HO_9; clear BK462; clear HB; have HO_9 := n0_; have BK462 := n1_; have HB := n2_; clear n0_ n1_ n2_; clear hg hw hp_))
                       repeat (go_quiet (first | ((with_reducible refine gate_store (t := 2) (p := 85) rfl ?_); (try (rw [drewN_self wc]; generalize hq_ : World.drewN wc _ = wc; have n0_ := Aside0.mk (Kd.R_at hq_ HO_9.out); have n1_ := Aside0.mk (blk_at hq_ BK462.out); have n2_ := Aside0.mk (below_at hq_ HB.out); clear hq_ HO_9 BK462 HB; have HO_9 := n0_; have BK462 := n1_; have HB := n2_; clear n0_ n1_ n2_; (try (have HP45 := Kd.R_putg HO_9.out (x10_1 : Int) (wrap64 (((rd_T39 l1 x45_2).f2) + (rd x9_2 ((rd_T39 l1 x45_2).f1)))))))); refine store_event (t := 2) (p := 85) (v := ?vo_w46) (w1 := (wc.setCell ⟨go17, (x10_1 : Int).toNat, none⟩ (.int .i64 (wrap64 (((rd_T39 l1 x45_2).f2) + (rd x9_2 ((rd_T39 l1 x45_2).f1))))))) ?hg ?ho ?hn ?hr ?_; (case ho => rfl); (case hg => rfl); (case hn => rfl); (case hr => first | (go_simp; done) | (go_simp; rfl)); intro w46 hw; have hg : wc.grownBy w46 (some go17) := (by rw [hw]; exact HP45.2); have hp_ : Kd.R (Kd.int .i64) 2 w46 w.heap.size (fun _ => True) (.slice (some ⟨go17, 0, none⟩) x9_2.length co17) y466 := (by rw [hw, Ny466.out]; exact HP45.1); clear HP45; have n0_ := Aside0.mk (hp_); have n1_ := Aside0.mk (blk_grown (g := gb462) (o := .cells #[.int .i64 ((rd_T39 l1 x45_2).f0), .int .i64 ((rd_T39 l1 x45_2).f1), .int .i64 ((rd_T39 l1 x45_2).f2), .int .i64 ((rd_T39 l1 x45_2).f3)] 39 (0, 0)) (by (with_reducible repeat (first | refine blk_drewN ?_ _ | refine blk_drew ?_ | refine blk_alloc ?_ _)); exact BK462.out) hg (Kd.R_ne HO_9.out BK462.out (by decide))); have n2_ := Aside0.mk ((by rw [hw]; exact below_set (HB.out) GB17.out : Below w.heap.size w w46)); clear HO_9; clear BK462; clear HB; have HO_9 := n0_; have BK462 := n1_; have HB := n2_; clear n0_ n1_ n2_; clear hg hw hp_)); try go_wp2_with (first | ((with_reducible refine gate_store (t := 2) (p := 85) rfl ?_); (try (rw [drewN_self wc]; generalize hq_ : World.drewN wc _ = wc; have n0_ := Aside0.mk (Kd.R_at hq_ HO_9.out); have n1_ := Aside0.mk (blk_at hq_ BK462.out); have n2_ := Aside0.mk (below_at hq_ HB.out); clear hq_ HO_9 BK462 HB; have HO_9 := n0_; have BK462 := n1_; have HB := n2_; clear n0_ n1_ n2_; (try (have HP45 := Kd.R_putg HO_9.out (x10_1 : Int) (wrap64 (((rd_T39 l1 x45_2).f2) + (rd x9_2 ((rd_T39 l1 x45_2).f1)))))))); refine store_event (t := 2) (p := 85) (v := ?vo_w46) (w1 := (wc.setCell ⟨go17, (x10_1 : Int).toNat, none⟩ (.int .i64 (wrap64 (((rd_T39 l1 x45_2).f2) + (rd x9_2 ((rd_T39 l1 x45_2).f1))))))) ?hg ?ho ?hn ?hr ?_; (case ho => rfl); (case hg => rfl); (case hn => rfl); (case hr => first | (go_simp; done) | (go_simp; rfl)); intro w46 hw; have hg : wc.grownBy w46 (some go17) := (by rw [hw]; exact HP45.2); have hp_ : Kd.R (Kd.int .i64) 2 w46 w.heap.size (fun _ => True) (.slice (some ⟨go17, 0, none⟩) x9_2.length co17) y466 := (by rw [hw, Ny466.out]; exact HP45.1); clear HP45; have n0_ := Aside0.mk (hp_); have n1_ := Aside0.mk (blk_grown (g := gb462) (o := .cells #[.int .i64 ((rd_T39 l1 x45_2).f0), .int .i64 ((rd_T39 l1 x45_2).f1), .int .i64 ((rd_T39 l1 x45_2).f2), .int .i64 ((rd_T39 l1 x45_2).f3)] 39 (0, 0)) (by (with_reducible repeat (first | refine blk_drewN ?_ _ | refine blk_drew ?_ | refine blk_alloc ?_ _)); exact BK462.out) hg (Kd.R_ne HO_9.out BK462.out (by decide))); have n2_ := Aside0.mk ((by rw [hw]; exact below_set (HB.out) GB17.out : Below w.heap.size w w46)); clear HO_9; clear BK462; clear HB; have HO_9 := n0_; have BK462 := n1_; have HB := n2_; clear n0_ n1_ n2_; clear hg hw hp_)))
                       (try simp only [← hl9_2])
                       go_roundg kj28
                       case measure => have := HK1.out; have := HK2.out; have := HJ28.out; omega
                       case rel => exact ⟨(y466), (wrap64 (x45_2 + 1)), (by first | rfl | (simp; done) | (simp [*]; done)), H', ⟨by have := HK1.out; have := HK2.out; have := HJ28.out; omega⟩, ⟨by (try simp only [hl9_2]); (with_reducible repeat (first | apply Kd.R_alloc | apply Kd.R_drewN | apply Kd.R_drew)); first | exact HO_9.out | (rw [Ny466.out]; exact (Kd.R_putg (by (with_reducible repeat (first | apply Kd.R_alloc | apply Kd.R_drewN | apply Kd.R_drew)); exact HO_9.out) _ _).1)⟩, ⟨by repeat (first | (with_reducible first | exact HB.out | apply below_alloc | apply pw_below_drewN | apply below_drew1 | refine below_set ?_ GE462.out | refine below_set ?_ GB17.out) | exact HB.out)⟩⟩
                      ·rw [if_neg c42] at H
                       have c42b0 : decide ((rd x9_2 x10_1) < 0) = false := decide_eq_false c42
                       clear c42
                       by_cases c47 : (wrap64 (((rd_T39 l1 x45_2).f2) + (rd x9_2 ((rd_T39 l1 x45_2).f1)))) < (rd x9_2 x10_1)
                       ·rw [if_pos c47] at H
                        have c47b0 : decide ((wrap64 (((rd_T39 l1 x45_2).f2) + (rd x9_2 ((rd_T39 l1 x45_2).f1)))) < (rd x9_2 x10_1)) = true := decide_eq_true c47
                        clear c47
                        obtain ⟨y468, hy468⟩ : ∃ y_ : List Int, y_ = (x9_2.set (x10_1 : Int).toNat (wrap64 (((rd_T39 l1 x45_2).f2) + (rd x9_2 ((rd_T39 l1 x45_2).f1))))) := ⟨_, rfl⟩
                        replace H : (impl_FastestWay.l1 kj28 l1 a2 y468 x10_1 l1 (l1.length : Int) (wrap64 (x45_2 + 1))) = some (r1, r2) := by first | (rw [hy468]; with_reducible exact H) | (have H2_ := (Option.bind_some _ _).symm.trans H; rw [hy468]; with_reducible exact H2_) | (have H2_ := (Option.bind_some _ _).symm.trans H; with_reducible exact H2_) | with_reducible exact H | (rw [hy468]; exact H) | exact H
                        have Ny468 := Aside0.mk hy468
                        clear hy468
                        have H' := Aside0.mk H
                        clear H
                        have hcz49_0 : wc.cell? ⟨gb462, 0, none⟩ = some (.int .i64 ((rd_T39 l1 x45_2).f0)) := (blk_cell BK462.out 0).trans rfl
                        have hcz49_1 : wc.cell? ⟨gb462, 1, none⟩ = some (.int .i64 ((rd_T39 l1 x45_2).f1)) := (blk_cell BK462.out 1).trans rfl
                        have hcz49_2 : wc.cell? ⟨gb462, 2, none⟩ = some (.int .i64 ((rd_T39 l1 x45_2).f2)) := (blk_cell BK462.out 2).trans rfl
                        have hcz49_3 : wc.cell? ⟨gb462, 3, none⟩ = some (.int .i64 ((rd_T39 l1 x45_2).f3)) := (blk_cell BK462.out 3).trans rfl
                        have hfz49_0 := blk_frozen BK462.out 0
                        have hfz49_1 := blk_frozen BK462.out 1
                        have hfz49_2 := blk_frozen BK462.out 2
                        have hfz49_3 := blk_frozen BK462.out 3
                        have p464 : 0 ≤ (((rd_T39 l1 x45_2).f1) : Int) := of_decide_eq_true (by first | (with_reducible assumption) | assumption)
                        have q464 : ((rd_T39 l1 x45_2).f1) < (x9_2.length : Int) := of_decide_eq_true (by first | (with_reducible assumption) | assumption)
                        obtain ⟨ad464, e464, hx464_0⟩ := Kd.at_int (Kd.R_reads' HO_9.out).2.2 ((rd_T39 l1 x45_2).f1) p464 q464
                        obtain rfl : (⟨go17, 0, none⟩ : Addr) = ad464 := (by injection e464)
                        (first | simp only [add_plain] at hx464_0 | simp only [add_at] at hx464_0 | simp only [Addr.add, Nat.zero_add] at hx464_0 | skip)
                        replace p464 := eq_true p464
                        replace q464 := eq_true q464
                        have p465 : 0 ≤ (x10_1 : Int) := of_decide_eq_true (by first | (with_reducible assumption) | assumption)
                        have q465 : x10_1 < (x9_2.length : Int) := of_decide_eq_true (by first | (with_reducible assumption) | assumption)
                        obtain ⟨ad465, e465, hx465_0⟩ := Kd.at_int (Kd.R_reads' HO_9.out).2.2 x10_1 p465 q465
                        obtain rfl : (⟨go17, 0, none⟩ : Addr) = ad465 := (by injection e465)
                        (first | simp only [add_plain] at hx465_0 | simp only [add_at] at hx465_0 | simp only [Addr.add, Nat.zero_add] at hx465_0 | skip)
                        replace p465 := eq_true p465
                        replace q465 := eq_true q465
                        have p467 : 0 ≤ (x10_1 : Int) := of_decide_eq_true (by first | (with_reducible assumption) | assumption)
                        have q467 : x10_1 < (x9_2.length : Int) := of_decide_eq_true (by first | (with_reducible assumption) | assumption)
                        obtain ⟨ad467, e467, hx467_0⟩ := Kd.at_int (Kd.R_reads' HO_9.out).2.2 x10_1 p467 q467
                        obtain rfl : (⟨go17, 0, none⟩ : Addr) = ad467 := (by injection e467)
                        (first | simp only [add_plain] at hx467_0 | simp only [add_at] at hx467_0 | simp only [Addr.add, Nat.zero_add] at hx467_0 | skip)
                        replace p467 := eq_true p467
                        replace q467 := eq_true q467
                        have p48 : 0 ≤ (x10_1 : Int) := of_decide_eq_true (by first | (with_reducible assumption) | assumption)
                        have q48 : (x10_1 : Int) < ((x9_2.length : Int) : Int) := of_decide_eq_true (by first | (with_reducible assumption) | assumption)
                        obtain ⟨hx48_0, hf48_0⟩ := Kd.R_celln 0 HO_9.out (x10_1 : Int) p48 q48
                        replace p48 := eq_true p48
                        replace q48 := eq_true q48
                        have HP50 := Kd.R_putg HO_9.out (x10_1 : Int) (wrap64 (((rd_T39 l1 x45_2).f2) + (rd x9_2 ((rd_T39 l1 x45_2).f1))))
                        go_wp2_with (first | ((with_reducible refine gate_store (t := 2) (p := 85) rfl ?_); (try (rw [drewN_self wc]; generalize hq_ : World.drewN wc _ = wc; have n0_ := Aside0.mk (Kd.R_at hq_ HO_9.out); have n1_ := Aside0.mk (blk_at hq_ BK462.out); have n2_ := Aside0.mk (below_at hq_ HB.out); clear hq_ HO_9 BK462 HB; have HO_9 := n0_; have BK462 := n1_; have HB := n2_; clear n0_ n1_ n2_; (try (have HP50 := Kd.R_putg HO_9.out (x10_1 : Int) (wrap64 (((rd_T39 l1 x45_2).f2) + (rd x9_2 ((rd_T39 l1 x45_2).f1)))))))); refine store_event (t := 2) (p := 85) (v := ?vo_w51) (w1 := (wc.setCell ⟨go17, (x10_1 : Int).toNat, none⟩ (.int .i64 (wrap64 (((rd_T39 l1 x45_2).f2) + (rd x9_2 ((rd_T39 l1 x45_2).f1))))))) ?hg ?ho ?hn ?hr ?_; (case ho => rfl); (case hg => rfl); (case hn => rfl); (case hr => first | (go_simp; done) | (go_simp; rfl)); intro w51 hw; have hg : wc.grownBy w51 (some go17) := (by rw [hw]; exact HP50.2); have hp_ : Kd.R (Kd.int .i64) 2 w51 w.heap.size (fun _ => True) (.slice (some ⟨go17, 0, none⟩) x9_2.length co17) y468 := (by rw [hw, Ny468.out]; exact HP50.1); clear HP50; have n0_ := Aside0.mk (hp_); have n1_ := Aside0.mk (blk_grown (g := gb462) (o := .cells #[.int .i64 ((rd_T39 l1 x45_2).f0), .int .i64 ((rd_T39 l1 x45_2).f1), .int .i64 ((rd_T39 l1 x45_2).f2), .int .i64 ((rd_T39 l1 x45_2).f3)] 39 (0, 0)) (by (with_reducible repeat (first | refine blk_drewN ?_ _ | refine blk_drew ?_ | refine blk_alloc ?_ _)); exact BK462.out) hg (Kd.R_ne HO_9.out BK462.out (by decide))); have n2_ := Aside0.mk ((by rw [hw]; exact below_set (HB.out) GB17.out : Below w.heap.size w w51)); clear HO_9; clear BK462; clear HB; have HO_9 := n0_; have BK462 := n1_; have HB := n2_; clear n0_ n1_ n2_; clear hg hw hp_))
                        repeat (go_quiet (first | ((with_reducible refine gate_store (t := 2) (p := 85) rfl ?_); (try (rw [drewN_self wc]; generalize hq_ : World.drewN wc _ = wc; have n0_ := Aside0.mk (Kd.R_at hq_ HO_9.out); have n1_ := Aside0.mk (blk_at hq_ BK462.out); have n2_ := Aside0.mk (below_at hq_ HB.out); clear hq_ HO_9 BK462 HB; have HO_9 := n0_; have BK462 := n1_; have HB := n2_; clear n0_ n1_ n2_; (try (have HP50 := Kd.R_putg HO_9.out (x10_1 : Int) (wrap64 (((rd_T39 l1 x45_2).f2) + (rd x9_2 ((rd_T39 l1 x45_2).f1)))))))); refine store_event (t := 2) (p := 85) (v := ?vo_w51) (w1 := (wc.setCell ⟨go17, (x10_1 : Int).toNat, none⟩ (.int .i64 (wrap64 (((rd_T39 l1 x45_2).f2) + (rd x9_2 ((rd_T39 l1 x45_2).f1))))))) ?hg ?ho ?hn ?hr ?_; (case ho => rfl); (case hg => rfl); (case hn => rfl); (case hr => first | (go_simp; done) | (go_simp; rfl)); intro w51 hw; have hg : wc.grownBy w51 (some go17) := (by rw [hw]; exact HP50.2); have hp_ : Kd.R (Kd.int .i64) 2 w51 w.heap.size (fun _ => True) (.slice (some ⟨go17, 0, none⟩) x9_2.length co17) y468 := (by rw [hw, Ny468.out]; exact HP50.1); clear HP50; have n0_ := Aside0.mk (hp_); have n1_ := Aside0.mk (blk_grown (g := gb462) (o := .cells #[.int .i64 ((rd_T39 l1 x45_2).f0), .int .i64 ((rd_T39 l1 x45_2).f1), .int .i64 ((rd_T39 l1 x45_2).f2), .int .i64 ((rd_T39 l1 x45_2).f3)] 39 (0, 0)) (by (with_reducible repeat (first | refine blk_drewN ?_ _ | refine blk_drew ?_ | refine blk_alloc ?_ _)); exact BK462.out) hg (Kd.R_ne HO_9.out BK462.out (by decide))); have n2_ := Aside0.mk ((by rw [hw]; exact below_set (HB.out) GB17.out : Below w.heap.size w w51)); clear HO_9; clear BK462; clear HB; have HO_9 := n0_; have BK462 := n1_; have HB := n2_; clear n0_ n1_ n2_; clear hg hw hp_)); try go_wp2_with (first | ((with_reducible refine gate_store (t := 2) (p := 85) rfl ?_); (try (rw [drewN_self wc]; generalize hq_ : World.drewN wc _ = wc; have n0_ := Aside0.mk (Kd.R_at hq_ HO_9.out); have n1_ := Aside0.mk (blk_at hq_ BK462.out); have n2_ := Aside0.mk (below_at hq_ HB.out); clear hq_ HO_9 BK462 HB; have HO_9 := n0_; have BK462 := n1_; have HB := n2_; clear n0_ n1_ n2_; (try (have HP50 := Kd.R_putg HO_9.out (x10_1 : Int) (wrap64 (((rd_T39 l1 x45_2).f2) + (rd x9_2 ((rd_T39 l1 x45_2).f1)))))))); refine store_event (t := 2) (p := 85) (v := ?vo_w51) (w1 := (wc.setCell ⟨go17, (x10_1 : Int).toNat, none⟩ (.int .i64 (wrap64 (((rd_T39 l1 x45_2).f2) + (rd x9_2 ((rd_T39 l1 x45_2).f1))))))) ?hg ?ho ?hn ?hr ?_; (case ho => rfl); (case hg => rfl); (case hn => rfl); (case hr => first | (go_simp; done) | (go_simp; rfl)); intro w51 hw; have hg : wc.grownBy w51 (some go17) := (by rw [hw]; exact HP50.2); have hp_ : Kd.R (Kd.int .i64) 2 w51 w.heap.size (fun _ => True) (.slice (some ⟨go17, 0, none⟩) x9_2.length co17) y468 := (by rw [hw, Ny468.out]; exact HP50.1); clear HP50; have n0_ := Aside0.mk (hp_); have n1_ := Aside0.mk (blk_grown (g := gb462) (o := .cells #[.int .i64 ((rd_T39 l1 x45_2).f0), .int .i64 ((rd_T39 l1 x45_2).f1), .int .i64 ((rd_T39 l1 x45_2).f2), .int .i64 ((rd_T39 l1 x45_2).f3)] 39 (0, 0)) (by (with_reducible repeat (first | refine blk_drewN ?_ _ | refine blk_drew ?_ | refine blk_alloc ?_ _)); exact BK462.out) hg (Kd.R_ne HO_9.out BK462.out (by decide))); have n2_ := Aside0.mk ((by rw [hw]; exact below_set (HB.out) GB17.out : Below w.heap.size w w51)); clear HO_9; clear BK462; clear HB; have HO_9 := n0_; have BK462 := n1_; have HB := n2_; clear n0_ n1_ n2_; clear hg hw hp_)))
                        (try simp only [← hl9_2])
                        go_roundg kj28
                        case measure => have := HK1.out; have := HK2.out; have := HJ28.out; omega
                        case rel => exact ⟨(y468), (wrap64 (x45_2 + 1)), (by first | rfl | (simp; done) | (simp [*]; done)), H', ⟨by have := HK1.out; have := HK2.out; have := HJ28.out; omega⟩, ⟨by (try simp only [hl9_2]); (with_reducible repeat (first | apply Kd.R_alloc | apply Kd.R_drewN | apply Kd.R_drew)); first | exact HO_9.out | (rw [Ny468.out]; exact (Kd.R_putg (by (with_reducible repeat (first | apply Kd.R_alloc | apply Kd.R_drewN | apply Kd.R_drew)); exact HO_9.out) _ _).1)⟩, ⟨by repeat (first | (with_reducible first | exact HB.out | apply below_alloc | apply pw_below_drewN | apply below_drew1 | refine below_set ?_ GE462.out | refine below_set ?_ GB17.out) | exact HB.out)⟩⟩
                       ·rw [if_neg c47] at H
                        have c47b0 : decide ((wrap64 (((rd_T39 l1 x45_2).f2) + (rd x9_2 ((rd_T39 l1 x45_2).f1)))) < (rd x9_2 x10_1)) = false := decide_eq_false c47
                        clear c47
                        have H' := Aside0.mk H
                        clear H
                        have hcz52_0 : wc.cell? ⟨gb462, 0, none⟩ = some (.int .i64 ((rd_T39 l1 x45_2).f0)) := (blk_cell BK462.out 0).trans rfl
                        have hcz52_1 : wc.cell? ⟨gb462, 1, none⟩ = some (.int .i64 ((rd_T39 l1 x45_2).f1)) := (blk_cell BK462.out 1).trans rfl
                        have hcz52_2 : wc.cell? ⟨gb462, 2, none⟩ = some (.int .i64 ((rd_T39 l1 x45_2).f2)) := (blk_cell BK462.out 2).trans rfl
                        have hcz52_3 : wc.cell? ⟨gb462, 3, none⟩ = some (.int .i64 ((rd_T39 l1 x45_2).f3)) := (blk_cell BK462.out 3).trans rfl
                        have hfz52_0 := blk_frozen BK462.out 0
                        have hfz52_1 := blk_frozen BK462.out 1
                        have hfz52_2 := blk_frozen BK462.out 2
                        have hfz52_3 := blk_frozen BK462.out 3
                        have p464 : 0 ≤ (((rd_T39 l1 x45_2).f1) : Int) := of_decide_eq_true (by first | (with_reducible assumption) | assumption)
                        have q464 : ((rd_T39 l1 x45_2).f1) < (x9_2.length : Int) := of_decide_eq_true (by first | (with_reducible assumption) | assumption)
                        obtain ⟨ad464, e464, hx464_0⟩ := Kd.at_int (Kd.R_reads' HO_9.out).2.2 ((rd_T39 l1 x45_2).f1) p464 q464
                        obtain rfl : (⟨go17, 0, none⟩ : Addr) = ad464 := (by injection e464)
                        (first | simp only [add_plain] at hx464_0 | simp only [add_at] at hx464_0 | simp only [Addr.add, Nat.zero_add] at hx464_0 | skip)
                        replace p464 := eq_true p464
                        replace q464 := eq_true q464
                        have p465 : 0 ≤ (x10_1 : Int) := of_decide_eq_true (by first | (with_reducible assumption) | assumption)
                        have q465 : x10_1 < (x9_2.length : Int) := of_decide_eq_true (by first | (with_reducible assumption) | assumption)
                        obtain ⟨ad465, e465, hx465_0⟩ := Kd.at_int (Kd.R_reads' HO_9.out).2.2 x10_1 p465 q465
                        obtain rfl : (⟨go17, 0, none⟩ : Addr) = ad465 := (by injection e465)
                        (first | simp only [add_plain] at hx465_0 | simp only [add_at] at hx465_0 | simp only [Addr.add, Nat.zero_add] at hx465_0 | skip)
                        replace p465 := eq_true p465
                        replace q465 := eq_true q465
                        have p467 : 0 ≤ (x10_1 : Int) := of_decide_eq_true (by first | (with_reducible assumption) | assumption)
                        have q467 : x10_1 < (x9_2.length : Int) := of_decide_eq_true (by first | (with_reducible assumption) | assumption)
                        obtain ⟨ad467, e467, hx467_0⟩ := Kd.at_int (Kd.R_reads' HO_9.out).2.2 x10_1 p467 q467
                        obtain rfl : (⟨go17, 0, none⟩ : Addr) = ad467 := (by injection e467)
                        (first | simp only [add_plain] at hx467_0 | simp only [add_at] at hx467_0 | simp only [Addr.add, Nat.zero_add] at hx467_0 | skip)
                        replace p467 := eq_true p467
                        replace q467 := eq_true q467
                        go_wp2
                        repeat (go_quiet (fail); try go_wp2)
                        (try simp only [← hl9_2])
                        go_roundg kj28
                        case measure => have := HK1.out; have := HK2.out; have := HJ28.out; omega
                        case rel => exact ⟨(x9_2), (wrap64 (x45_2 + 1)), (by first | rfl | (simp; done) | (simp [*]; done)), H', ⟨by have := HK1.out; have := HK2.out; have := HJ28.out; omega⟩, ⟨by (try simp only [hl9_2]); (with_reducible repeat (first | apply Kd.R_alloc | apply Kd.R_drewN | apply Kd.R_drew)); exact HO_9.out⟩, ⟨by repeat (first | (with_reducible first | exact HB.out | apply below_alloc | apply pw_below_drewN | apply below_drew1 | refine below_set ?_ GE462.out) | exact HB.out)⟩⟩
                     ·rw [if_neg c41] at H
                      exact absurd H (by simp)
                    ·rw [if_neg c40] at H
                     exact absurd H (by simp)
                   ·rw [if_neg c39] at H
                    exact absurd H (by simp)
                  ·rw [if_neg c38] at H
                   exact absurd H (by simp)
                 ·replace c37 := Bool.eq_false_iff.mpr c37
                  subst c37
                  have H1 : (impl_FastestWay.l1 kj28 l1 a2 x9_2 x10_1 l1 (l1.length : Int) (wrap64 (x45_2 + 1))) = some (r1, r2) := by rw [if_neg (show ¬ (false = true) by decide)] at H; exact H
                  clear H
                  have H := H1
                  clear H1
                  have H' := Aside0.mk H
                  clear H
                  go_wp2
                  repeat (go_quiet (fail); try go_wp2)
                  (try simp only [← hl9_2])
                  go_roundg kj28
                  case measure => have := HK1.out; have := HK2.out; have := HJ28.out; omega
                  case rel => exact ⟨(x9_2), (wrap64 (x45_2 + 1)), (by first | rfl | (simp; done) | (simp [*]; done)), H', ⟨by have := HK1.out; have := HK2.out; have := HJ28.out; omega⟩, ⟨by (try simp only [hl9_2]); (with_reducible repeat (first | apply Kd.R_alloc | apply Kd.R_drewN | apply Kd.R_drew)); exact HO_9.out⟩, ⟨by repeat (first | (with_reducible first | exact HB.out | apply below_alloc | apply pw_below_drewN | apply below_drew1 | refine below_set ?_ GE462.out) | exact HB.out)⟩⟩
              ·rw [if_neg c28] at H
               exact absurd H (by simp)
             ·rw [if_neg c27] at H
              exact absurd H (by simp)
            ·rw [if_neg c26] at H
             have c26b0 : decide (x45_2 < (l1.length : Int)) = false := decide_eq_false c26
             clear c26
             have H' := Aside0.mk H
             clear H
             go_wp2
             repeat (go_quiet (fail); try go_wp2)
             (try simp only [← hl9_2])
             go_roundg k2
             case measure => have := HK1.out; have := HK2.out; omega
             case rel => exact ⟨(x9_2), (wrap64 (x10_1 - 1)), (by first | rfl | (simp; done) | (simp [*]; done)), H', ⟨by have := HK1.out; have := HK2.out; omega⟩, ⟨by (try simp only [hl9_2]); (with_reducible repeat (first | apply Kd.R_alloc | apply Kd.R_drewN | apply Kd.R_drew)); exact HO_9.out⟩, ⟨by repeat (first | (with_reducible first | exact HB.out | apply below_alloc | apply pw_below_drewN | apply below_drew1) | exact HB.out)⟩⟩
        ·rw [if_neg c16] at H
         exact absurd H (by simp)
       ·rw [if_neg c15] at H
        exact absurd H (by simp)
      ·rw [if_neg c14] at H
       have c14b0 : decide (0 ≤ x10_1) = false := decide_eq_false c14
       clear c14
       have H' := Aside0.mk H
       clear H
       go_wp2
       repeat (go_quiet (fail); try go_wp2)
       go_loopg [14, 15] k1 (fun kq v14 v15 w' => ∃ (x14_2 : List Int) (x15_2 : Int), v15 = .int .i64 x15_2 ∧ Aside0 (impl_FastestWay.l2 kq l1 a2 x9_1 x14_2 x15_2 = some (r1, r2)) ∧ Aside0 (kq ≤ k1) ∧ Aside0 (Kd.R (Kd.int .i64) 2 w' w.heap.size (fun k_ => some k_ ≠ (v14 : Value).ownBlock) v457 x9_1) ∧ Aside0 (Kd.R (Kd.int .i64) 2 w' w.heap.size (fun k_ => some k_ ≠ (v457 : Value).ownBlock) v14 x14_2) ∧ Aside0 (Below w.heap.size w w'))
       case atStart => exact ⟨(([] : List Int)), (0), (by first | rfl | (simp; done) | (simp [*]; done)), H', ⟨Nat.le_refl _⟩, ⟨by (with_reducible repeat (first | apply Kd.R_alloc | apply Kd.R_drewN | apply Kd.R_drew)); exact Kd.R_mono HO_9.out (fun _ hk => (by simp [Value.ownBlock]))⟩, ⟨by first | exact Kd.R_nil _ _ _ _ _ | exact Kd.N_nil _ _ _ _ _ | exact Kd.V_nil _ _ _ _ _ | exact Kd.Q_nil _ _ _ _ _ | exact Kd.S_nil _ _ _ _ _⟩, ⟨by repeat (first | (with_reducible first | exact HB.out | apply below_alloc | apply pw_below_drewN | apply below_drew1) | exact HB.out)⟩⟩
       case round =>
        clear H'
        try clear c1
        try clear p1
        try clear q1
        try clear hx1
        try clear c2
        try clear p2
        try clear c3
        try clear c4
        try clear p4
        try clear q4
        try clear hx4
        try clear hf4
        try clear c5
        try clear c5b0
        try clear c5b1
        try clear c6
        try clear c6b0
        try clear c6b1
        try clear p6
        try clear c7
        try clear c7b0
        try clear c7b1
        try clear c14
        try clear c14b0
        try clear c15
        try clear c15b0
        try clear c16
        try clear c16b0
        try clear p17
        try clear q17
        try clear hx17
        try clear hf17
        try clear c18
        try clear c18b0
        try clear c18b1
        try clear p19
        try clear q19
        try clear hx19
        try clear hf19
        try clear c26
        try clear c26b0
        try clear c27
        try clear c27b0
        try clear c28
        try clear c28b0
        try clear c32
        try clear c32b0
        try clear c32b1
        try clear c33
        try clear c33b0
        try clear c34
        try clear c34b0
        try clear c37
        try clear c38
        try clear c38b0
        try clear c39
        try clear c39b0
        try clear c40
        try clear c40b0
        try clear c41
        try clear c41b0
        try clear c42
        try clear c42b0
        try clear p43
        try clear q43
        try clear hx43
        try clear hf43
        try clear p46
        try clear q46
        try clear hx46
        try clear c47
        try clear c47b0
        try clear p48
        try clear q48
        try clear hx48
        try clear hf48
        try clear hcz31_0
        try clear hcz31_1
        try clear hcz31_2
        try clear hcz31_3
        try clear hcz35_0
        try clear hcz35_1
        try clear hcz35_2
        try clear hcz35_3
        try clear hcz36_0
        try clear hcz36_1
        try clear hcz36_2
        try clear hcz36_3
        try clear hcz44_0
        try clear hcz44_1
        try clear hcz44_2
        try clear hcz44_3
        try clear hcz49_0
        try clear hcz49_1
        try clear hcz49_2
        try clear hcz49_3
        try clear hcz52_0
        try clear hcz52_1
        try clear hcz52_2
        try clear hcz52_3
        try clear hfz31_0
        try clear hfz31_1
        try clear hfz31_2
        try clear hfz31_3
        try clear hfz35_0
        try clear hfz35_1
        try clear hfz35_2
        try clear hfz35_3
        try clear hfz36_0
        try clear hfz36_1
        try clear hfz36_2
        try clear hfz36_3
        try clear hfz44_0
        try clear hfz44_1
        try clear hfz44_2
        try clear hfz44_3
        try clear hfz49_0
        try clear hfz49_1
        try clear hfz49_2
        try clear hfz49_3
        try clear hfz52_0
        try clear hfz52_1
        try clear hfz52_2
        try clear hfz52_3
        try clear hx17_0
        try clear hx19_0
        try clear hx43_0
        try clear hx461_0
        try clear hx461_1
        try clear hx461_2
        try clear hx461_3
        try clear hx463_0
        try clear hx464_0
        try clear hx465_0
        try clear hx467_0
        try clear hx48_0
        try clear p1
        try clear p17
        try clear p19
        try clear p2
        try clear p4
        try clear p43
        try clear p461
        try clear p463
        try clear p464
        try clear p465
        try clear p467
        try clear p48
        try clear p6
        try clear q1
        try clear q17
        try clear q19
        try clear q4
        try clear q43
        try clear q461
        try clear q463
        try clear q464
        try clear q465
        try clear q467
        try clear q48
        obtain ⟨x14_2, x15_2, rfl, HA, HK2, HO_9, HO_14, HB⟩ := hrel
        cases gk with
        | zero => exact absurd HA.out (by simp [impl_FastestWay.l2])
        | succ k2 =>
         have H := HA.out
         clear HA
         simp only [impl_FastestWay.l2] at H
         by_cases c53 : x15_2 = a2
         ·rw [if_pos c53] at H
          have c53b0 : (x15_2 == a2) = true := beq_iff_eq.mpr c53
          have c53b1 : (x15_2 != a2) = false := bne_eq_false_iff_eq.mpr c53
          clear c53
          simp only [Option.some.injEq, Prod.mk.injEq] at H
          obtain ⟨rfl, rfl⟩ := H
          go_wp2
          repeat (go_quiet (fail); try go_wp2)
          go_ret2
          exact ⟨_, by first | rfl | (simp [errW_none, errW_some] <;> rfl) | (simp [*, errW_none, errW_some] <;> rfl), by (with_reducible repeat (first | apply Kd.R_alloc | apply Kd.R_drewN | apply Kd.R_drew)); exact Kd.R_mono HO_14.out (fun _ hk => trivial), by repeat (first | (with_reducible first | exact HB.out | apply below_alloc | apply pw_below_drewN | apply below_drew1) | exact HB.out)⟩
         ·rw [if_neg c53] at H
          have c53b0 : (x15_2 == a2) = false := beq_eq_false_iff_ne.mpr c53
          have c53b1 : (x15_2 != a2) = true := bne_iff_ne.mpr c53
          have H' := Aside0.mk H
          clear H
          go_wp2
          repeat (go_quiet (fail); try go_wp2)
          go_loopg [14, 15, 92] k2 (fun kq v14 v15 v92 w' => ∃ (x14_3 : List Int) (x15_3 : Int) (x92_3 : Int), v15 = .int .i64 x15_3 ∧ v92 = .int .i64 x92_3 ∧ Aside0 (impl_FastestWay.l3 kq l1 a2 x9_1 x14_3 x15_3 l1 (l1.length : Int) x92_3 = some (r1, r2)) ∧ Aside0 (kq ≤ k2) ∧ Aside0 (Kd.R (Kd.int .i64) 2 w' w.heap.size (fun k_ => some k_ ≠ (v14 : Value).ownBlock) v457 x9_1) ∧ Aside0 (Kd.R (Kd.int .i64) 2 w' w.heap.size (fun k_ => some k_ ≠ (v457 : Value).ownBlock) v14 x14_3) ∧ Aside0 (Below w.heap.size w w'))
          case atStart => exact ⟨(x14_2), (x15_2), (0), (by first | rfl | (simp; done) | (simp [*]; done)), (by first | rfl | (simp; done) | (simp [*]; done)), H', ⟨Nat.le_refl _⟩, ⟨by (with_reducible repeat (first | apply Kd.R_alloc | apply Kd.R_drewN | apply Kd.R_drew)); exact HO_9.out⟩, ⟨by (with_reducible repeat (first | apply Kd.R_alloc | apply Kd.R_drewN | apply Kd.R_drew)); exact HO_14.out⟩, ⟨by repeat (first | (with_reducible first | exact HB.out | apply below_alloc | apply pw_below_drewN | apply below_drew1) | exact HB.out)⟩⟩
          case round =>
           clear H'
           try clear c1
           try clear p1
           try clear q1
           try clear hx1
           try clear c2
           try clear p2
           try clear c3
           try clear c4
           try clear p4
           try clear q4
           try clear hx4
           try clear hf4
           try clear c5
           try clear c5b0
           try clear c5b1
           try clear c6
           try clear c6b0
           try clear c6b1
           try clear p6
           try clear c7
           try clear c7b0
           try clear c7b1
           try clear c14
           try clear c14b0
           try clear c15
           try clear c15b0
           try clear c16
           try clear c16b0
           try clear p17
           try clear q17
           try clear hx17
           try clear hf17
           try clear c18
           try clear c18b0
           try clear c18b1
           try clear p19
           try clear q19
           try clear hx19
           try clear hf19
           try clear c26
           try clear c26b0
           try clear c27
           try clear c27b0
           try clear c28
           try clear c28b0
           try clear c32
           try clear c32b0
           try clear c32b1
           try clear c33
           try clear c33b0
           try clear c34
           try clear c34b0
           try clear c37
           try clear c38
           try clear c38b0
           try clear c39
           try clear c39b0
           try clear c40
           try clear c40b0
           try clear c41
           try clear c41b0
           try clear c42
           try clear c42b0
           try clear p43
           try clear q43
           try clear hx43
           try clear hf43
           try clear p46
           try clear q46
           try clear hx46
           try clear c47
           try clear c47b0
           try clear p48
           try clear q48
           try clear hx48
           try clear hf48
           try clear c53
           try clear c53b0
           try clear c53b1
           try clear hcz31_0
           try clear hcz31_1
           try clear hcz31_2
           try clear hcz31_3
           try clear hcz35_0
           try clear hcz35_1
           try clear hcz35_2
           try clear hcz35_3
           try clear hcz36_0
           try clear hcz36_1
           try clear hcz36_2
           try clear hcz36_3
           try clear hcz44_0
           try clear hcz44_1
           try clear hcz44_2
           try clear hcz44_3
           try clear hcz49_0
           try clear hcz49_1
           try clear hcz49_2
           try clear hcz49_3
           try clear hcz52_0
           try clear hcz52_1
           try clear hcz52_2
           try clear hcz52_3
           try clear hfz31_0
           try clear hfz31_1
           try clear hfz31_2
           try clear hfz31_3
           try clear hfz35_0
           try clear hfz35_1
           try clear hfz35_2
           try clear hfz35_3
           try clear hfz36_0
           try clear hfz36_1
           try clear hfz36_2
           try clear hfz36_3
           try clear hfz44_0
           try clear hfz44_1
           try clear hfz44_2
           try clear hfz44_3
           try clear hfz49_0
           try clear hfz49_1
           try clear hfz49_2
           try clear hfz49_3
           try clear hfz52_0
           try clear hfz52_1
           try clear hfz52_2
           try clear hfz52_3
           try clear hx17_0
           try clear hx19_0
           try clear hx43_0
           try clear hx461_0
           try clear hx461_1
           try clear hx461_2
           try clear hx461_3
           try clear hx463_0
           try clear hx464_0
           try clear hx465_0
           try clear hx467_0
           try clear hx48_0
           try clear p1
           try clear p17
           try clear p19
           try clear p2
           try clear p4
           try clear p43
           try clear p46
           try clear p461
           try clear p463
           try clear p464
           try clear p465
           try clear p467
           try clear p48
           try clear p6
           try clear q1
           try clear q17
           try clear q19
           try clear q4
           try clear q43
           try clear q46
           try clear q461
           try clear q463
           try clear q464
           try clear q465
           try clear q467
           try clear q48
           obtain ⟨x14_3, x15_3, x92_3, rfl, rfl, HA, HK3, HO_9, HO_14, HB⟩ := hrel
           cases gk with
           | zero => exact absurd HA.out (by simp [impl_FastestWay.l3])
           | succ k3 =>
            have H := HA.out
            clear HA
            simp only [impl_FastestWay.l3] at H
            by_cases c54 : x92_3 < (l1.length : Int)
            ·rw [if_pos c54] at H
             have c54b0 : decide (x92_3 < (l1.length : Int)) = true := decide_eq_true c54
             clear c54
             by_cases c55 : 0 ≤ x92_3
             ·rw [if_pos c55] at H
              have c55b0 : decide (0 ≤ x92_3) = true := decide_eq_true c55
              clear c55
              by_cases c56 : x92_3 < (l1.length : Int)
              ·rw [if_pos c56] at H
               have c56b0 : decide (x92_3 < (l1.length : Int)) = true := decide_eq_true c56
               clear c56
               by_cases c57 : ((rd_T39 l1 x92_3).f0) = x15_3
               ·rw [if_pos c57] at H
                have c57b0 : (((rd_T39 l1 x92_3).f0) == x15_3) = true := beq_iff_eq.mpr c57
                have c57b1 : (((rd_T39 l1 x92_3).f0) != x15_3) = false := bne_eq_false_iff_eq.mpr c57
                clear c57
                by_cases c58 : 0 ≤ ((rd_T39 l1 x92_3).f1)
                ·rw [if_pos c58] at H
                 have c58b0 : decide (0 ≤ ((rd_T39 l1 x92_3).f1)) = true := decide_eq_true c58
                 clear c58
                 by_cases c59 : ((rd_T39 l1 x92_3).f1) < (x9_1.length : Int)
                 ·rw [if_pos c59] at H
                  have c59b0 : decide (((rd_T39 l1 x92_3).f1) < (x9_1.length : Int)) = true := decide_eq_true c59
                  clear c59
                  by_cases c60 : (rd x9_1 ((rd_T39 l1 x92_3).f1)) ≥ 0
                  ·rw [if_pos c60] at H
                   have c60b0 : decide (0 ≤ (rd x9_1 ((rd_T39 l1 x92_3).f1))) = true := decide_eq_true c60
                   clear c60
                   by_cases c61 : 0 ≤ x15_3
                   ·rw [if_pos c61] at H
                    have c61b0 : decide (0 ≤ x15_3) = true := decide_eq_true c61
                    clear c61
                    by_cases c62 : x15_3 < (x9_1.length : Int)
                    ·rw [if_pos c62] at H
                     have c62b0 : decide (x15_3 < (x9_1.length : Int)) = true := decide_eq_true c62
                     clear c62
                     by_cases c63 : (wrap64 (((rd_T39 l1 x92_3).f2) + (rd x9_1 ((rd_T39 l1 x92_3).f1)))) = (rd x9_1 x15_3)
                     ·rw [if_pos c63] at H
                      have c63b0 : ((wrap64 (((rd_T39 l1 x92_3).f2) + (rd x9_1 ((rd_T39 l1 x92_3).f1)))) == (rd x9_1 x15_3)) = true := beq_iff_eq.mpr c63
                      have c63b1 : ((wrap64 (((rd_T39 l1 x92_3).f2) + (rd x9_1 ((rd_T39 l1 x92_3).f1)))) != (rd x9_1 x15_3)) = false := bne_eq_false_iff_eq.mpr c63
                      clear c63
                      by_cases c64 : x14_3.length < 17592186044416
                      ·rw [if_pos c64] at H
                       have LMc64 := Aside0.mk c64
                       clear c64
                       obtain ⟨y474, hy474⟩ : ∃ y_ : List Int, y_ = (x14_3 ++ [x92_3]) := ⟨_, rfl⟩
                       replace H : (impl_FastestWay.l2 k3 l1 a2 x9_1 y474 ((rd_T39 l1 x92_3).f1)) = some (r1, r2) := by first | (rw [hy474]; with_reducible exact H) | (have H2_ := (Option.bind_some _ _).symm.trans H; rw [hy474]; with_reducible exact H2_) | (have H2_ := (Option.bind_some _ _).symm.trans H; with_reducible exact H2_) | with_reducible exact H | (rw [hy474]; exact H) | exact H
                       have Ny474 := Aside0.mk hy474
                       clear hy474
                       have H' := Aside0.mk H
                       clear H
                       have p469 : 0 ≤ (x92_3 : Int) := of_decide_eq_true (by first | (with_reducible assumption) | assumption)
                       have q469 : x92_3 < (l1.length : Int) := of_decide_eq_true (by first | (with_reducible assumption) | assumption)
                       obtain ⟨ad469, e469, hx469_0, hx469_1, hx469_2, hx469_3⟩ := at_T39 HR1.out x92_3 p469 q469
                       cases e469
                       replace hx469_0 := (HB.out.cell (World.block_lt_of_cell? w _ hx469_0)).trans hx469_0
                       replace hx469_1 := (HB.out.cell (World.block_lt_of_cell? w _ hx469_1)).trans hx469_1
                       replace hx469_2 := (HB.out.cell (World.block_lt_of_cell? w _ hx469_2)).trans hx469_2
                       replace hx469_3 := (HB.out.cell (World.block_lt_of_cell? w _ hx469_3)).trans hx469_3
                       replace p469 := eq_true p469
                       replace q469 := eq_true q469
                       go_wp2_with (first | ((with_reducible refine gate_dst (N := 17) rfl ?_); refine box_event ?hg (N := 17) ?hd (cs := #[.int .i64 0, .int .i64 0, .int .i64 0, .int .i64 0]) (t := 39) ?hr ?_; (case hd => rfl); (case hg => rfl); (case hr => first | (go_simp; done) | (go_simp; rfl)); intro gb470 hg w65 hbox hb; have n0_ := Aside0.mk (Kd.R_below (by (with_reducible repeat (first | apply Kd.R_alloc | apply Kd.R_drewN | apply Kd.R_drew)); exact HO_9.out) hb); have n1_ := Aside0.mk (Kd.R_below (by (with_reducible repeat (first | apply Kd.R_alloc | apply Kd.R_drewN | apply Kd.R_drew)); exact HO_14.out) hb); have n2_ := Aside0.mk (below_step (by repeat (first | (with_reducible first | exact HB.out | apply below_alloc | apply pw_below_drewN | apply below_drew1) | exact HB.out)) hb); have n3_ := Aside0.mk (hbox); have n4_ := Aside0.mk ((by rw [hg]; exact (below_size (by repeat (first | (with_reducible first | exact HB.out | apply below_alloc | apply pw_below_drewN | apply below_drew1) | exact HB.out))) : w.heap.size ≤ gb470)); have n5_ := Aside0.mk ((by rw [hg]; exact (below_size (by repeat (first | (with_reducible first | exact HB.out | apply below_alloc | apply pw_below_drewN | apply below_drew1) | exact HB.out))) : w.heap.size ≤ gb470)); clear HO_9; clear HO_14; clear HB; have HO_9 := n0_; have HO_14 := n1_; have HB := n2_; have BK470 := n3_; have GW470 := n4_; have GE470 := n5_; clear n0_ n1_ n2_ n3_ n4_ n5_; clear hb hbox hg; have hcz66_0 : w65.cell? ⟨gb470, 0, none⟩ = some (.int .i64 0) := (blk_cell BK470.out 0).trans rfl; have hcz66_1 : w65.cell? ⟨gb470, 1, none⟩ = some (.int .i64 0) := (blk_cell BK470.out 1).trans rfl; have hcz66_2 : w65.cell? ⟨gb470, 2, none⟩ = some (.int .i64 0) := (blk_cell BK470.out 2).trans rfl; have hcz66_3 : w65.cell? ⟨gb470, 3, none⟩ = some (.int .i64 0) := (blk_cell BK470.out 3).trans rfl; have hfz66_0 := blk_frozen BK470.out 0; have hfz66_1 := blk_frozen BK470.out 1; have hfz66_2 := blk_frozen BK470.out 2; have hfz66_3 := blk_frozen BK470.out 3; obtain ⟨Ao67, co67, eo67⟩ := Kd.R_slice HO_9.out; subst eo67; have p471 : 0 ≤ (((rd_T39 l1 x92_3).f1) : Int) := of_decide_eq_true (by first | (with_reducible assumption) | assumption); have q471 : ((rd_T39 l1 x92_3).f1) < (x9_1.length : Int) := of_decide_eq_true (by first | (with_reducible assumption) | assumption); obtain ⟨ad471, e471, hx471_0⟩ := Kd.at_int (Kd.R_reads' HO_9.out).2.2 ((rd_T39 l1 x92_3).f1) p471 q471; cases e471; have hn471_0 : ad471.block ≠ gb470 := Kd.own_blk (Kd.R_ne HO_9.out BK470.out (by decide)); have hn471_1 : ad471.block ≠ gb470 := Kd.own_blk (Kd.R_ne HO_9.out BK470.out (by decide)); have hn471_2 : ad471.block ≠ gb470 := Kd.own_blk (Kd.R_ne HO_9.out BK470.out (by decide)); have hn471_3 : ad471.block ≠ gb470 := Kd.own_blk (Kd.R_ne HO_9.out BK470.out (by decide)); replace hx471_0 := (cell_far (p := ⟨gb470, 0, none⟩) (by first | (rw [add_block]; exact hn471_0) | (show (Addr.add _ _).block ≠ _; rw [add_block]; exact hn471_0) | exact hn471_0) (.int .i64 ((rd_T39 l1 x92_3).f0))).trans hx471_0; replace hx471_0 := (cell_far (p := ⟨gb470, 1, none⟩) (by first | (rw [add_block]; exact hn471_1) | (show (Addr.add _ _).block ≠ _; rw [add_block]; exact hn471_1) | exact hn471_1) (.int .i64 ((rd_T39 l1 x92_3).f1))).trans hx471_0; replace hx471_0 := (cell_far (p := ⟨gb470, 2, none⟩) (by first | (rw [add_block]; exact hn471_2) | (show (Addr.add _ _).block ≠ _; rw [add_block]; exact hn471_2) | exact hn471_2) (.int .i64 ((rd_T39 l1 x92_3).f2))).trans hx471_0; replace hx471_0 := (cell_far (p := ⟨gb470, 3, none⟩) (by first | (rw [add_block]; exact hn471_3) | (show (Addr.add _ _).block ≠ _; rw [add_block]; exact hn471_3) | exact hn471_3) (.int .i64 ((rd_T39 l1 x92_3).f3))).trans hx471_0; (try have hy471_0 := fun (n_ : Nat) => (show ((((((w65.drewN n_).setCell ⟨gb470, 0, none⟩ (.int .i64 ((rd_T39 l1 x92_3).f0))).setCell ⟨gb470, 1, none⟩ (.int .i64 ((rd_T39 l1 x92_3).f1))).setCell ⟨gb470, 2, none⟩ (.int .i64 ((rd_T39 l1 x92_3).f2))).setCell ⟨gb470, 3, none⟩ (.int .i64 ((rd_T39 l1 x92_3).f3)))).cell? _ = some _ from hx471_0)); clear hn471_0; clear hn471_1; clear hn471_2; clear hn471_3; replace p471 := eq_true p471; replace q471 := eq_true q471; have p472 : 0 ≤ (((rd_T39 l1 x92_3).f1) : Int) := of_decide_eq_true (by first | (with_reducible assumption) | assumption); have q472 : ((rd_T39 l1 x92_3).f1) < (x9_1.length : Int) := of_decide_eq_true (by first | (with_reducible assumption) | assumption); obtain ⟨ad472, e472, hx472_0⟩ := Kd.at_int (Kd.R_reads' HO_9.out).2.2 ((rd_T39 l1 x92_3).f1) p472 q472; obtain rfl : ad471 = ad472 := (by injection e472); have hn472_0 : ad471.block ≠ gb470 := Kd.own_blk (Kd.R_ne HO_9.out BK470.out (by decide)); have hn472_1 : ad471.block ≠ gb470 := Kd.own_blk (Kd.R_ne HO_9.out BK470.out (by decide)); have hn472_2 : ad471.block ≠ gb470 := Kd.own_blk (Kd.R_ne HO_9.out BK470.out (by decide)); have hn472_3 : ad471.block ≠ gb470 := Kd.own_blk (Kd.R_ne HO_9.out BK470.out (by decide)); replace hx472_0 := (cell_far (p := ⟨gb470, 0, none⟩) (by first | (rw [add_block]; exact hn472_0) | (show (Addr.add _ _).block ≠ _; rw [add_block]; exact hn472_0) | exact hn472_0) (.int .i64 ((rd_T39 l1 x92_3).f0))).trans hx472_0; replace hx472_0 := (cell_far (p := ⟨gb470, 1, none⟩) (by first | (rw [add_block]; exact hn472_1) | (show (Addr.add _ _).block ≠ _; rw [add_block]; exact hn472_1) | exact hn472_1) (.int .i64 ((rd_T39 l1 x92_3).f1))).trans hx472_0; replace hx472_0 := (cell_far (p := ⟨gb470, 2, none⟩) (by first | (rw [add_block]; exact hn472_2) | (show (Addr.add _ _).block ≠ _; rw [add_block]; exact hn472_2) | exact hn472_2) (.int .i64 ((rd_T39 l1 x92_3).f2))).trans hx472_0; replace hx472_0 := (cell_far (p := ⟨gb470, 3, none⟩) (by first | (rw [add_block]; exact hn472_3) | (show (Addr.add _ _).block ≠ _; rw [add_block]; exact hn472_3) | exact hn472_3) (.int .i64 ((rd_T39 l1 x92_3).f3))).trans hx472_0; (try have hy472_0 := fun (n_ : Nat) => (show ((((((w65.drewN n_).setCell ⟨gb470, 0, none⟩ (.int .i64 ((rd_T39 l1 x92_3).f0))).setCell ⟨gb470, 1, none⟩ (.int .i64 ((rd_T39 l1 x92_3).f1))).setCell ⟨gb470, 2, none⟩ (.int .i64 ((rd_T39 l1 x92_3).f2))).setCell ⟨gb470, 3, none⟩ (.int .i64 ((rd_T39 l1 x92_3).f3)))).cell? _ = some _ from hx472_0)); clear hn472_0; clear hn472_1; clear hn472_2; clear hn472_3; replace p472 := eq_true p472; replace q472 := eq_true q472; have p473 : 0 ≤ (x15_3 : Int) := of_decide_eq_true (by first | (with_reducible assumption) | assumption); have q473 : x15_3 < (x9_1.length : Int) := of_decide_eq_true (by first | (with_reducible assumption) | assumption); obtain ⟨ad473, e473, hx473_0⟩ := Kd.at_int (Kd.R_reads' HO_9.out).2.2 x15_3 p473 q473; obtain rfl : ad471 = ad473 := (by injection e473); have hn473_0 : ad471.block ≠ gb470 := Kd.own_blk (Kd.R_ne HO_9.out BK470.out (by decide)); have hn473_1 : ad471.block ≠ gb470 := Kd.own_blk (Kd.R_ne HO_9.out BK470.out (by decide)); have hn473_2 : ad471.block ≠ gb470 := Kd.own_blk (Kd.R_ne HO_9.out BK470.out (by decide)); have hn473_3 : ad471.block ≠ gb470 := Kd.own_blk (Kd.R_ne HO_9.out BK470.out (by decide)); replace hx473_0 := (cell_far (p := ⟨gb470, 0, none⟩) (by first | (rw [add_block]; exact hn473_0) | (show (Addr.add _ _).block ≠ _; rw [add_block]; exact hn473_0) | exact hn473_0) (.int .i64 ((rd_T39 l1 x92_3).f0))).trans hx473_0; replace hx473_0 := (cell_far (p := ⟨gb470, 1, none⟩) (by first | (rw [add_block]; exact hn473_1) | (show (Addr.add _ _).block ≠ _; rw [add_block]; exact hn473_1) | exact hn473_1) (.int .i64 ((rd_T39 l1 x92_3).f1))).trans hx473_0; replace hx473_0 := (cell_far (p := ⟨gb470, 2, none⟩) (by first | (rw [add_block]; exact hn473_2) | (show (Addr.add _ _).block ≠ _; rw [add_block]; exact hn473_2) | exact hn473_2) (.int .i64 ((rd_T39 l1 x92_3).f2))).trans hx473_0; replace hx473_0 := (cell_far (p := ⟨gb470, 3, none⟩) (by first | (rw [add_block]; exact hn473_3) | (show (Addr.add _ _).block ≠ _; rw [add_block]; exact hn473_3) | exact hn473_3) (.int .i64 ((rd_T39 l1 x92_3).f3))).trans hx473_0; (try have hy473_0 := fun (n_ : Nat) => (show ((((((w65.drewN n_).setCell ⟨gb470, 0, none⟩ (.int .i64 ((rd_T39 l1 x92_3).f0))).setCell ⟨gb470, 1, none⟩ (.int .i64 ((rd_T39 l1 x92_3).f1))).setCell ⟨gb470, 2, none⟩ (.int .i64 ((rd_T39 l1 x92_3).f2))).setCell ⟨gb470, 3, none⟩ (.int .i64 ((rd_T39 l1 x92_3).f3)))).cell? _ = some _ from hx473_0)); clear hn473_0; clear hn473_1; clear hn473_2; clear hn473_3; replace p473 := eq_true p473; replace q473 := eq_true q473) | ((with_reducible refine gate_builtin (b := .append) (xs := #[.tmp 124, .tmp 126]) rfl ?_); at_builtin; refine Kd.R_append (Kd.int .i64) (w0 := w) w.heap.size rfl (.tmp 124) (.tmp 126) 27 2 (.int .i64 0) 8 rfl Try.underlying27 info2 rfl (by decide) (by omega) u14 x14_3 x92_3 [.int .i64 x92_3] (fun k_ => some k_ ≠ (.slice (some ad471) x9_1.length co67 : Value).ownBlock) (fun _ => False) rfl (by first | (go_simp; done) | (go_simp; rfl)) ?aP (fun _ hk => hk.elim) ?aF ?aO ?aB ?aS ?aL ?_; (case aP => exact rfl); (case aB => exact (by repeat (first | (with_reducible first | exact HB.out | apply below_alloc | apply pw_below_drewN | apply below_drew1 | refine below_set ?_ GE470.out) | exact HB.out))); (case aF => exact (fun k_ hk => Kd.fresh' (Kd.R_lt (by (with_reducible repeat (first | apply Kd.R_alloc | apply Kd.R_drewN | apply Kd.R_drew)); exact (Kd.R_mono (Kd.R_far (p := ⟨gb470, 3, none⟩) (Kd.R_far (p := ⟨gb470, 2, none⟩) (Kd.R_far (p := ⟨gb470, 1, none⟩) (Kd.R_far (p := ⟨gb470, 0, none⟩) (Kd.R_types HO_9.out BK470.out (by decide)) (fun _ hk => hk.2) (.int .i64 ((rd_T39 l1 x92_3).f0))) (fun _ hk => hk.2) (.int .i64 ((rd_T39 l1 x92_3).f1))) (fun _ hk => hk.2) (.int .i64 ((rd_T39 l1 x92_3).f2))) (fun _ hk => hk.2) (.int .i64 ((rd_T39 l1 x92_3).f3))) (fun _ h_ => h_.1)))) k_ hk)); (case aO => exact (by (with_reducible repeat (first | apply Kd.R_alloc | apply Kd.R_drewN | apply Kd.R_drew)); exact Kd.R_mono (Kd.R_far (p := ⟨gb470, 3, none⟩) (Kd.R_far (p := ⟨gb470, 2, none⟩) (Kd.R_far (p := ⟨gb470, 1, none⟩) (Kd.R_far (p := ⟨gb470, 0, none⟩) (Kd.R_types HO_14.out BK470.out (by decide)) (fun _ hk => hk.2) (.int .i64 ((rd_T39 l1 x92_3).f0))) (fun _ hk => hk.2) (.int .i64 ((rd_T39 l1 x92_3).f1))) (fun _ hk => hk.2) (.int .i64 ((rd_T39 l1 x92_3).f2))) (fun _ hk => hk.2) (.int .i64 ((rd_T39 l1 x92_3).f3))) (fun _ hk => hk.1))); (case aS => exact (below_size (by repeat (first | (with_reducible first | exact HB.out | apply below_alloc | apply pw_below_drewN | apply below_drew1 | refine below_set ?_ GE470.out) | exact HB.out)))); (case aL => have := LMc64.out; omega); intro v475 w68 ho hb hg hat; rw [← Ny474.out] at ho; have n0_ := Aside0.mk (Kd.R_after (ok := (fun _ => True)) (by (with_reducible repeat (first | apply Kd.R_alloc | apply Kd.R_drewN | apply Kd.R_drew)); exact Kd.R_mono (Kd.R_far (p := ⟨gb470, 3, none⟩) (Kd.R_far (p := ⟨gb470, 2, none⟩) (Kd.R_far (p := ⟨gb470, 1, none⟩) (Kd.R_far (p := ⟨gb470, 0, none⟩) (Kd.R_types HO_9.out BK470.out (by decide)) (fun _ hk => hk.2) (.int .i64 ((rd_T39 l1 x92_3).f0))) (fun _ hk => hk.2) (.int .i64 ((rd_T39 l1 x92_3).f1))) (fun _ hk => hk.2) (.int .i64 ((rd_T39 l1 x92_3).f2))) (fun _ hk => hk.2) (.int .i64 ((rd_T39 l1 x92_3).f3))) (fun _ hk => ⟨trivial, hk.1⟩)) hg hat); have n1_ := Aside0.mk (blk_grown (g := gb470) (o := .cells #[.int .i64 ((rd_T39 l1 x92_3).f0), .int .i64 ((rd_T39 l1 x92_3).f1), .int .i64 ((rd_T39 l1 x92_3).f2), .int .i64 ((rd_T39 l1 x92_3).f3)] 39 (0, 0)) (by (with_reducible repeat (first | refine blk_drewN ?_ _ | refine blk_drew ?_ | refine blk_alloc ?_ _)); refine blk_put (cs := #[.int .i64 ((rd_T39 l1 x92_3).f0), .int .i64 ((rd_T39 l1 x92_3).f1), .int .i64 ((rd_T39 l1 x92_3).f2), .int .i64 0]) ?_ 3 _ rfl; (with_reducible repeat (first | refine blk_drewN ?_ _ | refine blk_drew ?_ | refine blk_alloc ?_ _)); refine blk_put (cs := #[.int .i64 ((rd_T39 l1 x92_3).f0), .int .i64 ((rd_T39 l1 x92_3).f1), .int .i64 0, .int .i64 0]) ?_ 2 _ rfl; (with_reducible repeat (first | refine blk_drewN ?_ _ | refine blk_drew ?_ | refine blk_alloc ?_ _)); refine blk_put (cs := #[.int .i64 ((rd_T39 l1 x92_3).f0), .int .i64 0, .int .i64 0, .int .i64 0]) ?_ 1 _ rfl; (with_reducible repeat (first | refine blk_drewN ?_ _ | refine blk_drew ?_ | refine blk_alloc ?_ _)); refine blk_put (cs := #[.int .i64 0, .int .i64 0, .int .i64 0, .int .i64 0]) ?_ 0 _ rfl; (with_reducible repeat (first | refine blk_drewN ?_ _ | refine blk_drew ?_ | refine blk_alloc ?_ _)); exact BK470.out) hg (Kd.R_ne HO_14.out BK470.out (by decide))); have n2_ := Aside0.mk (hb); have n3_ := Aside0.mk (ho); clear HO_9; clear BK470; clear HB; clear HO_14; have HO_9 := n0_; have BK470 := n1_; have HB := n2_; have HO476 := n3_; clear n0_ n1_ n2_ n3_; clear ho hb hg hat; have hcz69_0 : w68.cell? ⟨gb470, 0, none⟩ = some (.int .i64 ((rd_T39 l1 x92_3).f0)) := (blk_cell BK470.out 0).trans rfl; have hcz69_1 : w68.cell? ⟨gb470, 1, none⟩ = some (.int .i64 ((rd_T39 l1 x92_3).f1)) := (blk_cell BK470.out 1).trans rfl; have hcz69_2 : w68.cell? ⟨gb470, 2, none⟩ = some (.int .i64 ((rd_T39 l1 x92_3).f2)) := (blk_cell BK470.out 2).trans rfl; have hcz69_3 : w68.cell? ⟨gb470, 3, none⟩ = some (.int .i64 ((rd_T39 l1 x92_3).f3)) := (blk_cell BK470.out 3).trans rfl; have hfz69_0 := blk_frozen BK470.out 0; have hfz69_1 := blk_frozen BK470.out 1; have hfz69_2 := blk_frozen BK470.out 2; have hfz69_3 := blk_frozen BK470.out 3))
                       repeat (go_quiet (first | ((with_reducible refine gate_dst (N := 17) rfl ?_); refine box_event ?hg (N := 17) ?hd (cs := #[.int .i64 0, .int .i64 0, .int .i64 0, .int .i64 0]) (t := 39) ?hr ?_; (case hd => rfl); (case hg => rfl); (case hr => first | (go_simp; done) | (go_simp; rfl)); intro gb470 hg w65 hbox hb; have n0_ := Aside0.mk (Kd.R_below (by (with_reducible repeat (first | apply Kd.R_alloc | apply Kd.R_drewN | apply Kd.R_drew)); exact HO_9.out) hb); have n1_ := Aside0.mk (Kd.R_below (by (with_reducible repeat (first | apply Kd.R_alloc | apply Kd.R_drewN | apply Kd.R_drew)); exact HO_14.out) hb); have n2_ := Aside0.mk (below_step (by repeat (first | (with_reducible first | exact HB.out | apply below_alloc | apply pw_below_drewN | apply below_drew1) | exact HB.out)) hb); have n3_ := Aside0.mk (hbox); have n4_ := Aside0.mk ((by rw [hg]; exact (below_size (by repeat (first | (with_reducible first | exact HB.out | apply below_alloc | apply pw_below_drewN | apply below_drew1) | exact HB.out))) : w.heap.size ≤ gb470)); have n5_ := Aside0.mk ((by rw [hg]; exact (below_size (by repeat (first | (with_reducible first | exact HB.out | apply below_alloc | apply pw_below_drewN | apply below_drew1) | exact HB.out))) : w.heap.size ≤ gb470)); clear HO_9; clear HO_14; clear HB; have HO_9 := n0_; have HO_14 := n1_; have HB := n2_; have BK470 := n3_; have GW470 := n4_; have GE470 := n5_; clear n0_ n1_ n2_ n3_ n4_ n5_; clear hb hbox hg; have hcz66_0 : w65.cell? ⟨gb470, 0, none⟩ = some (.int .i64 0) := (blk_cell BK470.out 0).trans rfl; have hcz66_1 : w65.cell? ⟨gb470, 1, none⟩ = some (.int .i64 0) := (blk_cell BK470.out 1).trans rfl; have hcz66_2 : w65.cell? ⟨gb470, 2, none⟩ = some (.int .i64 0) := (blk_cell BK470.out 2).trans rfl; have hcz66_3 : w65.cell? ⟨gb470, 3, none⟩ = some (.int .i64 0) := (blk_cell BK470.out 3).trans rfl; have hfz66_0 := blk_frozen BK470.out 0; have hfz66_1 := blk_frozen BK470.out 1; have hfz66_2 := blk_frozen BK470.out 2; have hfz66_3 := blk_frozen BK470.out 3; obtain ⟨Ao67, co67, eo67⟩ := Kd.R_slice HO_9.out; subst eo67; have p471 : 0 ≤ (((rd_T39 l1 x92_3).f1) : Int) := of_decide_eq_true (by first | (with_reducible assumption) | assumption); have q471 : ((rd_T39 l1 x92_3).f1) < (x9_1.length : Int) := of_decide_eq_true (by first | (with_reducible assumption) | assumption); obtain ⟨ad471, e471, hx471_0⟩ := Kd.at_int (Kd.R_reads' HO_9.out).2.2 ((rd_T39 l1 x92_3).f1) p471 q471; cases e471; have hn471_0 : ad471.block ≠ gb470 := Kd.own_blk (Kd.R_ne HO_9.out BK470.out (by decide)); have hn471_1 : ad471.block ≠ gb470 := Kd.own_blk (Kd.R_ne HO_9.out BK470.out (by decide)); have hn471_2 : ad471.block ≠ gb470 := Kd.own_blk (Kd.R_ne HO_9.out BK470.out (by decide)); have hn471_3 : ad471.block ≠ gb470 := Kd.own_blk (Kd.R_ne HO_9.out BK470.out (by decide)); replace hx471_0 := (cell_far (p := ⟨gb470, 0, none⟩) (by first | (rw [add_block]; exact hn471_0) | (show (Addr.add _ _).block ≠ _; rw [add_block]; exact hn471_0) | exact hn471_0) (.int .i64 ((rd_T39 l1 x92_3).f0))).trans hx471_0; replace hx471_0 := (cell_far (p := ⟨gb470, 1, none⟩) (by first | (rw [add_block]; exact hn471_1) | (show (Addr.add _ _).block ≠ _; rw [add_block]; exact hn471_1) | exact hn471_1) (.int .i64 ((rd_T39 l1 x92_3).f1))).trans hx471_0; replace hx471_0 := (cell_far (p := ⟨gb470, 2, none⟩) (by first | (rw [add_block]; exact hn471_2) | (show (Addr.add _ _).block ≠ _; rw [add_block]; exact hn471_2) | exact hn471_2) (.int .i64 ((rd_T39 l1 x92_3).f2))).trans hx471_0; replace hx471_0 := (cell_far (p := ⟨gb470, 3, none⟩) (by first | (rw [add_block]; exact hn471_3) | (show (Addr.add _ _).block ≠ _; rw [add_block]; exact hn471_3) | exact hn471_3) (.int .i64 ((rd_T39 l1 x92_3).f3))).trans hx471_0; (try have hy471_0 := fun (n_ : Nat) => (show ((((((w65.drewN n_).setCell ⟨gb470, 0, none⟩ (.int .i64 ((rd_T39 l1 x92_3).f0))).setCell ⟨gb470, 1, none⟩ (.int .i64 ((rd_T39 l1 x92_3).f1))).setCell ⟨gb470, 2, none⟩ (.int .i64 ((rd_T39 l1 x92_3).f2))).setCell ⟨gb470, 3, none⟩ (.int .i64 ((rd_T39 l1 x92_3).f3)))).cell? _ = some _ from hx471_0)); clear hn471_0; clear hn471_1; clear hn471_2; clear hn471_3; replace p471 := eq_true p471; replace q471 := eq_true q471; have p472 : 0 ≤ (((rd_T39 l1 x92_3).f1) : Int) := of_decide_eq_true (by first | (with_reducible assumption) | assumption); have q472 : ((rd_T39 l1 x92_3).f1) < (x9_1.length : Int) := of_decide_eq_true (by first | (with_reducible assumption) | assumption); obtain ⟨ad472, e472, hx472_0⟩ := Kd.at_int (Kd.R_reads' HO_9.out).2.2 ((rd_T39 l1 x92_3).f1) p472 q472; obtain rfl : ad471 = ad472 := (by injection e472); have hn472_0 : ad471.block ≠ gb470 := Kd.own_blk (Kd.R_ne HO_9.out BK470.out (by decide)); have hn472_1 : ad471.block ≠ gb470 := Kd.own_blk (Kd.R_ne HO_9.out BK470.out (by decide)); have hn472_2 : ad471.block ≠ gb470 := Kd.own_blk (Kd.R_ne HO_9.out BK470.out (by decide)); have hn472_3 : ad471.block ≠ gb470 := Kd.own_blk (Kd.R_ne HO_9.out BK470.out (by decide)); replace hx472_0 := (cell_far (p := ⟨gb470, 0, none⟩) (by first | (rw [add_block]; exact hn472_0) | (show (Addr.add _ _).block ≠ _; rw [add_block]; exact hn472_0) | exact hn472_0) (.int .i64 ((rd_T39 l1 x92_3).f0))).trans hx472_0; replace hx472_0 := (cell_far (p := ⟨gb470, 1, none⟩) (by first | (rw [add_block]; exact hn472_1) | (show (Addr.add _ _).block ≠ _; rw [add_block]; exact hn472_1) | exact hn472_1) (.int .i64 ((rd_T39 l1 x92_3).f1))).trans hx472_0; replace hx472_0 := (cell_far (p := ⟨gb470, 2, none⟩) (by first | (rw [add_block]; exact hn472_2) | (show (Addr.add _ _).block ≠ _; rw [add_block]; exact hn472_2) | exact hn472_2) (.int .i64 ((rd_T39 l1 x92_3).f2))).trans hx472_0; replace hx472_0 := (cell_far (p := ⟨gb470, 3, none⟩) (by first | (rw [add_block]; exact hn472_3) | (show (Addr.add _ _).block ≠ _; rw [add_block]; exact hn472_3) | exact hn472_3) (.int .i64 ((rd_T39 l1 x92_3).f3))).trans hx472_0; (try have hy472_0 := fun (n_ : Nat) => (show ((((((w65.drewN n_).setCell ⟨gb470, 0, none⟩ (.int .i64 ((rd_T39 l1 x92_3).f0))).setCell ⟨gb470, 1, none⟩ (.int .i64 ((rd_T39 l1 x92_3).f1))).setCell ⟨gb470, 2, none⟩ (.int .i64 ((rd_T39 l1 x92_3).f2))).setCell ⟨gb470, 3, none⟩ (.int .i64 ((rd_T39 l1 x92_3).f3)))).cell? _ = some _ from hx472_0)); clear hn472_0; clear hn472_1; clear hn472_2; clear hn472_3; replace p472 := eq_true p472; replace q472 := eq_true q472; have p473 : 0 ≤ (x15_3 : Int) := of_decide_eq_true (by first | (with_reducible assumption) | assumption); have q473 : x15_3 < (x9_1.length : Int) := of_decide_eq_true (by first | (with_reducible assumption) | assumption); obtain ⟨ad473, e473, hx473_0⟩ := Kd.at_int (Kd.R_reads' HO_9.out).2.2 x15_3 p473 q473; obtain rfl : ad471 = ad473 := (by injection e473); have hn473_0 : ad471.block ≠ gb470 := Kd.own_blk (Kd.R_ne HO_9.out BK470.out (by decide)); have hn473_1 : ad471.block ≠ gb470 := Kd.own_blk (Kd.R_ne HO_9.out BK470.out (by decide)); have hn473_2 : ad471.block ≠ gb470 := Kd.own_blk (Kd.R_ne HO_9.out BK470.out (by decide)); have hn473_3 : ad471.block ≠ gb470 := Kd.own_blk (Kd.R_ne HO_9.out BK470.out (by decide)); replace hx473_0 := (cell_far (p := ⟨gb470, 0, none⟩) (by first | (rw [add_block]; exact hn473_0) | (show (Addr.add _ _).block ≠ _; rw [add_block]; exact hn473_0) | exact hn473_0) (.int .i64 ((rd_T39 l1 x92_3).f0))).trans hx473_0; replace hx473_0 := (cell_far (p := ⟨gb470, 1, none⟩) (by first | (rw [add_block]; exact hn473_1) | (show (Addr.add _ _).block ≠ _; rw [add_block]; exact hn473_1) | exact hn473_1) (.int .i64 ((rd_T39 l1 x92_3).f1))).trans hx473_0; replace hx473_0 := (cell_far (p := ⟨gb470, 2, none⟩) (by first | (rw [add_block]; exact hn473_2) | (show (Addr.add _ _).block ≠ _; rw [add_block]; exact hn473_2) | exact hn473_2) (.int .i64 ((rd_T39 l1 x92_3).f2))).trans hx473_0; replace hx473_0 := (cell_far (p := ⟨gb470, 3, none⟩) (by first | (rw [add_block]; exact hn473_3) | (show (Addr.add _ _).block ≠ _; rw [add_block]; exact hn473_3) | exact hn473_3) (.int .i64 ((rd_T39 l1 x92_3).f3))).trans hx473_0; (try have hy473_0 := fun (n_ : Nat) => (show ((((((w65.drewN n_).setCell ⟨gb470, 0, none⟩ (.int .i64 ((rd_T39 l1 x92_3).f0))).setCell ⟨gb470, 1, none⟩ (.int .i64 ((rd_T39 l1 x92_3).f1))).setCell ⟨gb470, 2, none⟩ (.int .i64 ((rd_T39 l1 x92_3).f2))).setCell ⟨gb470, 3, none⟩ (.int .i64 ((rd_T39 l1 x92_3).f3)))).cell? _ = some _ from hx473_0)); clear hn473_0; clear hn473_1; clear hn473_2; clear hn473_3; replace p473 := eq_true p473; replace q473 := eq_true q473) | ((with_reducible refine gate_builtin (b := .append) (xs := #[.tmp 124, .tmp 126]) rfl ?_); at_builtin; refine Kd.R_append (Kd.int .i64) (w0 := w) w.heap.size rfl (.tmp 124) (.tmp 126) 27 2 (.int .i64 0) 8 rfl Try.underlying27 info2 rfl (by decide) (by omega) u14 x14_3 x92_3 [.int .i64 x92_3] (fun k_ => some k_ ≠ (.slice (some ad471) x9_1.length co67 : Value).ownBlock) (fun _ => False) rfl (by first | (go_simp; done) | (go_simp; rfl)) ?aP (fun _ hk => hk.elim) ?aF ?aO ?aB ?aS ?aL ?_; (case aP => exact rfl); (case aB => exact (by repeat (first | (with_reducible first | exact HB.out | apply below_alloc | apply pw_below_drewN | apply below_drew1 | refine below_set ?_ GE470.out) | exact HB.out))); (case aF => exact (fun k_ hk => Kd.fresh' (Kd.R_lt (by (with_reducible repeat (first | apply Kd.R_alloc | apply Kd.R_drewN | apply Kd.R_drew)); exact (Kd.R_mono (Kd.R_far (p := ⟨gb470, 3, none⟩) (Kd.R_far (p := ⟨gb470, 2, none⟩) (Kd.R_far (p := ⟨gb470, 1, none⟩) (Kd.R_far (p := ⟨gb470, 0, none⟩) (Kd.R_types HO_9.out BK470.out (by decide)) (fun _ hk => hk.2) (.int .i64 ((rd_T39 l1 x92_3).f0))) (fun _ hk => hk.2) (.int .i64 ((rd_T39 l1 x92_3).f1))) (fun _ hk => hk.2) (.int .i64 ((rd_T39 l1 x92_3).f2))) (fun _ hk => hk.2) (.int .i64 ((rd_T39 l1 x92_3).f3))) (fun _ h_ => h_.1)))) k_ hk)); (case aO => exact (by (with_reducible repeat (first | apply Kd.R_alloc | apply Kd.R_drewN | apply Kd.R_drew)); exact Kd.R_mono (Kd.R_far (p := ⟨gb470, 3, none⟩) (Kd.R_far (p := ⟨gb470, 2, none⟩) (Kd.R_far (p := ⟨gb470, 1, none⟩) (Kd.R_far (p := ⟨gb470, 0, none⟩) (Kd.R_types HO_14.out BK470.out (by decide)) (fun _ hk => hk.2) (.int .i64 ((rd_T39 l1 x92_3).f0))) (fun _ hk => hk.2) (.int .i64 ((rd_T39 l1 x92_3).f1))) (fun _ hk => hk.2) (.int .i64 ((rd_T39 l1 x92_3).f2))) (fun _ hk => hk.2) (.int .i64 ((rd_T39 l1 x92_3).f3))) (fun _ hk => hk.1))); (case aS => exact (below_size (by repeat (first | (with_reducible first | exact HB.out | apply below_alloc | apply pw_below_drewN | apply below_drew1 | refine below_set ?_ GE470.out) | exact HB.out)))); (case aL => have := LMc64.out; omega); intro v475 w68 ho hb hg hat; rw [← Ny474.out] at ho; have n0_ := Aside0.mk (Kd.R_after (ok := (fun _ => True)) (by (with_reducible repeat (first | apply Kd.R_alloc | apply Kd.R_drewN | apply Kd.R_drew)); exact Kd.R_mono (Kd.R_far (p := ⟨gb470, 3, none⟩) (Kd.R_far (p := ⟨gb470, 2, none⟩) (Kd.R_far (p := ⟨gb470, 1, none⟩) (Kd.R_far (p := ⟨gb470, 0, none⟩) (Kd.R_types HO_9.out BK470.out (by decide)) (fun _ hk => hk.2) (.int .i64 ((rd_T39 l1 x92_3).f0))) (fun _ hk => hk.2) (.int .i64 ((rd_T39 l1 x92_3).f1))) (fun _ hk => hk.2) (.int .i64 ((rd_T39 l1 x92_3).f2))) (fun _ hk => hk.2) (.int .i64 ((rd_T39 l1 x92_3).f3))) (fun _ hk => ⟨trivial, hk.1⟩)) hg hat); have n1_ := Aside0.mk (blk_grown (g := gb470) (o := .cells #[.int .i64 ((rd_T39 l1 x92_3).f0), .int .i64 ((rd_T39 l1 x92_3).f1), .int .i64 ((rd_T39 l1 x92_3).f2), .int .i64 ((rd_T39 l1 x92_3).f3)] 39 (0, 0)) (by (with_reducible repeat (first | refine blk_drewN ?_ _ | refine blk_drew ?_ | refine blk_alloc ?_ _)); refine blk_put (cs := #[.int .i64 ((rd_T39 l1 x92_3).f0), .int .i64 ((rd_T39 l1 x92_3).f1), .int .i64 ((rd_T39 l1 x92_3).f2), .int .i64 0]) ?_ 3 _ rfl; (with_reducible repeat (first | refine blk_drewN ?_ _ | refine blk_drew ?_ | refine blk_alloc ?_ _)); refine blk_put (cs := #[.int .i64 ((rd_T39 l1 x92_3).f0), .int .i64 ((rd_T39 l1 x92_3).f1), .int .i64 0, .int .i64 0]) ?_ 2 _ rfl; (with_reducible repeat (first | refine blk_drewN ?_ _ | refine blk_drew ?_ | refine blk_alloc ?_ _)); refine blk_put (cs := #[.int .i64 ((rd_T39 l1 x92_3).f0), .int .i64 0, .int .i64 0, .int .i64 0]) ?_ 1 _ rfl; (with_reducible repeat (first | refine blk_drewN ?_ _ | refine blk_drew ?_ | refine blk_alloc ?_ _)); refine blk_put (cs := #[.int .i64 0, .int .i64 0, .int .i64 0, .int .i64 0]) ?_ 0 _ rfl; (with_reducible repeat (first | refine blk_drewN ?_ _ | refine blk_drew ?_ | refine blk_alloc ?_ _)); exact BK470.out) hg (Kd.R_ne HO_14.out BK470.out (by decide))); have n2_ := Aside0.mk (hb); have n3_ := Aside0.mk (ho); clear HO_9; clear BK470; clear HB; clear HO_14; have HO_9 := n0_; have BK470 := n1_; have HB := n2_; have HO476 := n3_; clear n0_ n1_ n2_ n3_; clear ho hb hg hat; have hcz69_0 : w68.cell? ⟨gb470, 0, none⟩ = some (.int .i64 ((rd_T39 l1 x92_3).f0)) := (blk_cell BK470.out 0).trans rfl; have hcz69_1 : w68.cell? ⟨gb470, 1, none⟩ = some (.int .i64 ((rd_T39 l1 x92_3).f1)) := (blk_cell BK470.out 1).trans rfl; have hcz69_2 : w68.cell? ⟨gb470, 2, none⟩ = some (.int .i64 ((rd_T39 l1 x92_3).f2)) := (blk_cell BK470.out 2).trans rfl; have hcz69_3 : w68.cell? ⟨gb470, 3, none⟩ = some (.int .i64 ((rd_T39 l1 x92_3).f3)) := (blk_cell BK470.out 3).trans rfl; have hfz69_0 := blk_frozen BK470.out 0; have hfz69_1 := blk_frozen BK470.out 1; have hfz69_2 := blk_frozen BK470.out 2; have hfz69_3 := blk_frozen BK470.out 3)); try go_wp2_with (first | ((with_reducible refine gate_dst (N := 17) rfl ?_); refine box_event ?hg (N := 17) ?hd (cs := #[.int .i64 0, .int .i64 0, .int .i64 0, .int .i64 0]) (t := 39) ?hr ?_; (case hd => rfl); (case hg => rfl); (case hr => first | (go_simp; done) | (go_simp; rfl)); intro gb470 hg w65 hbox hb; have n0_ := Aside0.mk (Kd.R_below (by (with_reducible repeat (first | apply Kd.R_alloc | apply Kd.R_drewN | apply Kd.R_drew)); exact HO_9.out) hb); have n1_ := Aside0.mk (Kd.R_below (by (with_reducible repeat (first | apply Kd.R_alloc | apply Kd.R_drewN | apply Kd.R_drew)); exact HO_14.out) hb); have n2_ := Aside0.mk (below_step (by repeat (first | (with_reducible first | exact HB.out | apply below_alloc | apply pw_below_drewN | apply below_drew1) | exact HB.out)) hb); have n3_ := Aside0.mk (hbox); have n4_ := Aside0.mk ((by rw [hg]; exact (below_size (by repeat (first | (with_reducible first | exact HB.out | apply below_alloc | apply pw_below_drewN | apply below_drew1) | exact HB.out))) : w.heap.size ≤ gb470)); have n5_ := Aside0.mk ((by rw [hg]; exact (below_size (by repeat (first | (with_reducible first | exact HB.out | apply below_alloc | apply pw_below_drewN | apply below_drew1) | exact HB.out))) : w.heap.size ≤ gb470)); clear HO_9; clear HO_14; clear HB; have HO_9 := n0_; have HO_14 := n1_; have HB := n2_; have BK470 := n3_; have GW470 := n4_; have GE470 := n5_; clear n0_ n1_ n2_ n3_ n4_ n5_; clear hb hbox hg; have hcz66_0 : w65.cell? ⟨gb470, 0, none⟩ = some (.int .i64 0) := (blk_cell BK470.out 0).trans rfl; have hcz66_1 : w65.cell? ⟨gb470, 1, none⟩ = some (.int .i64 0) := (blk_cell BK470.out 1).trans rfl; have hcz66_2 : w65.cell? ⟨gb470, 2, none⟩ = some (.int .i64 0) := (blk_cell BK470.out 2).trans rfl; have hcz66_3 : w65.cell? ⟨gb470, 3, none⟩ = some (.int .i64 0) := (blk_cell BK470.out 3).trans rfl; have hfz66_0 := blk_frozen BK470.out 0; have hfz66_1 := blk_frozen BK470.out 1; have hfz66_2 := blk_frozen BK470.out 2; have hfz66_3 := blk_frozen BK470.out 3; obtain ⟨Ao67, co67, eo67⟩ := Kd.R_slice HO_9.out; subst eo67; have p471 : 0 ≤ (((rd_T39 l1 x92_3).f1) : Int) := of_decide_eq_true (by first | (with_reducible assumption) | assumption); have q471 : ((rd_T39 l1 x92_3).f1) < (x9_1.length : Int) := of_decide_eq_true (by first | (with_reducible assumption) | assumption); obtain ⟨ad471, e471, hx471_0⟩ := Kd.at_int (Kd.R_reads' HO_9.out).2.2 ((rd_T39 l1 x92_3).f1) p471 q471; cases e471; have hn471_0 : ad471.block ≠ gb470 := Kd.own_blk (Kd.R_ne HO_9.out BK470.out (by decide)); have hn471_1 : ad471.block ≠ gb470 := Kd.own_blk (Kd.R_ne HO_9.out BK470.out (by decide)); have hn471_2 : ad471.block ≠ gb470 := Kd.own_blk (Kd.R_ne HO_9.out BK470.out (by decide)); have hn471_3 : ad471.block ≠ gb470 := Kd.own_blk (Kd.R_ne HO_9.out BK470.out (by decide)); replace hx471_0 := (cell_far (p := ⟨gb470, 0, none⟩) (by first | (rw [add_block]; exact hn471_0) | (show (Addr.add _ _).block ≠ _; rw [add_block]; exact hn471_0) | exact hn471_0) (.int .i64 ((rd_T39 l1 x92_3).f0))).trans hx471_0; replace hx471_0 := (cell_far (p := ⟨gb470, 1, none⟩) (by first | (rw [add_block]; exact hn471_1) | (show (Addr.add _ _).block ≠ _; rw [add_block]; exact hn471_1) | exact hn471_1) (.int .i64 ((rd_T39 l1 x92_3).f1))).trans hx471_0; replace hx471_0 := (cell_far (p := ⟨gb470, 2, none⟩) (by first | (rw [add_block]; exact hn471_2) | (show (Addr.add _ _).block ≠ _; rw [add_block]; exact hn471_2) | exact hn471_2) (.int .i64 ((rd_T39 l1 x92_3).f2))).trans hx471_0; replace hx471_0 := (cell_far (p := ⟨gb470, 3, none⟩) (by first | (rw [add_block]; exact hn471_3) | (show (Addr.add _ _).block ≠ _; rw [add_block]; exact hn471_3) | exact hn471_3) (.int .i64 ((rd_T39 l1 x92_3).f3))).trans hx471_0; (try have hy471_0 := fun (n_ : Nat) => (show ((((((w65.drewN n_).setCell ⟨gb470, 0, none⟩ (.int .i64 ((rd_T39 l1 x92_3).f0))).setCell ⟨gb470, 1, none⟩ (.int .i64 ((rd_T39 l1 x92_3).f1))).setCell ⟨gb470, 2, none⟩ (.int .i64 ((rd_T39 l1 x92_3).f2))).setCell ⟨gb470, 3, none⟩ (.int .i64 ((rd_T39 l1 x92_3).f3)))).cell? _ = some _ from hx471_0)); clear hn471_0; clear hn471_1; clear hn471_2; clear hn471_3; replace p471 := eq_true p471; replace q471 := eq_true q471; have p472 : 0 ≤ (((rd_T39 l1 x92_3).f1) : Int) := of_decide_eq_true (by first | (with_reducible assumption) | assumption); have q472 : ((rd_T39 l1 x92_3).f1) < (x9_1.length : Int) := of_decide_eq_true (by first | (with_reducible assumption) | assumption); obtain ⟨ad472, e472, hx472_0⟩ := Kd.at_int (Kd.R_reads' HO_9.out).2.2 ((rd_T39 l1 x92_3).f1) p472 q472; obtain rfl : ad471 = ad472 := (by injection e472); have hn472_0 : ad471.block ≠ gb470 := Kd.own_blk (Kd.R_ne HO_9.out BK470.out (by decide)); have hn472_1 : ad471.block ≠ gb470 := Kd.own_blk (Kd.R_ne HO_9.out BK470.out (by decide)); have hn472_2 : ad471.block ≠ gb470 := Kd.own_blk (Kd.R_ne HO_9.out BK470.out (by decide)); have hn472_3 : ad471.block ≠ gb470 := Kd.own_blk (Kd.R_ne HO_9.out BK470.out (by decide)); replace hx472_0 := (cell_far (p := ⟨gb470, 0, none⟩) (by first | (rw [add_block]; exact hn472_0) | (show (Addr.add _ _).block ≠ _; rw [add_block]; exact hn472_0) | exact hn472_0) (.int .i64 ((rd_T39 l1 x92_3).f0))).trans hx472_0; replace hx472_0 := (cell_far (p := ⟨gb470, 1, none⟩) (by first | (rw [add_block]; exact hn472_1) | (show (Addr.add _ _).block ≠ _; rw [add_block]; exact hn472_1) | exact hn472_1) (.int .i64 ((rd_T39 l1 x92_3).f1))).trans hx472_0; replace hx472_0 := (cell_far (p := ⟨gb470, 2, none⟩) (by first | (rw [add_block]; exact hn472_2) | (show (Addr.add _ _).block ≠ _; rw [add_block]; exact hn472_2) | exact hn472_2) (.int .i64 ((rd_T39 l1 x92_3).f2))).trans hx472_0; replace hx472_0 := (cell_far (p := ⟨gb470, 3, none⟩) (by first | (rw [add_block]; exact hn472_3) | (show (Addr.add _ _).block ≠ _; rw [add_block]; exact hn472_3) | exact hn472_3) (.int .i64 ((rd_T39 l1 x92_3).f3))).trans hx472_0; (try have hy472_0 := fun (n_ : Nat) => (show ((((((w65.drewN n_).setCell ⟨gb470, 0, none⟩ (.int .i64 ((rd_T39 l1 x92_3).f0))).setCell ⟨gb470, 1, none⟩ (.int .i64 ((rd_T39 l1 x92_3).f1))).setCell ⟨gb470, 2, none⟩ (.int .i64 ((rd_T39 l1 x92_3).f2))).setCell ⟨gb470, 3, none⟩ (.int .i64 ((rd_T39 l1 x92_3).f3)))).cell? _ = some _ from hx472_0)); clear hn472_0; clear hn472_1; clear hn472_2; clear hn472_3; replace p472 := eq_true p472; replace q472 := eq_true q472; have p473 : 0 ≤ (x15_3 : Int) := of_decide_eq_true (by first | (with_reducible assumption) | assumption); have q473 : x15_3 < (x9_1.length : Int) := of_decide_eq_true (by first | (with_reducible assumption) | assumption); obtain ⟨ad473, e473, hx473_0⟩ := Kd.at_int (Kd.R_reads' HO_9.out).2.2 x15_3 p473 q473; obtain rfl : ad471 = ad473 := (by injection e473); have hn473_0 : ad471.block ≠ gb470 := Kd.own_blk (Kd.R_ne HO_9.out BK470.out (by decide)); have hn473_1 : ad471.block ≠ gb470 := Kd.own_blk (Kd.R_ne HO_9.out BK470.out (by decide)); have hn473_2 : ad471.block ≠ gb470 := Kd.own_blk (Kd.R_ne HO_9.out BK470.out (by decide)); have hn473_3 : ad471.block ≠ gb470 := Kd.own_blk (Kd.R_ne HO_9.out BK470.out (by decide)); replace hx473_0 := (cell_far (p := ⟨gb470, 0, none⟩) (by first | (rw [add_block]; exact hn473_0) | (show (Addr.add _ _).block ≠ _; rw [add_block]; exact hn473_0) | exact hn473_0) (.int .i64 ((rd_T39 l1 x92_3).f0))).trans hx473_0; replace hx473_0 := (cell_far (p := ⟨gb470, 1, none⟩) (by first | (rw [add_block]; exact hn473_1) | (show (Addr.add _ _).block ≠ _; rw [add_block]; exact hn473_1) | exact hn473_1) (.int .i64 ((rd_T39 l1 x92_3).f1))).trans hx473_0; replace hx473_0 := (cell_far (p := ⟨gb470, 2, none⟩) (by first | (rw [add_block]; exact hn473_2) | (show (Addr.add _ _).block ≠ _; rw [add_block]; exact hn473_2) | exact hn473_2) (.int .i64 ((rd_T39 l1 x92_3).f2))).trans hx473_0; replace hx473_0 := (cell_far (p := ⟨gb470, 3, none⟩) (by first | (rw [add_block]; exact hn473_3) | (show (Addr.add _ _).block ≠ _; rw [add_block]; exact hn473_3) | exact hn473_3) (.int .i64 ((rd_T39 l1 x92_3).f3))).trans hx473_0; (try have hy473_0 := fun (n_ : Nat) => (show ((((((w65.drewN n_).setCell ⟨gb470, 0, none⟩ (.int .i64 ((rd_T39 l1 x92_3).f0))).setCell ⟨gb470, 1, none⟩ (.int .i64 ((rd_T39 l1 x92_3).f1))).setCell ⟨gb470, 2, none⟩ (.int .i64 ((rd_T39 l1 x92_3).f2))).setCell ⟨gb470, 3, none⟩ (.int .i64 ((rd_T39 l1 x92_3).f3)))).cell? _ = some _ from hx473_0)); clear hn473_0; clear hn473_1; clear hn473_2; clear hn473_3; replace p473 := eq_true p473; replace q473 := eq_true q473) | ((with_reducible refine gate_builtin (b := .append) (xs := #[.tmp 124, .tmp 126]) rfl ?_); at_builtin; refine Kd.R_append (Kd.int .i64) (w0 := w) w.heap.size rfl (.tmp 124) (.tmp 126) 27 2 (.int .i64 0) 8 rfl Try.underlying27 info2 rfl (by decide) (by omega) u14 x14_3 x92_3 [.int .i64 x92_3] (fun k_ => some k_ ≠ (.slice (some ad471) x9_1.length co67 : Value).ownBlock) (fun _ => False) rfl (by first | (go_simp; done) | (go_simp; rfl)) ?aP (fun _ hk => hk.elim) ?aF ?aO ?aB ?aS ?aL ?_; (case aP => exact rfl); (case aB => exact (by repeat (first | (with_reducible first | exact HB.out | apply below_alloc | apply pw_below_drewN | apply below_drew1 | refine below_set ?_ GE470.out) | exact HB.out))); (case aF => exact (fun k_ hk => Kd.fresh' (Kd.R_lt (by (with_reducible repeat (first | apply Kd.R_alloc | apply Kd.R_drewN | apply Kd.R_drew)); exact (Kd.R_mono (Kd.R_far (p := ⟨gb470, 3, none⟩) (Kd.R_far (p := ⟨gb470, 2, none⟩) (Kd.R_far (p := ⟨gb470, 1, none⟩) (Kd.R_far (p := ⟨gb470, 0, none⟩) (Kd.R_types HO_9.out BK470.out (by decide)) (fun _ hk => hk.2) (.int .i64 ((rd_T39 l1 x92_3).f0))) (fun _ hk => hk.2) (.int .i64 ((rd_T39 l1 x92_3).f1))) (fun _ hk => hk.2) (.int .i64 ((rd_T39 l1 x92_3).f2))) (fun _ hk => hk.2) (.int .i64 ((rd_T39 l1 x92_3).f3))) (fun _ h_ => h_.1)))) k_ hk)); (case aO => exact (by (with_reducible repeat (first | apply Kd.R_alloc | apply Kd.R_drewN | apply Kd.R_drew)); exact Kd.R_mono (Kd.R_far (p := ⟨gb470, 3, none⟩) (Kd.R_far (p := ⟨gb470, 2, none⟩) (Kd.R_far (p := ⟨gb470, 1, none⟩) (Kd.R_far (p := ⟨gb470, 0, none⟩) (Kd.R_types HO_14.out BK470.out (by decide)) (fun _ hk => hk.2) (.int .i64 ((rd_T39 l1 x92_3).f0))) (fun _ hk => hk.2) (.int .i64 ((rd_T39 l1 x92_3).f1))) (fun _ hk => hk.2) (.int .i64 ((rd_T39 l1 x92_3).f2))) (fun _ hk => hk.2) (.int .i64 ((rd_T39 l1 x92_3).f3))) (fun _ hk => hk.1))); (case aS => exact (below_size (by repeat (first | (with_reducible first | exact HB.out | apply below_alloc | apply pw_below_drewN | apply below_drew1 | refine below_set ?_ GE470.out) | exact HB.out)))); (case aL => have := LMc64.out; omega); intro v475 w68 ho hb hg hat; rw [← Ny474.out] at ho; have n0_ := Aside0.mk (Kd.R_after (ok := (fun _ => True)) (by (with_reducible repeat (first | apply Kd.R_alloc | apply Kd.R_drewN | apply Kd.R_drew)); exact Kd.R_mono (Kd.R_far (p := ⟨gb470, 3, none⟩) (Kd.R_far (p := ⟨gb470, 2, none⟩) (Kd.R_far (p := ⟨gb470, 1, none⟩) (Kd.R_far (p := ⟨gb470, 0, none⟩) (Kd.R_types HO_9.out BK470.out (by decide)) (fun _ hk => hk.2) (.int .i64 ((rd_T39 l1 x92_3).f0))) (fun _ hk => hk.2) (.int .i64 ((rd_T39 l1 x92_3).f1))) (fun _ hk => hk.2) (.int .i64 ((rd_T39 l1 x92_3).f2))) (fun _ hk => hk.2) (.int .i64 ((rd_T39 l1 x92_3).f3))) (fun _ hk => ⟨trivial, hk.1⟩)) hg hat); have n1_ := Aside0.mk (blk_grown (g := gb470) (o := .cells #[.int .i64 ((rd_T39 l1 x92_3).f0), .int .i64 ((rd_T39 l1 x92_3).f1), .int .i64 ((rd_T39 l1 x92_3).f2), .int .i64 ((rd_T39 l1 x92_3).f3)] 39 (0, 0)) (by (with_reducible repeat (first | refine blk_drewN ?_ _ | refine blk_drew ?_ | refine blk_alloc ?_ _)); refine blk_put (cs := #[.int .i64 ((rd_T39 l1 x92_3).f0), .int .i64 ((rd_T39 l1 x92_3).f1), .int .i64 ((rd_T39 l1 x92_3).f2), .int .i64 0]) ?_ 3 _ rfl; (with_reducible repeat (first | refine blk_drewN ?_ _ | refine blk_drew ?_ | refine blk_alloc ?_ _)); refine blk_put (cs := #[.int .i64 ((rd_T39 l1 x92_3).f0), .int .i64 ((rd_T39 l1 x92_3).f1), .int .i64 0, .int .i64 0]) ?_ 2 _ rfl; (with_reducible repeat (first | refine blk_drewN ?_ _ | refine blk_drew ?_ | refine blk_alloc ?_ _)); refine blk_put (cs := #[.int .i64 ((rd_T39 l1 x92_3).f0), .int .i64 0, .int .i64 0, .int .i64 0]) ?_ 1 _ rfl; (with_reducible repeat (first | refine blk_drewN ?_ _ | refine blk_drew ?_ | refine blk_alloc ?_ _)); refine blk_put (cs := #[.int .i64 0, .int .i64 0, .int .i64 0, .int .i64 0]) ?_ 0 _ rfl; (with_reducible repeat (first | refine blk_drewN ?_ _ | refine blk_drew ?_ | refine blk_alloc ?_ _)); exact BK470.out) hg (Kd.R_ne HO_14.out BK470.out (by decide))); have n2_ := Aside0.mk (hb); have n3_ := Aside0.mk (ho); clear HO_9; clear BK470; clear HB; clear HO_14; have HO_9 := n0_; have BK470 := n1_; have HB := n2_; have HO476 := n3_; clear n0_ n1_ n2_ n3_; clear ho hb hg hat; have hcz69_0 : w68.cell? ⟨gb470, 0, none⟩ = some (.int .i64 ((rd_T39 l1 x92_3).f0)) := (blk_cell BK470.out 0).trans rfl; have hcz69_1 : w68.cell? ⟨gb470, 1, none⟩ = some (.int .i64 ((rd_T39 l1 x92_3).f1)) := (blk_cell BK470.out 1).trans rfl; have hcz69_2 : w68.cell? ⟨gb470, 2, none⟩ = some (.int .i64 ((rd_T39 l1 x92_3).f2)) := (blk_cell BK470.out 2).trans rfl; have hcz69_3 : w68.cell? ⟨gb470, 3, none⟩ = some (.int .i64 ((rd_T39 l1 x92_3).f3)) := (blk_cell BK470.out 3).trans rfl; have hfz69_0 := blk_frozen BK470.out 0; have hfz69_1 := blk_frozen BK470.out 1; have hfz69_2 := blk_frozen BK470.out 2; have hfz69_3 := blk_frozen BK470.out 3)))
                       go_roundg k3
                       case measure => have := HK1.out; have := HK2.out; have := HK3.out; omega
                       case rel => exact ⟨(y474), ((rd_T39 l1 x92_3).f1), (by first | rfl | (simp; done) | (simp [*]; done)), H', ⟨by have := HK1.out; have := HK2.out; have := HK3.out; omega⟩, ⟨by (with_reducible repeat (first | apply Kd.R_alloc | apply Kd.R_drewN | apply Kd.R_drew)); exact Kd.R_mono HO_9.out (fun _ hk => hk.2)⟩, ⟨by (with_reducible repeat (first | apply Kd.R_alloc | apply Kd.R_drewN | apply Kd.R_drew)); exact HO476.out⟩, ⟨by repeat (first | (with_reducible first | exact HB.out | apply below_alloc | apply pw_below_drewN | apply below_drew1 | refine below_set ?_ GE470.out | refine below_set ?_ GB17.out) | exact HB.out)⟩⟩
                      ·rw [if_neg c64] at H
                       exact absurd H (by simp)
                     ·rw [if_neg c63] at H
                      have c63b0 : ((wrap64 (((rd_T39 l1 x92_3).f2) + (rd x9_1 ((rd_T39 l1 x92_3).f1)))) == (rd x9_1 x15_3)) = false := beq_eq_false_iff_ne.mpr c63
                      have c63b1 : ((wrap64 (((rd_T39 l1 x92_3).f2) + (rd x9_1 ((rd_T39 l1 x92_3).f1)))) != (rd x9_1 x15_3)) = true := bne_iff_ne.mpr c63
                      have H' := Aside0.mk H
                      clear H
                      have p469 : 0 ≤ (x92_3 : Int) := of_decide_eq_true (by first | (with_reducible assumption) | assumption)
                      have q469 : x92_3 < (l1.length : Int) := of_decide_eq_true (by first | (with_reducible assumption) | assumption)
                      obtain ⟨ad469, e469, hx469_0, hx469_1, hx469_2, hx469_3⟩ := at_T39 HR1.out x92_3 p469 q469
                      cases e469
                      replace hx469_0 := (HB.out.cell (World.block_lt_of_cell? w _ hx469_0)).trans hx469_0
                      replace hx469_1 := (HB.out.cell (World.block_lt_of_cell? w _ hx469_1)).trans hx469_1
                      replace hx469_2 := (HB.out.cell (World.block_lt_of_cell? w _ hx469_2)).trans hx469_2
                      replace hx469_3 := (HB.out.cell (World.block_lt_of_cell? w _ hx469_3)).trans hx469_3
                      replace p469 := eq_true p469
                      replace q469 := eq_true q469
                      go_wp2_with (first | ((with_reducible refine gate_dst (N := 17) rfl ?_); refine box_event ?hg (N := 17) ?hd (cs := #[.int .i64 0, .int .i64 0, .int .i64 0, .int .i64 0]) (t := 39) ?hr ?_; (case hd => rfl); (case hg => rfl); (case hr => first | (go_simp; done) | (go_simp; rfl)); intro gb470 hg w70 hbox hb; have n0_ := Aside0.mk (Kd.R_below (by (with_reducible repeat (first | apply Kd.R_alloc | apply Kd.R_drewN | apply Kd.R_drew)); exact HO_9.out) hb); have n1_ := Aside0.mk (Kd.R_below (by (with_reducible repeat (first | apply Kd.R_alloc | apply Kd.R_drewN | apply Kd.R_drew)); exact HO_14.out) hb); have n2_ := Aside0.mk (below_step (by repeat (first | (with_reducible first | exact HB.out | apply below_alloc | apply pw_below_drewN | apply below_drew1) | exact HB.out)) hb); have n3_ := Aside0.mk (hbox); have n4_ := Aside0.mk ((by rw [hg]; exact (below_size (by repeat (first | (with_reducible first | exact HB.out | apply below_alloc | apply pw_below_drewN | apply below_drew1) | exact HB.out))) : w.heap.size ≤ gb470)); have n5_ := Aside0.mk ((by rw [hg]; exact (below_size (by repeat (first | (with_reducible first | exact HB.out | apply below_alloc | apply pw_below_drewN | apply below_drew1) | exact HB.out))) : w.heap.size ≤ gb470)); clear HO_9; clear HO_14; clear HB; have HO_9 := n0_; have HO_14 := n1_; have HB := n2_; have BK470 := n3_; have GW470 := n4_; have GE470 := n5_; clear n0_ n1_ n2_ n3_ n4_ n5_; clear hb hbox hg; have hcz71_0 : w70.cell? ⟨gb470, 0, none⟩ = some (.int .i64 0) := (blk_cell BK470.out 0).trans rfl; have hcz71_1 : w70.cell? ⟨gb470, 1, none⟩ = some (.int .i64 0) := (blk_cell BK470.out 1).trans rfl; have hcz71_2 : w70.cell? ⟨gb470, 2, none⟩ = some (.int .i64 0) := (blk_cell BK470.out 2).trans rfl; have hcz71_3 : w70.cell? ⟨gb470, 3, none⟩ = some (.int .i64 0) := (blk_cell BK470.out 3).trans rfl; have hfz71_0 := blk_frozen BK470.out 0; have hfz71_1 := blk_frozen BK470.out 1; have hfz71_2 := blk_frozen BK470.out 2; have hfz71_3 := blk_frozen BK470.out 3; obtain ⟨Ao72, co72, eo72⟩ := Kd.R_slice HO_9.out; subst eo72; have p471 : 0 ≤ (((rd_T39 l1 x92_3).f1) : Int) := of_decide_eq_true (by first | (with_reducible assumption) | assumption); have q471 : ((rd_T39 l1 x92_3).f1) < (x9_1.length : Int) := of_decide_eq_true (by first | (with_reducible assumption) | assumption); obtain ⟨ad471, e471, hx471_0⟩ := Kd.at_int (Kd.R_reads' HO_9.out).2.2 ((rd_T39 l1 x92_3).f1) p471 q471; cases e471; have hn471_0 : ad471.block ≠ gb470 := Kd.own_blk (Kd.R_ne HO_9.out BK470.out (by decide)); have hn471_1 : ad471.block ≠ gb470 := Kd.own_blk (Kd.R_ne HO_9.out BK470.out (by decide)); have hn471_2 : ad471.block ≠ gb470 := Kd.own_blk (Kd.R_ne HO_9.out BK470.out (by decide)); have hn471_3 : ad471.block ≠ gb470 := Kd.own_blk (Kd.R_ne HO_9.out BK470.out (by decide)); replace hx471_0 := (cell_far (p := ⟨gb470, 0, none⟩) (by first | (rw [add_block]; exact hn471_0) | (show (Addr.add _ _).block ≠ _; rw [add_block]; exact hn471_0) | exact hn471_0) (.int .i64 ((rd_T39 l1 x92_3).f0))).trans hx471_0; replace hx471_0 := (cell_far (p := ⟨gb470, 1, none⟩) (by first | (rw [add_block]; exact hn471_1) | (show (Addr.add _ _).block ≠ _; rw [add_block]; exact hn471_1) | exact hn471_1) (.int .i64 ((rd_T39 l1 x92_3).f1))).trans hx471_0; replace hx471_0 := (cell_far (p := ⟨gb470, 2, none⟩) (by first | (rw [add_block]; exact hn471_2) | (show (Addr.add _ _).block ≠ _; rw [add_block]; exact hn471_2) | exact hn471_2) (.int .i64 ((rd_T39 l1 x92_3).f2))).trans hx471_0; replace hx471_0 := (cell_far (p := ⟨gb470, 3, none⟩) (by first | (rw [add_block]; exact hn471_3) | (show (Addr.add _ _).block ≠ _; rw [add_block]; exact hn471_3) | exact hn471_3) (.int .i64 ((rd_T39 l1 x92_3).f3))).trans hx471_0; (try have hy471_0 := fun (n_ : Nat) => (show ((((((w70.drewN n_).setCell ⟨gb470, 0, none⟩ (.int .i64 ((rd_T39 l1 x92_3).f0))).setCell ⟨gb470, 1, none⟩ (.int .i64 ((rd_T39 l1 x92_3).f1))).setCell ⟨gb470, 2, none⟩ (.int .i64 ((rd_T39 l1 x92_3).f2))).setCell ⟨gb470, 3, none⟩ (.int .i64 ((rd_T39 l1 x92_3).f3)))).cell? _ = some _ from hx471_0)); clear hn471_0; clear hn471_1; clear hn471_2; clear hn471_3; replace p471 := eq_true p471; replace q471 := eq_true q471; have p472 : 0 ≤ (((rd_T39 l1 x92_3).f1) : Int) := of_decide_eq_true (by first | (with_reducible assumption) | assumption); have q472 : ((rd_T39 l1 x92_3).f1) < (x9_1.length : Int) := of_decide_eq_true (by first | (with_reducible assumption) | assumption); obtain ⟨ad472, e472, hx472_0⟩ := Kd.at_int (Kd.R_reads' HO_9.out).2.2 ((rd_T39 l1 x92_3).f1) p472 q472; obtain rfl : ad471 = ad472 := (by injection e472); have hn472_0 : ad471.block ≠ gb470 := Kd.own_blk (Kd.R_ne HO_9.out BK470.out (by decide)); have hn472_1 : ad471.block ≠ gb470 := Kd.own_blk (Kd.R_ne HO_9.out BK470.out (by decide)); have hn472_2 : ad471.block ≠ gb470 := Kd.own_blk (Kd.R_ne HO_9.out BK470.out (by decide)); have hn472_3 : ad471.block ≠ gb470 := Kd.own_blk (Kd.R_ne HO_9.out BK470.out (by decide)); replace hx472_0 := (cell_far (p := ⟨gb470, 0, none⟩) (by first | (rw [add_block]; exact hn472_0) | (show (Addr.add _ _).block ≠ _; rw [add_block]; exact hn472_0) | exact hn472_0) (.int .i64 ((rd_T39 l1 x92_3).f0))).trans hx472_0; replace hx472_0 := (cell_far (p := ⟨gb470, 1, none⟩) (by first | (rw [add_block]; exact hn472_1) | (show (Addr.add _ _).block ≠ _; rw [add_block]; exact hn472_1) | exact hn472_1) (.int .i64 ((rd_T39 l1 x92_3).f1))).trans hx472_0; replace hx472_0 := (cell_far (p := ⟨gb470, 2, none⟩) (by first | (rw [add_block]; exact hn472_2) | (show (Addr.add _ _).block ≠ _; rw [add_block]; exact hn472_2) | exact hn472_2) (.int .i64 ((rd_T39 l1 x92_3).f2))).trans hx472_0; replace hx472_0 := (cell_far (p := ⟨gb470, 3, none⟩) (by first | (rw [add_block]; exact hn472_3) | (show (Addr.add _ _).block ≠ _; rw [add_block]; exact hn472_3) | exact hn472_3) (.int .i64 ((rd_T39 l1 x92_3).f3))).trans hx472_0; (try have hy472_0 := fun (n_ : Nat) => (show ((((((w70.drewN n_).setCell ⟨gb470, 0, none⟩ (.int .i64 ((rd_T39 l1 x92_3).f0))).setCell ⟨gb470, 1, none⟩ (.int .i64 ((rd_T39 l1 x92_3).f1))).setCell ⟨gb470, 2, none⟩ (.int .i64 ((rd_T39 l1 x92_3).f2))).setCell ⟨gb470, 3, none⟩ (.int .i64 ((rd_T39 l1 x92_3).f3)))).cell? _ = some _ from hx472_0)); clear hn472_0; clear hn472_1; clear hn472_2; clear hn472_3; replace p472 := eq_true p472; replace q472 := eq_true q472; have p473 : 0 ≤ (x15_3 : Int) := of_decide_eq_true (by first | (with_reducible assumption) | assumption); have q473 : x15_3 < (x9_1.length : Int) := of_decide_eq_true (by first | (with_reducible assumption) | assumption); obtain ⟨ad473, e473, hx473_0⟩ := Kd.at_int (Kd.R_reads' HO_9.out).2.2 x15_3 p473 q473; obtain rfl : ad471 = ad473 := (by injection e473); have hn473_0 : ad471.block ≠ gb470 := Kd.own_blk (Kd.R_ne HO_9.out BK470.out (by decide)); have hn473_1 : ad471.block ≠ gb470 := Kd.own_blk (Kd.R_ne HO_9.out BK470.out (by decide)); have hn473_2 : ad471.block ≠ gb470 := Kd.own_blk (Kd.R_ne HO_9.out BK470.out (by decide)); have hn473_3 : ad471.block ≠ gb470 := Kd.own_blk (Kd.R_ne HO_9.out BK470.out (by decide)); replace hx473_0 := (cell_far (p := ⟨gb470, 0, none⟩) (by first | (rw [add_block]; exact hn473_0) | (show (Addr.add _ _).block ≠ _; rw [add_block]; exact hn473_0) | exact hn473_0) (.int .i64 ((rd_T39 l1 x92_3).f0))).trans hx473_0; replace hx473_0 := (cell_far (p := ⟨gb470, 1, none⟩) (by first | (rw [add_block]; exact hn473_1) | (show (Addr.add _ _).block ≠ _; rw [add_block]; exact hn473_1) | exact hn473_1) (.int .i64 ((rd_T39 l1 x92_3).f1))).trans hx473_0; replace hx473_0 := (cell_far (p := ⟨gb470, 2, none⟩) (by first | (rw [add_block]; exact hn473_2) | (show (Addr.add _ _).block ≠ _; rw [add_block]; exact hn473_2) | exact hn473_2) (.int .i64 ((rd_T39 l1 x92_3).f2))).trans hx473_0; replace hx473_0 := (cell_far (p := ⟨gb470, 3, none⟩) (by first | (rw [add_block]; exact hn473_3) | (show (Addr.add _ _).block ≠ _; rw [add_block]; exact hn473_3) | exact hn473_3) (.int .i64 ((rd_T39 l1 x92_3).f3))).trans hx473_0; (try have hy473_0 := fun (n_ : Nat) => (show ((((((w70.drewN n_).setCell ⟨gb470, 0, none⟩ (.int .i64 ((rd_T39 l1 x92_3).f0))).setCell ⟨gb470, 1, none⟩ (.int .i64 ((rd_T39 l1 x92_3).f1))).setCell ⟨gb470, 2, none⟩ (.int .i64 ((rd_T39 l1 x92_3).f2))).setCell ⟨gb470, 3, none⟩ (.int .i64 ((rd_T39 l1 x92_3).f3)))).cell? _ = some _ from hx473_0)); clear hn473_0; clear hn473_1; clear hn473_2; clear hn473_3; replace p473 := eq_true p473; replace q473 := eq_true q473))
                      repeat (go_quiet (first | ((with_reducible refine gate_dst (N := 17) rfl ?_); refine box_event ?hg (N := 17) ?hd (cs := #[.int .i64 0, .int .i64 0, .int .i64 0, .int .i64 0]) (t := 39) ?hr ?_; (case hd => rfl); (case hg => rfl); (case hr => first | (go_simp; done) | (go_simp; rfl)); intro gb470 hg w70 hbox hb; have n0_ := Aside0.mk (Kd.R_below (by (with_reducible repeat (first | apply Kd.R_alloc | apply Kd.R_drewN | apply Kd.R_drew)); exact HO_9.out) hb); have n1_ := Aside0.mk (Kd.R_below (by (with_reducible repeat (first | apply Kd.R_alloc | apply Kd.R_drewN | apply Kd.R_drew)); exact HO_14.out) hb); have n2_ := Aside0.mk (below_step (by repeat (first | (with_reducible first | exact HB.out | apply below_alloc | apply pw_below_drewN | apply below_drew1) | exact HB.out)) hb); have n3_ := Aside0.mk (hbox); have n4_ := Aside0.mk ((by rw [hg]; exact (below_size (by repeat (first | (with_reducible first | exact HB.out | apply below_alloc | apply pw_below_drewN | apply below_drew1) | exact HB.out))) : w.heap.size ≤ gb470)); have n5_ := Aside0.mk ((by rw [hg]; exact (below_size (by repeat (first | (with_reducible first | exact HB.out | apply below_alloc | apply pw_below_drewN | apply below_drew1) | exact HB.out))) : w.heap.size ≤ gb470)); clear HO_9; clear HO_14; clear HB; have HO_9 := n0_; have HO_14 := n1_; have HB := n2_; have BK470 := n3_; have GW470 := n4_; have GE470 := n5_; clear n0_ n1_ n2_ n3_ n4_ n5_; clear hb hbox hg; have hcz71_0 : w70.cell? ⟨gb470, 0, none⟩ = some (.int .i64 0) := (blk_cell BK470.out 0).trans rfl; have hcz71_1 : w70.cell? ⟨gb470, 1, none⟩ = some (.int .i64 0) := (blk_cell BK470.out 1).trans rfl; have hcz71_2 : w70.cell? ⟨gb470, 2, none⟩ = some (.int .i64 0) := (blk_cell BK470.out 2).trans rfl; have hcz71_3 : w70.cell? ⟨gb470, 3, none⟩ = some (.int .i64 0) := (blk_cell BK470.out 3).trans rfl; have hfz71_0 := blk_frozen BK470.out 0; have hfz71_1 := blk_frozen BK470.out 1; have hfz71_2 := blk_frozen BK470.out 2; have hfz71_3 := blk_frozen BK470.out 3; obtain ⟨Ao72, co72, eo72⟩ := Kd.R_slice HO_9.out; subst eo72; have p471 : 0 ≤ (((rd_T39 l1 x92_3).f1) : Int) := of_decide_eq_true (by first | (with_reducible assumption) | assumption); have q471 : ((rd_T39 l1 x92_3).f1) < (x9_1.length : Int) := of_decide_eq_true (by first | (with_reducible assumption) | assumption); obtain ⟨ad471, e471, hx471_0⟩ := Kd.at_int (Kd.R_reads' HO_9.out).2.2 ((rd_T39 l1 x92_3).f1) p471 q471; cases e471; have hn471_0 : ad471.block ≠ gb470 := Kd.own_blk (Kd.R_ne HO_9.out BK470.out (by decide)); have hn471_1 : ad471.block ≠ gb470 := Kd.own_blk (Kd.R_ne HO_9.out BK470.out (by decide)); have hn471_2 : ad471.block ≠ gb470 := Kd.own_blk (Kd.R_ne HO_9.out BK470.out (by decide)); have hn471_3 : ad471.block ≠ gb470 := Kd.own_blk (Kd.R_ne HO_9.out BK470.out (by decide)); replace hx471_0 := (cell_far (p := ⟨gb470, 0, none⟩) (by first | (rw [add_block]; exact hn471_0) | (show (Addr.add _ _).block ≠ _; rw [add_block]; exact hn471_0) | exact hn471_0) (.int .i64 ((rd_T39 l1 x92_3).f0))).trans hx471_0; replace hx471_0 := (cell_far (p := ⟨gb470, 1, none⟩) (by first | (rw [add_block]; exact hn471_1) | (show (Addr.add _ _).block ≠ _; rw [add_block]; exact hn471_1) | exact hn471_1) (.int .i64 ((rd_T39 l1 x92_3).f1))).trans hx471_0; replace hx471_0 := (cell_far (p := ⟨gb470, 2, none⟩) (by first | (rw [add_block]; exact hn471_2) | (show (Addr.add _ _).block ≠ _; rw [add_block]; exact hn471_2) | exact hn471_2) (.int .i64 ((rd_T39 l1 x92_3).f2))).trans hx471_0; replace hx471_0 := (cell_far (p := ⟨gb470, 3, none⟩) (by first | (rw [add_block]; exact hn471_3) | (show (Addr.add _ _).block ≠ _; rw [add_block]; exact hn471_3) | exact hn471_3) (.int .i64 ((rd_T39 l1 x92_3).f3))).trans hx471_0; (try have hy471_0 := fun (n_ : Nat) => (show ((((((w70.drewN n_).setCell ⟨gb470, 0, none⟩ (.int .i64 ((rd_T39 l1 x92_3).f0))).setCell ⟨gb470, 1, none⟩ (.int .i64 ((rd_T39 l1 x92_3).f1))).setCell ⟨gb470, 2, none⟩ (.int .i64 ((rd_T39 l1 x92_3).f2))).setCell ⟨gb470, 3, none⟩ (.int .i64 ((rd_T39 l1 x92_3).f3)))).cell? _ = some _ from hx471_0)); clear hn471_0; clear hn471_1; clear hn471_2; clear hn471_3; replace p471 := eq_true p471; replace q471 := eq_true q471; have p472 : 0 ≤ (((rd_T39 l1 x92_3).f1) : Int) := of_decide_eq_true (by first | (with_reducible assumption) | assumption); have q472 : ((rd_T39 l1 x92_3).f1) < (x9_1.length : Int) := of_decide_eq_true (by first | (with_reducible assumption) | assumption); obtain ⟨ad472, e472, hx472_0⟩ := Kd.at_int (Kd.R_reads' HO_9.out).2.2 ((rd_T39 l1 x92_3).f1) p472 q472; obtain rfl : ad471 = ad472 := (by injection e472); have hn472_0 : ad471.block ≠ gb470 := Kd.own_blk (Kd.R_ne HO_9.out BK470.out (by decide)); have hn472_1 : ad471.block ≠ gb470 := Kd.own_blk (Kd.R_ne HO_9.out BK470.out (by decide)); have hn472_2 : ad471.block ≠ gb470 := Kd.own_blk (Kd.R_ne HO_9.out BK470.out (by decide)); have hn472_3 : ad471.block ≠ gb470 := Kd.own_blk (Kd.R_ne HO_9.out BK470.out (by decide)); replace hx472_0 := (cell_far (p := ⟨gb470, 0, none⟩) (by first | (rw [add_block]; exact hn472_0) | (show (Addr.add _ _).block ≠ _; rw [add_block]; exact hn472_0) | exact hn472_0) (.int .i64 ((rd_T39 l1 x92_3).f0))).trans hx472_0; replace hx472_0 := (cell_far (p := ⟨gb470, 1, none⟩) (by first | (rw [add_block]; exact hn472_1) | (show (Addr.add _ _).block ≠ _; rw [add_block]; exact hn472_1) | exact hn472_1) (.int .i64 ((rd_T39 l1 x92_3).f1))).trans hx472_0; replace hx472_0 := (cell_far (p := ⟨gb470, 2, none⟩) (by first | (rw [add_block]; exact hn472_2) | (show (Addr.add _ _).block ≠ _; rw [add_block]; exact hn472_2) | exact hn472_2) (.int .i64 ((rd_T39 l1 x92_3).f2))).trans hx472_0; replace hx472_0 := (cell_far (p := ⟨gb470, 3, none⟩) (by first | (rw [add_block]; exact hn472_3) | (show (Addr.add _ _).block ≠ _; rw [add_block]; exact hn472_3) | exact hn472_3) (.int .i64 ((rd_T39 l1 x92_3).f3))).trans hx472_0; (try have hy472_0 := fun (n_ : Nat) => (show ((((((w70.drewN n_).setCell ⟨gb470, 0, none⟩ (.int .i64 ((rd_T39 l1 x92_3).f0))).setCell ⟨gb470, 1, none⟩ (.int .i64 ((rd_T39 l1 x92_3).f1))).setCell ⟨gb470, 2, none⟩ (.int .i64 ((rd_T39 l1 x92_3).f2))).setCell ⟨gb470, 3, none⟩ (.int .i64 ((rd_T39 l1 x92_3).f3)))).cell? _ = some _ from hx472_0)); clear hn472_0; clear hn472_1; clear hn472_2; clear hn472_3; replace p472 := eq_true p472; replace q472 := eq_true q472; have p473 : 0 ≤ (x15_3 : Int) := of_decide_eq_true (by first | (with_reducible assumption) | assumption); have q473 : x15_3 < (x9_1.length : Int) := of_decide_eq_true (by first | (with_reducible assumption) | assumption); obtain ⟨ad473, e473, hx473_0⟩ := Kd.at_int (Kd.R_reads' HO_9.out).2.2 x15_3 p473 q473; obtain rfl : ad471 = ad473 := (by injection e473); have hn473_0 : ad471.block ≠ gb470 := Kd.own_blk (Kd.R_ne HO_9.out BK470.out (by decide)); have hn473_1 : ad471.block ≠ gb470 := Kd.own_blk (Kd.R_ne HO_9.out BK470.out (by decide)); have hn473_2 : ad471.block ≠ gb470 := Kd.own_blk (Kd.R_ne HO_9.out BK470.out (by decide)); have hn473_3 : ad471.block ≠ gb470 := Kd.own_blk (Kd.R_ne HO_9.out BK470.out (by decide)); replace hx473_0 := (cell_far (p := ⟨gb470, 0, none⟩) (by first | (rw [add_block]; exact hn473_0) | (show (Addr.add _ _).block ≠ _; rw [add_block]; exact hn473_0) | exact hn473_0) (.int .i64 ((rd_T39 l1 x92_3).f0))).trans hx473_0; replace hx473_0 := (cell_far (p := ⟨gb470, 1, none⟩) (by first | (rw [add_block]; exact hn473_1) | (show (Addr.add _ _).block ≠ _; rw [add_block]; exact hn473_1) | exact hn473_1) (.int .i64 ((rd_T39 l1 x92_3).f1))).trans hx473_0; replace hx473_0 := (cell_far (p := ⟨gb470, 2, none⟩) (by first | (rw [add_block]; exact hn473_2) | (show (Addr.add _ _).block ≠ _; rw [add_block]; exact hn473_2) | exact hn473_2) (.int .i64 ((rd_T39 l1 x92_3).f2))).trans hx473_0; replace hx473_0 := (cell_far (p := ⟨gb470, 3, none⟩) (by first | (rw [add_block]; exact hn473_3) | (show (Addr.add _ _).block ≠ _; rw [add_block]; exact hn473_3) | exact hn473_3) (.int .i64 ((rd_T39 l1 x92_3).f3))).trans hx473_0; (try have hy473_0 := fun (n_ : Nat) => (show ((((((w70.drewN n_).setCell ⟨gb470, 0, none⟩ (.int .i64 ((rd_T39 l1 x92_3).f0))).setCell ⟨gb470, 1, none⟩ (.int .i64 ((rd_T39 l1 x92_3).f1))).setCell ⟨gb470, 2, none⟩ (.int .i64 ((rd_T39 l1 x92_3).f2))).setCell ⟨gb470, 3, none⟩ (.int .i64 ((rd_T39 l1 x92_3).f3)))).cell? _ = some _ from hx473_0)); clear hn473_0; clear hn473_1; clear hn473_2; clear hn473_3; replace p473 := eq_true p473; replace q473 := eq_true q473)); try go_wp2_with (first | ((with_reducible refine gate_dst (N := 17) rfl ?_); refine box_event ?hg (N := 17) ?hd (cs := #[.int .i64 0, .int .i64 0, .int .i64 0, .int .i64 0]) (t := 39) ?hr ?_; (case hd => rfl); (case hg => rfl); (case hr => first | (go_simp; done) | (go_simp; rfl)); intro gb470 hg w70 hbox hb; have n0_ := Aside0.mk (Kd.R_below (by (with_reducible repeat (first | apply Kd.R_alloc | apply Kd.R_drewN | apply Kd.R_drew)); exact HO_9.out) hb); have n1_ := Aside0.mk (Kd.R_below (by (with_reducible repeat (first | apply Kd.R_alloc | apply Kd.R_drewN | apply Kd.R_drew)); exact HO_14.out) hb); have n2_ := Aside0.mk (below_step (by repeat (first | (with_reducible first | exact HB.out | apply below_alloc | apply pw_below_drewN | apply below_drew1) | exact HB.out)) hb); have n3_ := Aside0.mk (hbox); have n4_ := Aside0.mk ((by rw [hg]; exact (below_size (by repeat (first | (with_reducible first | exact HB.out | apply below_alloc | apply pw_below_drewN | apply below_drew1) | exact HB.out))) : w.heap.size ≤ gb470)); have n5_ := Aside0.mk ((by rw [hg]; exact (below_size (by repeat (first | (with_reducible first | exact HB.out | apply below_alloc | apply pw_below_drewN | apply below_drew1) | exact HB.out))) : w.heap.size ≤ gb470)); clear HO_9; clear HO_14; clear HB; have HO_9 := n0_; have HO_14 := n1_; have HB := n2_; have BK470 := n3_; have GW470 := n4_; have GE470 := n5_; clear n0_ n1_ n2_ n3_ n4_ n5_; clear hb hbox hg; have hcz71_0 : w70.cell? ⟨gb470, 0, none⟩ = some (.int .i64 0) := (blk_cell BK470.out 0).trans rfl; have hcz71_1 : w70.cell? ⟨gb470, 1, none⟩ = some (.int .i64 0) := (blk_cell BK470.out 1).trans rfl; have hcz71_2 : w70.cell? ⟨gb470, 2, none⟩ = some (.int .i64 0) := (blk_cell BK470.out 2).trans rfl; have hcz71_3 : w70.cell? ⟨gb470, 3, none⟩ = some (.int .i64 0) := (blk_cell BK470.out 3).trans rfl; have hfz71_0 := blk_frozen BK470.out 0; have hfz71_1 := blk_frozen BK470.out 1; have hfz71_2 := blk_frozen BK470.out 2; have hfz71_3 := blk_frozen BK470.out 3; obtain ⟨Ao72, co72, eo72⟩ := Kd.R_slice HO_9.out; subst eo72; have p471 : 0 ≤ (((rd_T39 l1 x92_3).f1) : Int) := of_decide_eq_true (by first | (with_reducible assumption) | assumption); have q471 : ((rd_T39 l1 x92_3).f1) < (x9_1.length : Int) := of_decide_eq_true (by first | (with_reducible assumption) | assumption); obtain ⟨ad471, e471, hx471_0⟩ := Kd.at_int (Kd.R_reads' HO_9.out).2.2 ((rd_T39 l1 x92_3).f1) p471 q471; cases e471; have hn471_0 : ad471.block ≠ gb470 := Kd.own_blk (Kd.R_ne HO_9.out BK470.out (by decide)); have hn471_1 : ad471.block ≠ gb470 := Kd.own_blk (Kd.R_ne HO_9.out BK470.out (by decide)); have hn471_2 : ad471.block ≠ gb470 := Kd.own_blk (Kd.R_ne HO_9.out BK470.out (by decide)); have hn471_3 : ad471.block ≠ gb470 := Kd.own_blk (Kd.R_ne HO_9.out BK470.out (by decide)); replace hx471_0 := (cell_far (p := ⟨gb470, 0, none⟩) (by first | (rw [add_block]; exact hn471_0) | (show (Addr.add _ _).block ≠ _; rw [add_block]; exact hn471_0) | exact hn471_0) (.int .i64 ((rd_T39 l1 x92_3).f0))).trans hx471_0; replace hx471_0 := (cell_far (p := ⟨gb470, 1, none⟩) (by first | (rw [add_block]; exact hn471_1) | (show (Addr.add _ _).block ≠ _; rw [add_block]; exact hn471_1) | exact hn471_1) (.int .i64 ((rd_T39 l1 x92_3).f1))).trans hx471_0; replace hx471_0 := (cell_far (p := ⟨gb470, 2, none⟩) (by first | (rw [add_block]; exact hn471_2) | (show (Addr.add _ _).block ≠ _; rw [add_block]; exact hn471_2) | exact hn471_2) (.int .i64 ((rd_T39 l1 x92_3).f2))).trans hx471_0; replace hx471_0 := (cell_far (p := ⟨gb470, 3, none⟩) (by first | (rw [add_block]; exact hn471_3) | (show (Addr.add _ _).block ≠ _; rw [add_block]; exact hn471_3) | exact hn471_3) (.int .i64 ((rd_T39 l1 x92_3).f3))).trans hx471_0; (try have hy471_0 := fun (n_ : Nat) => (show ((((((w70.drewN n_).setCell ⟨gb470, 0, none⟩ (.int .i64 ((rd_T39 l1 x92_3).f0))).setCell ⟨gb470, 1, none⟩ (.int .i64 ((rd_T39 l1 x92_3).f1))).setCell ⟨gb470, 2, none⟩ (.int .i64 ((rd_T39 l1 x92_3).f2))).setCell ⟨gb470, 3, none⟩ (.int .i64 ((rd_T39 l1 x92_3).f3)))).cell? _ = some _ from hx471_0)); clear hn471_0; clear hn471_1; clear hn471_2; clear hn471_3; replace p471 := eq_true p471; replace q471 := eq_true q471; have p472 : 0 ≤ (((rd_T39 l1 x92_3).f1) : Int) := of_decide_eq_true (by first | (with_reducible assumption) | assumption); have q472 : ((rd_T39 l1 x92_3).f1) < (x9_1.length : Int) := of_decide_eq_true (by first | (with_reducible assumption) | assumption); obtain ⟨ad472, e472, hx472_0⟩ := Kd.at_int (Kd.R_reads' HO_9.out).2.2 ((rd_T39 l1 x92_3).f1) p472 q472; obtain rfl : ad471 = ad472 := (by injection e472); have hn472_0 : ad471.block ≠ gb470 := Kd.own_blk (Kd.R_ne HO_9.out BK470.out (by decide)); have hn472_1 : ad471.block ≠ gb470 := Kd.own_blk (Kd.R_ne HO_9.out BK470.out (by decide)); have hn472_2 : ad471.block ≠ gb470 := Kd.own_blk (Kd.R_ne HO_9.out BK470.out (by decide)); have hn472_3 : ad471.block ≠ gb470 := Kd.own_blk (Kd.R_ne HO_9.out BK470.out (by decide)); replace hx472_0 := (cell_far (p := ⟨gb470, 0, none⟩) (by first | (rw [add_block]; exact hn472_0) | (show (Addr.add _ _).block ≠ _; rw [add_block]; exact hn472_0) | exact hn472_0) (.int .i64 ((rd_T39 l1 x92_3).f0))).trans hx472_0; replace hx472_0 := (cell_far (p := ⟨gb470, 1, none⟩) (by first | (rw [add_block]; exact hn472_1) | (show (Addr.add _ _).block ≠ _; rw [add_block]; exact hn472_1) | exact hn472_1) (.int .i64 ((rd_T39 l1 x92_3).f1))).trans hx472_0; replace hx472_0 := (cell_far (p := ⟨gb470, 2, none⟩) (by first | (rw [add_block]; exact hn472_2) | (show (Addr.add _ _).block ≠ _; rw [add_block]; exact hn472_2) | exact hn472_2) (.int .i64 ((rd_T39 l1 x92_3).f2))).trans hx472_0; replace hx472_0 := (cell_far (p := ⟨gb470, 3, none⟩) (by first | (rw [add_block]; exact hn472_3) | (show (Addr.add _ _).block ≠ _; rw [add_block]; exact hn472_3) | exact hn472_3) (.int .i64 ((rd_T39 l1 x92_3).f3))).trans hx472_0; (try have hy472_0 := fun (n_ : Nat) => (show ((((((w70.drewN n_).setCell ⟨gb470, 0, none⟩ (.int .i64 ((rd_T39 l1 x92_3).f0))).setCell ⟨gb470, 1, none⟩ (.int .i64 ((rd_T39 l1 x92_3).f1))).setCell ⟨gb470, 2, none⟩ (.int .i64 ((rd_T39 l1 x92_3).f2))).setCell ⟨gb470, 3, none⟩ (.int .i64 ((rd_T39 l1 x92_3).f3)))).cell? _ = some _ from hx472_0)); clear hn472_0; clear hn472_1; clear hn472_2; clear hn472_3; replace p472 := eq_true p472; replace q472 := eq_true q472; have p473 : 0 ≤ (x15_3 : Int) := of_decide_eq_true (by first | (with_reducible assumption) | assumption); have q473 : x15_3 < (x9_1.length : Int) := of_decide_eq_true (by first | (with_reducible assumption) | assumption); obtain ⟨ad473, e473, hx473_0⟩ := Kd.at_int (Kd.R_reads' HO_9.out).2.2 x15_3 p473 q473; obtain rfl : ad471 = ad473 := (by injection e473); have hn473_0 : ad471.block ≠ gb470 := Kd.own_blk (Kd.R_ne HO_9.out BK470.out (by decide)); have hn473_1 : ad471.block ≠ gb470 := Kd.own_blk (Kd.R_ne HO_9.out BK470.out (by decide)); have hn473_2 : ad471.block ≠ gb470 := Kd.own_blk (Kd.R_ne HO_9.out BK470.out (by decide)); have hn473_3 : ad471.block ≠ gb470 := Kd.own_blk (Kd.R_ne HO_9.out BK470.out (by decide)); replace hx473_0 := (cell_far (p := ⟨gb470, 0, none⟩) (by first | (rw [add_block]; exact hn473_0) | (show (Addr.add _ _).block ≠ _; rw [add_block]; exact hn473_0) | exact hn473_0) (.int .i64 ((rd_T39 l1 x92_3).f0))).trans hx473_0; replace hx473_0 := (cell_far (p := ⟨gb470, 1, none⟩) (by first | (rw [add_block]; exact hn473_1) | (show (Addr.add _ _).block ≠ _; rw [add_block]; exact hn473_1) | exact hn473_1) (.int .i64 ((rd_T39 l1 x92_3).f1))).trans hx473_0; replace hx473_0 := (cell_far (p := ⟨gb470, 2, none⟩) (by first | (rw [add_block]; exact hn473_2) | (show (Addr.add _ _).block ≠ _; rw [add_block]; exact hn473_2) | exact hn473_2) (.int .i64 ((rd_T39 l1 x92_3).f2))).trans hx473_0; replace hx473_0 := (cell_far (p := ⟨gb470, 3, none⟩) (by first | (rw [add_block]; exact hn473_3) | (show (Addr.add _ _).block ≠ _; rw [add_block]; exact hn473_3) | exact hn473_3) (.int .i64 ((rd_T39 l1 x92_3).f3))).trans hx473_0; (try have hy473_0 := fun (n_ : Nat) => (show ((((((w70.drewN n_).setCell ⟨gb470, 0, none⟩ (.int .i64 ((rd_T39 l1 x92_3).f0))).setCell ⟨gb470, 1, none⟩ (.int .i64 ((rd_T39 l1 x92_3).f1))).setCell ⟨gb470, 2, none⟩ (.int .i64 ((rd_T39 l1 x92_3).f2))).setCell ⟨gb470, 3, none⟩ (.int .i64 ((rd_T39 l1 x92_3).f3)))).cell? _ = some _ from hx473_0)); clear hn473_0; clear hn473_1; clear hn473_2; clear hn473_3; replace p473 := eq_true p473; replace q473 := eq_true q473)))
                      go_roundg k3
                      case measure => have := HK1.out; have := HK2.out; have := HK3.out; omega
                      case rel => exact ⟨(x14_3), (x15_3), (wrap64 (x92_3 + 1)), (by first | rfl | (simp; done) | (simp [*]; done)), (by first | rfl | (simp; done) | (simp [*]; done)), H', ⟨by have := HK1.out; have := HK2.out; have := HK3.out; omega⟩, ⟨by (with_reducible repeat (first | apply Kd.R_alloc | apply Kd.R_drewN | apply Kd.R_drew)); exact Kd.R_mono (Kd.R_far (p := ⟨gb470, 3, none⟩) (Kd.R_far (p := ⟨gb470, 2, none⟩) (Kd.R_far (p := ⟨gb470, 1, none⟩) (Kd.R_far (p := ⟨gb470, 0, none⟩) (Kd.R_types HO_9.out BK470.out (by decide)) (fun _ hk => hk.2) (.int .i64 ((rd_T39 l1 x92_3).f0))) (fun _ hk => hk.2) (.int .i64 ((rd_T39 l1 x92_3).f1))) (fun _ hk => hk.2) (.int .i64 ((rd_T39 l1 x92_3).f2))) (fun _ hk => hk.2) (.int .i64 ((rd_T39 l1 x92_3).f3))) (fun _ hk => hk.1)⟩, ⟨by (with_reducible repeat (first | apply Kd.R_alloc | apply Kd.R_drewN | apply Kd.R_drew)); exact Kd.R_mono (Kd.R_far (p := ⟨gb470, 3, none⟩) (Kd.R_far (p := ⟨gb470, 2, none⟩) (Kd.R_far (p := ⟨gb470, 1, none⟩) (Kd.R_far (p := ⟨gb470, 0, none⟩) (Kd.R_types HO_14.out BK470.out (by decide)) (fun _ hk => hk.2) (.int .i64 ((rd_T39 l1 x92_3).f0))) (fun _ hk => hk.2) (.int .i64 ((rd_T39 l1 x92_3).f1))) (fun _ hk => hk.2) (.int .i64 ((rd_T39 l1 x92_3).f2))) (fun _ hk => hk.2) (.int .i64 ((rd_T39 l1 x92_3).f3))) (fun _ hk => hk.1)⟩, ⟨by repeat (first | (with_reducible first | exact HB.out | apply below_alloc | apply pw_below_drewN | apply below_drew1 | refine below_set ?_ GE470.out) | exact HB.out)⟩⟩
                    ·rw [if_neg c62] at H
                     exact absurd H (by simp)
                   ·rw [if_neg c61] at H
                    exact absurd H (by simp)
                  ·rw [if_neg c60] at H
                   have c60b0 : decide (0 ≤ (rd x9_1 ((rd_T39 l1 x92_3).f1))) = false := decide_eq_false c60
                   clear c60
                   have H' := Aside0.mk H
                   clear H
                   have p469 : 0 ≤ (x92_3 : Int) := of_decide_eq_true (by first | (with_reducible assumption) | assumption)
                   have q469 : x92_3 < (l1.length : Int) := of_decide_eq_true (by first | (with_reducible assumption) | assumption)
                   obtain ⟨ad469, e469, hx469_0, hx469_1, hx469_2, hx469_3⟩ := at_T39 HR1.out x92_3 p469 q469
                   cases e469
                   replace hx469_0 := (HB.out.cell (World.block_lt_of_cell? w _ hx469_0)).trans hx469_0
                   replace hx469_1 := (HB.out.cell (World.block_lt_of_cell? w _ hx469_1)).trans hx469_1
                   replace hx469_2 := (HB.out.cell (World.block_lt_of_cell? w _ hx469_2)).trans hx469_2
                   replace hx469_3 := (HB.out.cell (World.block_lt_of_cell? w _ hx469_3)).trans hx469_3
                   replace p469 := eq_true p469
                   replace q469 := eq_true q469
                   go_wp2_with (first | ((with_reducible refine gate_dst (N := 17) rfl ?_); refine box_event ?hg (N := 17) ?hd (cs := #[.int .i64 0, .int .i64 0, .int .i64 0, .int .i64 0]) (t := 39) ?hr ?_; (case hd => rfl); (case hg => rfl); (case hr => first | (go_simp; done) | (go_simp; rfl)); intro gb470 hg w73 hbox hb; have n0_ := Aside0.mk (Kd.R_below (by (with_reducible repeat (first | apply Kd.R_alloc | apply Kd.R_drewN | apply Kd.R_drew)); exact HO_9.out) hb); have n1_ := Aside0.mk (Kd.R_below (by (with_reducible repeat (first | apply Kd.R_alloc | apply Kd.R_drewN | apply Kd.R_drew)); exact HO_14.out) hb); have n2_ := Aside0.mk (below_step (by repeat (first | (with_reducible first | exact HB.out | apply below_alloc | apply pw_below_drewN | apply below_drew1) | exact HB.out)) hb); have n3_ := Aside0.mk (hbox); have n4_ := Aside0.mk ((by rw [hg]; exact (below_size (by repeat (first | (with_reducible first | exact HB.out | apply below_alloc | apply pw_below_drewN | apply below_drew1) | exact HB.out))) : w.heap.size ≤ gb470)); have n5_ := Aside0.mk ((by rw [hg]; exact (below_size (by repeat (first | (with_reducible first | exact HB.out | apply below_alloc | apply pw_below_drewN | apply below_drew1) | exact HB.out))) : w.heap.size ≤ gb470)); clear HO_9; clear HO_14; clear HB; have HO_9 := n0_; have HO_14 := n1_; have HB := n2_; have BK470 := n3_; have GW470 := n4_; have GE470 := n5_; clear n0_ n1_ n2_ n3_ n4_ n5_; clear hb hbox hg; have hcz74_0 : w73.cell? ⟨gb470, 0, none⟩ = some (.int .i64 0) := (blk_cell BK470.out 0).trans rfl; have hcz74_1 : w73.cell? ⟨gb470, 1, none⟩ = some (.int .i64 0) := (blk_cell BK470.out 1).trans rfl; have hcz74_2 : w73.cell? ⟨gb470, 2, none⟩ = some (.int .i64 0) := (blk_cell BK470.out 2).trans rfl; have hcz74_3 : w73.cell? ⟨gb470, 3, none⟩ = some (.int .i64 0) := (blk_cell BK470.out 3).trans rfl; have hfz74_0 := blk_frozen BK470.out 0; have hfz74_1 := blk_frozen BK470.out 1; have hfz74_2 := blk_frozen BK470.out 2; have hfz74_3 := blk_frozen BK470.out 3; obtain ⟨Ao75, co75, eo75⟩ := Kd.R_slice HO_9.out; subst eo75; have p471 : 0 ≤ (((rd_T39 l1 x92_3).f1) : Int) := of_decide_eq_true (by first | (with_reducible assumption) | assumption); have q471 : ((rd_T39 l1 x92_3).f1) < (x9_1.length : Int) := of_decide_eq_true (by first | (with_reducible assumption) | assumption); obtain ⟨ad471, e471, hx471_0⟩ := Kd.at_int (Kd.R_reads' HO_9.out).2.2 ((rd_T39 l1 x92_3).f1) p471 q471; cases e471; have hn471_0 : ad471.block ≠ gb470 := Kd.own_blk (Kd.R_ne HO_9.out BK470.out (by decide)); have hn471_1 : ad471.block ≠ gb470 := Kd.own_blk (Kd.R_ne HO_9.out BK470.out (by decide)); have hn471_2 : ad471.block ≠ gb470 := Kd.own_blk (Kd.R_ne HO_9.out BK470.out (by decide)); have hn471_3 : ad471.block ≠ gb470 := Kd.own_blk (Kd.R_ne HO_9.out BK470.out (by decide)); replace hx471_0 := (cell_far (p := ⟨gb470, 0, none⟩) (by first | (rw [add_block]; exact hn471_0) | (show (Addr.add _ _).block ≠ _; rw [add_block]; exact hn471_0) | exact hn471_0) (.int .i64 ((rd_T39 l1 x92_3).f0))).trans hx471_0; replace hx471_0 := (cell_far (p := ⟨gb470, 1, none⟩) (by first | (rw [add_block]; exact hn471_1) | (show (Addr.add _ _).block ≠ _; rw [add_block]; exact hn471_1) | exact hn471_1) (.int .i64 ((rd_T39 l1 x92_3).f1))).trans hx471_0; replace hx471_0 := (cell_far (p := ⟨gb470, 2, none⟩) (by first | (rw [add_block]; exact hn471_2) | (show (Addr.add _ _).block ≠ _; rw [add_block]; exact hn471_2) | exact hn471_2) (.int .i64 ((rd_T39 l1 x92_3).f2))).trans hx471_0; replace hx471_0 := (cell_far (p := ⟨gb470, 3, none⟩) (by first | (rw [add_block]; exact hn471_3) | (show (Addr.add _ _).block ≠ _; rw [add_block]; exact hn471_3) | exact hn471_3) (.int .i64 ((rd_T39 l1 x92_3).f3))).trans hx471_0; (try have hy471_0 := fun (n_ : Nat) => (show ((((((w73.drewN n_).setCell ⟨gb470, 0, none⟩ (.int .i64 ((rd_T39 l1 x92_3).f0))).setCell ⟨gb470, 1, none⟩ (.int .i64 ((rd_T39 l1 x92_3).f1))).setCell ⟨gb470, 2, none⟩ (.int .i64 ((rd_T39 l1 x92_3).f2))).setCell ⟨gb470, 3, none⟩ (.int .i64 ((rd_T39 l1 x92_3).f3)))).cell? _ = some _ from hx471_0)); clear hn471_0; clear hn471_1; clear hn471_2; clear hn471_3; replace p471 := eq_true p471; replace q471 := eq_true q471))
                   repeat (go_quiet (first | ((with_reducible refine gate_dst (N := 17) rfl ?_); refine box_event ?hg (N := 17) ?hd (cs := #[.int .i64 0, .int .i64 0, .int .i64 0, .int .i64 0]) (t := 39) ?hr ?_; (case hd => rfl); (case hg => rfl); (case hr => first | (go_simp; done) | (go_simp; rfl)); intro gb470 hg w73 hbox hb; have n0_ := Aside0.mk (Kd.R_below (by (with_reducible repeat (first | apply Kd.R_alloc | apply Kd.R_drewN | apply Kd.R_drew)); exact HO_9.out) hb); have n1_ := Aside0.mk (Kd.R_below (by (with_reducible repeat (first | apply Kd.R_alloc | apply Kd.R_drewN | apply Kd.R_drew)); exact HO_14.out) hb); have n2_ := Aside0.mk (below_step (by repeat (first | (with_reducible first | exact HB.out | apply below_alloc | apply pw_below_drewN | apply below_drew1) | exact HB.out)) hb); have n3_ := Aside0.mk (hbox); have n4_ := Aside0.mk ((by rw [hg]; exact (below_size (by repeat (first | (with_reducible first | exact HB.out | apply below_alloc | apply pw_below_drewN | apply below_drew1) | exact HB.out))) : w.heap.size ≤ gb470)); have n5_ := Aside0.mk ((by rw [hg]; exact (below_size (by repeat (first | (with_reducible first | exact HB.out | apply below_alloc | apply pw_below_drewN | apply below_drew1) | exact HB.out))) : w.heap.size ≤ gb470)); clear HO_9; clear HO_14; clear HB; have HO_9 := n0_; have HO_14 := n1_; have HB := n2_; have BK470 := n3_; have GW470 := n4_; have GE470 := n5_; clear n0_ n1_ n2_ n3_ n4_ n5_; clear hb hbox hg; have hcz74_0 : w73.cell? ⟨gb470, 0, none⟩ = some (.int .i64 0) := (blk_cell BK470.out 0).trans rfl; have hcz74_1 : w73.cell? ⟨gb470, 1, none⟩ = some (.int .i64 0) := (blk_cell BK470.out 1).trans rfl; have hcz74_2 : w73.cell? ⟨gb470, 2, none⟩ = some (.int .i64 0) := (blk_cell BK470.out 2).trans rfl; have hcz74_3 : w73.cell? ⟨gb470, 3, none⟩ = some (.int .i64 0) := (blk_cell BK470.out 3).trans rfl; have hfz74_0 := blk_frozen BK470.out 0; have hfz74_1 := blk_frozen BK470.out 1; have hfz74_2 := blk_frozen BK470.out 2; have hfz74_3 := blk_frozen BK470.out 3; obtain ⟨Ao75, co75, eo75⟩ := Kd.R_slice HO_9.out; subst eo75; have p471 : 0 ≤ (((rd_T39 l1 x92_3).f1) : Int) := of_decide_eq_true (by first | (with_reducible assumption) | assumption); have q471 : ((rd_T39 l1 x92_3).f1) < (x9_1.length : Int) := of_decide_eq_true (by first | (with_reducible assumption) | assumption); obtain ⟨ad471, e471, hx471_0⟩ := Kd.at_int (Kd.R_reads' HO_9.out).2.2 ((rd_T39 l1 x92_3).f1) p471 q471; cases e471; have hn471_0 : ad471.block ≠ gb470 := Kd.own_blk (Kd.R_ne HO_9.out BK470.out (by decide)); have hn471_1 : ad471.block ≠ gb470 := Kd.own_blk (Kd.R_ne HO_9.out BK470.out (by decide)); have hn471_2 : ad471.block ≠ gb470 := Kd.own_blk (Kd.R_ne HO_9.out BK470.out (by decide)); have hn471_3 : ad471.block ≠ gb470 := Kd.own_blk (Kd.R_ne HO_9.out BK470.out (by decide)); replace hx471_0 := (cell_far (p := ⟨gb470, 0, none⟩) (by first | (rw [add_block]; exact hn471_0) | (show (Addr.add _ _).block ≠ _; rw [add_block]; exact hn471_0) | exact hn471_0) (.int .i64 ((rd_T39 l1 x92_3).f0))).trans hx471_0; replace hx471_0 := (cell_far (p := ⟨gb470, 1, none⟩) (by first | (rw [add_block]; exact hn471_1) | (show (Addr.add _ _).block ≠ _; rw [add_block]; exact hn471_1) | exact hn471_1) (.int .i64 ((rd_T39 l1 x92_3).f1))).trans hx471_0; replace hx471_0 := (cell_far (p := ⟨gb470, 2, none⟩) (by first | (rw [add_block]; exact hn471_2) | (show (Addr.add _ _).block ≠ _; rw [add_block]; exact hn471_2) | exact hn471_2) (.int .i64 ((rd_T39 l1 x92_3).f2))).trans hx471_0; replace hx471_0 := (cell_far (p := ⟨gb470, 3, none⟩) (by first | (rw [add_block]; exact hn471_3) | (show (Addr.add _ _).block ≠ _; rw [add_block]; exact hn471_3) | exact hn471_3) (.int .i64 ((rd_T39 l1 x92_3).f3))).trans hx471_0; (try have hy471_0 := fun (n_ : Nat) => (show ((((((w73.drewN n_).setCell ⟨gb470, 0, none⟩ (.int .i64 ((rd_T39 l1 x92_3).f0))).setCell ⟨gb470, 1, none⟩ (.int .i64 ((rd_T39 l1 x92_3).f1))).setCell ⟨gb470, 2, none⟩ (.int .i64 ((rd_T39 l1 x92_3).f2))).setCell ⟨gb470, 3, none⟩ (.int .i64 ((rd_T39 l1 x92_3).f3)))).cell? _ = some _ from hx471_0)); clear hn471_0; clear hn471_1; clear hn471_2; clear hn471_3; replace p471 := eq_true p471; replace q471 := eq_true q471)); try go_wp2_with (first | ((with_reducible refine gate_dst (N := 17) rfl ?_); refine box_event ?hg (N := 17) ?hd (cs := #[.int .i64 0, .int .i64 0, .int .i64 0, .int .i64 0]) (t := 39) ?hr ?_; (case hd => rfl); (case hg => rfl); (case hr => first | (go_simp; done) | (go_simp; rfl)); intro gb470 hg w73 hbox hb; have n0_ := Aside0.mk (Kd.R_below (by (with_reducible repeat (first | apply Kd.R_alloc | apply Kd.R_drewN | apply Kd.R_drew)); exact HO_9.out) hb); have n1_ := Aside0.mk (Kd.R_below (by (with_reducible repeat (first | apply Kd.R_alloc | apply Kd.R_drewN | apply Kd.R_drew)); exact HO_14.out) hb); have n2_ := Aside0.mk (below_step (by repeat (first | (with_reducible first | exact HB.out | apply below_alloc | apply pw_below_drewN | apply below_drew1) | exact HB.out)) hb); have n3_ := Aside0.mk (hbox); have n4_ := Aside0.mk ((by rw [hg]; exact (below_size (by repeat (first | (with_reducible first | exact HB.out | apply below_alloc | apply pw_below_drewN | apply below_drew1) | exact HB.out))) : w.heap.size ≤ gb470)); have n5_ := Aside0.mk ((by rw [hg]; exact (below_size (by repeat (first | (with_reducible first | exact HB.out | apply below_alloc | apply pw_below_drewN | apply below_drew1) | exact HB.out))) : w.heap.size ≤ gb470)); clear HO_9; clear HO_14; clear HB; have HO_9 := n0_; have HO_14 := n1_; have HB := n2_; have BK470 := n3_; have GW470 := n4_; have GE470 := n5_; clear n0_ n1_ n2_ n3_ n4_ n5_; clear hb hbox hg; have hcz74_0 : w73.cell? ⟨gb470, 0, none⟩ = some (.int .i64 0) := (blk_cell BK470.out 0).trans rfl; have hcz74_1 : w73.cell? ⟨gb470, 1, none⟩ = some (.int .i64 0) := (blk_cell BK470.out 1).trans rfl; have hcz74_2 : w73.cell? ⟨gb470, 2, none⟩ = some (.int .i64 0) := (blk_cell BK470.out 2).trans rfl; have hcz74_3 : w73.cell? ⟨gb470, 3, none⟩ = some (.int .i64 0) := (blk_cell BK470.out 3).trans rfl; have hfz74_0 := blk_frozen BK470.out 0; have hfz74_1 := blk_frozen BK470.out 1; have hfz74_2 := blk_frozen BK470.out 2; have hfz74_3 := blk_frozen BK470.out 3; obtain ⟨Ao75, co75, eo75⟩ := Kd.R_slice HO_9.out; subst eo75; have p471 : 0 ≤ (((rd_T39 l1 x92_3).f1) : Int) := of_decide_eq_true (by first | (with_reducible assumption) | assumption); have q471 : ((rd_T39 l1 x92_3).f1) < (x9_1.length : Int) := of_decide_eq_true (by first | (with_reducible assumption) | assumption); obtain ⟨ad471, e471, hx471_0⟩ := Kd.at_int (Kd.R_reads' HO_9.out).2.2 ((rd_T39 l1 x92_3).f1) p471 q471; cases e471; have hn471_0 : ad471.block ≠ gb470 := Kd.own_blk (Kd.R_ne HO_9.out BK470.out (by decide)); have hn471_1 : ad471.block ≠ gb470 := Kd.own_blk (Kd.R_ne HO_9.out BK470.out (by decide)); have hn471_2 : ad471.block ≠ gb470 := Kd.own_blk (Kd.R_ne HO_9.out BK470.out (by decide)); have hn471_3 : ad471.block ≠ gb470 := Kd.own_blk (Kd.R_ne HO_9.out BK470.out (by decide)); replace hx471_0 := (cell_far (p := ⟨gb470, 0, none⟩) (by first | (rw [add_block]; exact hn471_0) | (show (Addr.add _ _).block ≠ _; rw [add_block]; exact hn471_0) | exact hn471_0) (.int .i64 ((rd_T39 l1 x92_3).f0))).trans hx471_0; replace hx471_0 := (cell_far (p := ⟨gb470, 1, none⟩) (by first | (rw [add_block]; exact hn471_1) | (show (Addr.add _ _).block ≠ _; rw [add_block]; exact hn471_1) | exact hn471_1) (.int .i64 ((rd_T39 l1 x92_3).f1))).trans hx471_0; replace hx471_0 := (cell_far (p := ⟨gb470, 2, none⟩) (by first | (rw [add_block]; exact hn471_2) | (show (Addr.add _ _).block ≠ _; rw [add_block]; exact hn471_2) | exact hn471_2) (.int .i64 ((rd_T39 l1 x92_3).f2))).trans hx471_0; replace hx471_0 := (cell_far (p := ⟨gb470, 3, none⟩) (by first | (rw [add_block]; exact hn471_3) | (show (Addr.add _ _).block ≠ _; rw [add_block]; exact hn471_3) | exact hn471_3) (.int .i64 ((rd_T39 l1 x92_3).f3))).trans hx471_0; (try have hy471_0 := fun (n_ : Nat) => (show ((((((w73.drewN n_).setCell ⟨gb470, 0, none⟩ (.int .i64 ((rd_T39 l1 x92_3).f0))).setCell ⟨gb470, 1, none⟩ (.int .i64 ((rd_T39 l1 x92_3).f1))).setCell ⟨gb470, 2, none⟩ (.int .i64 ((rd_T39 l1 x92_3).f2))).setCell ⟨gb470, 3, none⟩ (.int .i64 ((rd_T39 l1 x92_3).f3)))).cell? _ = some _ from hx471_0)); clear hn471_0; clear hn471_1; clear hn471_2; clear hn471_3; replace p471 := eq_true p471; replace q471 := eq_true q471)))
                   go_roundg k3
                   case measure => have := HK1.out; have := HK2.out; have := HK3.out; omega
                   case rel => exact ⟨(x14_3), (x15_3), (wrap64 (x92_3 + 1)), (by first | rfl | (simp; done) | (simp [*]; done)), (by first | rfl | (simp; done) | (simp [*]; done)), H', ⟨by have := HK1.out; have := HK2.out; have := HK3.out; omega⟩, ⟨by (with_reducible repeat (first | apply Kd.R_alloc | apply Kd.R_drewN | apply Kd.R_drew)); exact Kd.R_mono (Kd.R_far (p := ⟨gb470, 3, none⟩) (Kd.R_far (p := ⟨gb470, 2, none⟩) (Kd.R_far (p := ⟨gb470, 1, none⟩) (Kd.R_far (p := ⟨gb470, 0, none⟩) (Kd.R_types HO_9.out BK470.out (by decide)) (fun _ hk => hk.2) (.int .i64 ((rd_T39 l1 x92_3).f0))) (fun _ hk => hk.2) (.int .i64 ((rd_T39 l1 x92_3).f1))) (fun _ hk => hk.2) (.int .i64 ((rd_T39 l1 x92_3).f2))) (fun _ hk => hk.2) (.int .i64 ((rd_T39 l1 x92_3).f3))) (fun _ hk => hk.1)⟩, ⟨by (with_reducible repeat (first | apply Kd.R_alloc | apply Kd.R_drewN | apply Kd.R_drew)); exact Kd.R_mono (Kd.R_far (p := ⟨gb470, 3, none⟩) (Kd.R_far (p := ⟨gb470, 2, none⟩) (Kd.R_far (p := ⟨gb470, 1, none⟩) (Kd.R_far (p := ⟨gb470, 0, none⟩) (Kd.R_types HO_14.out BK470.out (by decide)) (fun _ hk => hk.2) (.int .i64 ((rd_T39 l1 x92_3).f0))) (fun _ hk => hk.2) (.int .i64 ((rd_T39 l1 x92_3).f1))) (fun _ hk => hk.2) (.int .i64 ((rd_T39 l1 x92_3).f2))) (fun _ hk => hk.2) (.int .i64 ((rd_T39 l1 x92_3).f3))) (fun _ hk => hk.1)⟩, ⟨by repeat (first | (with_reducible first | exact HB.out | apply below_alloc | apply pw_below_drewN | apply below_drew1 | refine below_set ?_ GE470.out) | exact HB.out)⟩⟩
                 ·rw [if_neg c59] at H
                  exact absurd H (by simp)
                ·rw [if_neg c58] at H
                 exact absurd H (by simp)
               ·rw [if_neg c57] at H
                have c57b0 : (((rd_T39 l1 x92_3).f0) == x15_3) = false := beq_eq_false_iff_ne.mpr c57
                have c57b1 : (((rd_T39 l1 x92_3).f0) != x15_3) = true := bne_iff_ne.mpr c57
                have H' := Aside0.mk H
                clear H
                have p469 : 0 ≤ (x92_3 : Int) := of_decide_eq_true (by first | (with_reducible assumption) | assumption)
                have q469 : x92_3 < (l1.length : Int) := of_decide_eq_true (by first | (with_reducible assumption) | assumption)
                obtain ⟨ad469, e469, hx469_0, hx469_1, hx469_2, hx469_3⟩ := at_T39 HR1.out x92_3 p469 q469
                cases e469
                replace hx469_0 := (HB.out.cell (World.block_lt_of_cell? w _ hx469_0)).trans hx469_0
                replace hx469_1 := (HB.out.cell (World.block_lt_of_cell? w _ hx469_1)).trans hx469_1
                replace hx469_2 := (HB.out.cell (World.block_lt_of_cell? w _ hx469_2)).trans hx469_2
                replace hx469_3 := (HB.out.cell (World.block_lt_of_cell? w _ hx469_3)).trans hx469_3
                replace p469 := eq_true p469
                replace q469 := eq_true q469
                go_wp2_with (first | ((with_reducible refine gate_dst (N := 17) rfl ?_); refine box_event ?hg (N := 17) ?hd (cs := #[.int .i64 0, .int .i64 0, .int .i64 0, .int .i64 0]) (t := 39) ?hr ?_; (case hd => rfl); (case hg => rfl); (case hr => first | (go_simp; done) | (go_simp; rfl)); intro gb470 hg w76 hbox hb; have n0_ := Aside0.mk (Kd.R_below (by (with_reducible repeat (first | apply Kd.R_alloc | apply Kd.R_drewN | apply Kd.R_drew)); exact HO_9.out) hb); have n1_ := Aside0.mk (Kd.R_below (by (with_reducible repeat (first | apply Kd.R_alloc | apply Kd.R_drewN | apply Kd.R_drew)); exact HO_14.out) hb); have n2_ := Aside0.mk (below_step (by repeat (first | (with_reducible first | exact HB.out | apply below_alloc | apply pw_below_drewN | apply below_drew1) | exact HB.out)) hb); have n3_ := Aside0.mk (hbox); have n4_ := Aside0.mk ((by rw [hg]; exact (below_size (by repeat (first | (with_reducible first | exact HB.out | apply below_alloc | apply pw_below_drewN | apply below_drew1) | exact HB.out))) : w.heap.size ≤ gb470)); have n5_ := Aside0.mk ((by rw [hg]; exact (below_size (by repeat (first | (with_reducible first | exact HB.out | apply below_alloc | apply pw_below_drewN | apply below_drew1) | exact HB.out))) : w.heap.size ≤ gb470)); clear HO_9; clear HO_14; clear HB; have HO_9 := n0_; have HO_14 := n1_; have HB := n2_; have BK470 := n3_; have GW470 := n4_; have GE470 := n5_; clear n0_ n1_ n2_ n3_ n4_ n5_; clear hb hbox hg; have hcz77_0 : w76.cell? ⟨gb470, 0, none⟩ = some (.int .i64 0) := (blk_cell BK470.out 0).trans rfl; have hcz77_1 : w76.cell? ⟨gb470, 1, none⟩ = some (.int .i64 0) := (blk_cell BK470.out 1).trans rfl; have hcz77_2 : w76.cell? ⟨gb470, 2, none⟩ = some (.int .i64 0) := (blk_cell BK470.out 2).trans rfl; have hcz77_3 : w76.cell? ⟨gb470, 3, none⟩ = some (.int .i64 0) := (blk_cell BK470.out 3).trans rfl; have hfz77_0 := blk_frozen BK470.out 0; have hfz77_1 := blk_frozen BK470.out 1; have hfz77_2 := blk_frozen BK470.out 2; have hfz77_3 := blk_frozen BK470.out 3))
                repeat (go_quiet (first | ((with_reducible refine gate_dst (N := 17) rfl ?_); refine box_event ?hg (N := 17) ?hd (cs := #[.int .i64 0, .int .i64 0, .int .i64 0, .int .i64 0]) (t := 39) ?hr ?_; (case hd => rfl); (case hg => rfl); (case hr => first | (go_simp; done) | (go_simp; rfl)); intro gb470 hg w76 hbox hb; have n0_ := Aside0.mk (Kd.R_below (by (with_reducible repeat (first | apply Kd.R_alloc | apply Kd.R_drewN | apply Kd.R_drew)); exact HO_9.out) hb); have n1_ := Aside0.mk (Kd.R_below (by (with_reducible repeat (first | apply Kd.R_alloc | apply Kd.R_drewN | apply Kd.R_drew)); exact HO_14.out) hb); have n2_ := Aside0.mk (below_step (by repeat (first | (with_reducible first | exact HB.out | apply below_alloc | apply pw_below_drewN | apply below_drew1) | exact HB.out)) hb); have n3_ := Aside0.mk (hbox); have n4_ := Aside0.mk ((by rw [hg]; exact (below_size (by repeat (first | (with_reducible first | exact HB.out | apply below_alloc | apply pw_below_drewN | apply below_drew1) | exact HB.out))) : w.heap.size ≤ gb470)); have n5_ := Aside0.mk ((by rw [hg]; exact (below_size (by repeat (first | (with_reducible first | exact HB.out | apply below_alloc | apply pw_below_drewN | apply below_drew1) | exact HB.out))) : w.heap.size ≤ gb470)); clear HO_9; clear HO_14; clear HB; have HO_9 := n0_; have HO_14 := n1_; have HB := n2_; have BK470 := n3_; have GW470 := n4_; have GE470 := n5_; clear n0_ n1_ n2_ n3_ n4_ n5_; clear hb hbox hg; have hcz77_0 : w76.cell? ⟨gb470, 0, none⟩ = some (.int .i64 0) := (blk_cell BK470.out 0).trans rfl; have hcz77_1 : w76.cell? ⟨gb470, 1, none⟩ = some (.int .i64 0) := (blk_cell BK470.out 1).trans rfl; have hcz77_2 : w76.cell? ⟨gb470, 2, none⟩ = some (.int .i64 0) := (blk_cell BK470.out 2).trans rfl; have hcz77_3 : w76.cell? ⟨gb470, 3, none⟩ = some (.int .i64 0) := (blk_cell BK470.out 3).trans rfl; have hfz77_0 := blk_frozen BK470.out 0; have hfz77_1 := blk_frozen BK470.out 1; have hfz77_2 := blk_frozen BK470.out 2; have hfz77_3 := blk_frozen BK470.out 3)); try go_wp2_with (first | ((with_reducible refine gate_dst (N := 17) rfl ?_); refine box_event ?hg (N := 17) ?hd (cs := #[.int .i64 0, .int .i64 0, .int .i64 0, .int .i64 0]) (t := 39) ?hr ?_; (case hd => rfl); (case hg => rfl); (case hr => first | (go_simp; done) | (go_simp; rfl)); intro gb470 hg w76 hbox hb; have n0_ := Aside0.mk (Kd.R_below (by (with_reducible repeat (first | apply Kd.R_alloc | apply Kd.R_drewN | apply Kd.R_drew)); exact HO_9.out) hb); have n1_ := Aside0.mk (Kd.R_below (by (with_reducible repeat (first | apply Kd.R_alloc | apply Kd.R_drewN | apply Kd.R_drew)); exact HO_14.out) hb); have n2_ := Aside0.mk (below_step (by repeat (first | (with_reducible first | exact HB.out | apply below_alloc | apply pw_below_drewN | apply below_drew1) | exact HB.out)) hb); have n3_ := Aside0.mk (hbox); have n4_ := Aside0.mk ((by rw [hg]; exact (below_size (by repeat (first | (with_reducible first | exact HB.out | apply below_alloc | apply pw_below_drewN | apply below_drew1) | exact HB.out))) : w.heap.size ≤ gb470)); have n5_ := Aside0.mk ((by rw [hg]; exact (below_size (by repeat (first | (with_reducible first | exact HB.out | apply below_alloc | apply pw_below_drewN | apply below_drew1) | exact HB.out))) : w.heap.size ≤ gb470)); clear HO_9; clear HO_14; clear HB; have HO_9 := n0_; have HO_14 := n1_; have HB := n2_; have BK470 := n3_; have GW470 := n4_; have GE470 := n5_; clear n0_ n1_ n2_ n3_ n4_ n5_; clear hb hbox hg; have hcz77_0 : w76.cell? ⟨gb470, 0, none⟩ = some (.int .i64 0) := (blk_cell BK470.out 0).trans rfl; have hcz77_1 : w76.cell? ⟨gb470, 1, none⟩ = some (.int .i64 0) := (blk_cell BK470.out 1).trans rfl; have hcz77_2 : w76.cell? ⟨gb470, 2, none⟩ = some (.int .i64 0) := (blk_cell BK470.out 2).trans rfl; have hcz77_3 : w76.cell? ⟨gb470, 3, none⟩ = some (.int .i64 0) := (blk_cell BK470.out 3).trans rfl; have hfz77_0 := blk_frozen BK470.out 0; have hfz77_1 := blk_frozen BK470.out 1; have hfz77_2 := blk_frozen BK470.out 2; have hfz77_3 := blk_frozen BK470.out 3)))
                go_roundg k3
                case measure => have := HK1.out; have := HK2.out; have := HK3.out; omega
                case rel => exact ⟨(x14_3), (x15_3), (wrap64 (x92_3 + 1)), (by first | rfl | (simp; done) | (simp [*]; done)), (by first | rfl | (simp; done) | (simp [*]; done)), H', ⟨by have := HK1.out; have := HK2.out; have := HK3.out; omega⟩, ⟨by (with_reducible repeat (first | apply Kd.R_alloc | apply Kd.R_drewN | apply Kd.R_drew)); exact Kd.R_mono (Kd.R_far (p := ⟨gb470, 3, none⟩) (Kd.R_far (p := ⟨gb470, 2, none⟩) (Kd.R_far (p := ⟨gb470, 1, none⟩) (Kd.R_far (p := ⟨gb470, 0, none⟩) (Kd.R_types HO_9.out BK470.out (by decide)) (fun _ hk => hk.2) (.int .i64 ((rd_T39 l1 x92_3).f0))) (fun _ hk => hk.2) (.int .i64 ((rd_T39 l1 x92_3).f1))) (fun _ hk => hk.2) (.int .i64 ((rd_T39 l1 x92_3).f2))) (fun _ hk => hk.2) (.int .i64 ((rd_T39 l1 x92_3).f3))) (fun _ hk => hk.1)⟩, ⟨by (with_reducible repeat (first | apply Kd.R_alloc | apply Kd.R_drewN | apply Kd.R_drew)); exact Kd.R_mono (Kd.R_far (p := ⟨gb470, 3, none⟩) (Kd.R_far (p := ⟨gb470, 2, none⟩) (Kd.R_far (p := ⟨gb470, 1, none⟩) (Kd.R_far (p := ⟨gb470, 0, none⟩) (Kd.R_types HO_14.out BK470.out (by decide)) (fun _ hk => hk.2) (.int .i64 ((rd_T39 l1 x92_3).f0))) (fun _ hk => hk.2) (.int .i64 ((rd_T39 l1 x92_3).f1))) (fun _ hk => hk.2) (.int .i64 ((rd_T39 l1 x92_3).f2))) (fun _ hk => hk.2) (.int .i64 ((rd_T39 l1 x92_3).f3))) (fun _ hk => hk.1)⟩, ⟨by repeat (first | (with_reducible first | exact HB.out | apply below_alloc | apply pw_below_drewN | apply below_drew1 | refine below_set ?_ GE470.out) | exact HB.out)⟩⟩
              ·rw [if_neg c56] at H
               exact absurd H (by simp)
             ·rw [if_neg c55] at H
              exact absurd H (by simp)
            ·rw [if_neg c54] at H
             have c54b0 : decide (x92_3 < (l1.length : Int)) = false := decide_eq_false c54
             clear c54
             have H' := Aside0.mk H
             clear H
             go_wp2
             repeat (go_quiet (fail); try go_wp2)
             go_roundg k3
             case measure => have := HK1.out; have := HK2.out; have := HK3.out; omega
             case rel => exact ⟨(x14_3), (x15_3), (by first | rfl | (simp; done) | (simp [*]; done)), H', ⟨by have := HK1.out; have := HK2.out; have := HK3.out; omega⟩, ⟨by (with_reducible repeat (first | apply Kd.R_alloc | apply Kd.R_drewN | apply Kd.R_drew)); exact HO_9.out⟩, ⟨by (with_reducible repeat (first | apply Kd.R_alloc | apply Kd.R_drewN | apply Kd.R_drew)); exact HO_14.out⟩, ⟨by repeat (first | (with_reducible first | exact HB.out | apply below_alloc | apply pw_below_drewN | apply below_drew1) | exact HB.out)⟩⟩
   ·rw [if_neg c7] at H
    exact absurd H (by simp)
  ·rw [if_neg c6] at H
   exact absurd H (by simp)
 ·rw [if_neg c5] at H
  have c5b0 : (t455 == 0) = false := beq_eq_false_iff_ne.mpr c5
  have c5b1 : (t455 != 0) = true := bne_iff_ne.mpr c5
  simp only [Option.some.injEq, Prod.mk.injEq] at H
  obtain ⟨rfl, rfl⟩ := H
  go_enter Try.func18, Try.ntmps18
  go_wp2_with (first | ((with_reducible refine gate_dst (N := 21) rfl ?_); refine Kd.R_lit (Kd.int .i64) _ 2 ?hg (N := 21) ?hd (xs := ([a2] : List Int)) (inner := [.int .i64 a2]) (ok := fun _ => True) (okp := fun _ => True) ?hr ?hp (fun _ hk => hk) trivial (Below.refl _ _) (Nat.le_refl _) (by simp) ?_; (case hd => rfl); (case hg => rfl); (case hr => first | (go_simp; done) | (go_simp; rfl)); (case hp => exact (Reps.one (show Kd.M (Kd.int .i64) _ _ _ a2 [.int .i64 a2] from rfl) (Reps.none _ _))); intro v453 w78 ho79 hb hg_ hnew_; clear hg_ hnew_; (first | rw [← Ny452.out] at ho79 | (simp only [Int.reduceToNat] at ho79; rw [← Ny452.out] at ho79)); have n0_ := Aside0.mk (Kd.R_lower ho79 (below_size (by repeat (first | (with_reducible first | exact HB.out | apply below_alloc | apply pw_below_drewN | apply below_drew1) | exact HB.out)))); have n1_ := Aside0.mk (below_step (by repeat (first | (with_reducible first | exact HB.out | apply below_alloc | apply pw_below_drewN | apply below_drew1) | exact HB.out)) hb); clear HB; have HO454 := n0_; have HB := n1_; clear n0_ n1_; clear hb ho79; obtain ⟨Ao80, co80, eo80⟩ := Kd.R_slice HO454.out; subst eo80) | (go_at_call 34; (with_reducible refine (impl_nodeAsked.calls k a0 _ _ l1 _ _ y452 t455 _ ?side1 ?side2 ?side3 ?side4 A4.out).mono ?_); (case side1 => repeat (first | exact (Kd.C_below HR1.out HB.out) | (with_reducible refine Kd.C_alloc ?_ _) | (with_reducible refine Kd.C_drewN ?_ _) | (with_reducible refine Kd.C_drew ?_))); (case side2 => exact HC1.out); (case side3 => repeat (first | exact (Kd.R_reads' HO454.out).2.2 | (with_reducible refine Kd.C_alloc ?_ _) | (with_reducible refine Kd.C_drewN ?_ _) | (with_reducible refine Kd.C_drew ?_))); (case side4 => exact (Kd.R_reads' HO454.out).2.1); rintro e w81 ⟨rfl, hb⟩; have n0_ := Aside0.mk (Kd.R_below (by (with_reducible repeat (first | apply Kd.R_alloc | apply Kd.R_drewN | apply Kd.R_drew)); exact HO454.out) hb); have n1_ := Aside0.mk (below_step (by repeat (first | (with_reducible first | exact HB.out | apply below_alloc | apply pw_below_drewN | apply below_drew1) | exact HB.out)) hb); clear HO454; clear HB; have HO454 := n0_; have HB := n1_; clear n0_ n1_; (try clear hb); (try clear hb2); (try clear hk); (try clear hi)))
  repeat (go_quiet (first | ((with_reducible refine gate_dst (N := 21) rfl ?_); refine Kd.R_lit (Kd.int .i64) _ 2 ?hg (N := 21) ?hd (xs := ([a2] : List Int)) (inner := [.int .i64 a2]) (ok := fun _ => True) (okp := fun _ => True) ?hr ?hp (fun _ hk => hk) trivial (Below.refl _ _) (Nat.le_refl _) (by simp) ?_; (case hd => rfl); (case hg => rfl); (case hr => first | (go_simp; done) | (go_simp; rfl)); (case hp => exact (Reps.one (show Kd.M (Kd.int .i64) _ _ _ a2 [.int .i64 a2] from rfl) (Reps.none _ _))); intro v453 w78 ho79 hb hg_ hnew_; clear hg_ hnew_; (first | rw [← Ny452.out] at ho79 | (simp only [Int.reduceToNat] at ho79; rw [← Ny452.out] at ho79)); have n0_ := Aside0.mk (Kd.R_lower ho79 (below_size (by repeat (first | (with_reducible first | exact HB.out | apply below_alloc | apply pw_below_drewN | apply below_drew1) | exact HB.out)))); have n1_ := Aside0.mk (below_step (by repeat (first | (with_reducible first | exact HB.out | apply below_alloc | apply pw_below_drewN | apply below_drew1) | exact HB.out)) hb); clear HB; have HO454 := n0_; have HB := n1_; clear n0_ n1_; clear hb ho79; obtain ⟨Ao80, co80, eo80⟩ := Kd.R_slice HO454.out; subst eo80) | (go_at_call 34; (with_reducible refine (impl_nodeAsked.calls k a0 _ _ l1 _ _ y452 t455 _ ?side1 ?side2 ?side3 ?side4 A4.out).mono ?_); (case side1 => repeat (first | exact (Kd.C_below HR1.out HB.out) | (with_reducible refine Kd.C_alloc ?_ _) | (with_reducible refine Kd.C_drewN ?_ _) | (with_reducible refine Kd.C_drew ?_))); (case side2 => exact HC1.out); (case side3 => repeat (first | exact (Kd.R_reads' HO454.out).2.2 | (with_reducible refine Kd.C_alloc ?_ _) | (with_reducible refine Kd.C_drewN ?_ _) | (with_reducible refine Kd.C_drew ?_))); (case side4 => exact (Kd.R_reads' HO454.out).2.1); rintro e w81 ⟨rfl, hb⟩; have n0_ := Aside0.mk (Kd.R_below (by (with_reducible repeat (first | apply Kd.R_alloc | apply Kd.R_drewN | apply Kd.R_drew)); exact HO454.out) hb); have n1_ := Aside0.mk (below_step (by repeat (first | (with_reducible first | exact HB.out | apply below_alloc | apply pw_below_drewN | apply below_drew1) | exact HB.out)) hb); clear HO454; clear HB; have HO454 := n0_; have HB := n1_; clear n0_ n1_; (try clear hb); (try clear hb2); (try clear hk); (try clear hi))); try go_wp2_with (first | ((with_reducible refine gate_dst (N := 21) rfl ?_); refine Kd.R_lit (Kd.int .i64) _ 2 ?hg (N := 21) ?hd (xs := ([a2] : List Int)) (inner := [.int .i64 a2]) (ok := fun _ => True) (okp := fun _ => True) ?hr ?hp (fun _ hk => hk) trivial (Below.refl _ _) (Nat.le_refl _) (by simp) ?_; (case hd => rfl); (case hg => rfl); (case hr => first | (go_simp; done) | (go_simp; rfl)); (case hp => exact (Reps.one (show Kd.M (Kd.int .i64) _ _ _ a2 [.int .i64 a2] from rfl) (Reps.none _ _))); intro v453 w78 ho79 hb hg_ hnew_; clear hg_ hnew_; (first | rw [← Ny452.out] at ho79 | (simp only [Int.reduceToNat] at ho79; rw [← Ny452.out] at ho79)); have n0_ := Aside0.mk (Kd.R_lower ho79 (below_size (by repeat (first | (with_reducible first | exact HB.out | apply below_alloc | apply pw_below_drewN | apply below_drew1) | exact HB.out)))); have n1_ := Aside0.mk (below_step (by repeat (first | (with_reducible first | exact HB.out | apply below_alloc | apply pw_below_drewN | apply below_drew1) | exact HB.out)) hb); clear HB; have HO454 := n0_; have HB := n1_; clear n0_ n1_; clear hb ho79; obtain ⟨Ao80, co80, eo80⟩ := Kd.R_slice HO454.out; subst eo80) | (go_at_call 34; (with_reducible refine (impl_nodeAsked.calls k a0 _ _ l1 _ _ y452 t455 _ ?side1 ?side2 ?side3 ?side4 A4.out).mono ?_); (case side1 => repeat (first | exact (Kd.C_below HR1.out HB.out) | (with_reducible refine Kd.C_alloc ?_ _) | (with_reducible refine Kd.C_drewN ?_ _) | (with_reducible refine Kd.C_drew ?_))); (case side2 => exact HC1.out); (case side3 => repeat (first | exact (Kd.R_reads' HO454.out).2.2 | (with_reducible refine Kd.C_alloc ?_ _) | (with_reducible refine Kd.C_drewN ?_ _) | (with_reducible refine Kd.C_drew ?_))); (case side4 => exact (Kd.R_reads' HO454.out).2.1); rintro e w81 ⟨rfl, hb⟩; have n0_ := Aside0.mk (Kd.R_below (by (with_reducible repeat (first | apply Kd.R_alloc | apply Kd.R_drewN | apply Kd.R_drew)); exact HO454.out) hb); have n1_ := Aside0.mk (below_step (by repeat (first | (with_reducible first | exact HB.out | apply below_alloc | apply pw_below_drewN | apply below_drew1) | exact HB.out)) hb); clear HO454; clear HB; have HO454 := n0_; have HB := n1_; clear n0_ n1_; (try clear hb); (try clear hb2); (try clear hk); (try clear hi))))
  go_ret2
  exact ⟨_, by first | rfl | (simp [errW_none, errW_some] <;> rfl) | (simp [*, errW_none, errW_some] <;> rfl), by first | exact Kd.R_nil _ _ _ _ _ | exact Kd.N_nil _ _ _ _ _ | exact Kd.V_nil _ _ _ _ _ | exact Kd.Q_nil _ _ _ _ _ | exact Kd.S_nil _ _ _ _ _, by repeat (first | (with_reducible first | exact HB.out | apply below_alloc | apply pw_below_drewN | apply below_drew1) | exact HB.out)⟩
end Go.Proofs.Ytlnfjhahnacmiaa.F
namespace Go.Proofs.Ytlnfjhahnacmiaa.F
open Go.RowKit Go.Proofs.YtlnfjhahnacmiaaW.PrintWords Go.Proofs.YtlnfjhahnacmiaaW.PrintLast Go.Proofs.YtlnfjhahnacmiaaW.PrintMore
attribute [local go_sem] max2_int min2_int max_two min_two max_three min_three max_four min_four   -- for this text's walks alone
set_option linter.unusedVariables false
set_option linter.unusedSimpArgs false
mutual
def spec_l10Way.l0 : Nat → List (S39) → Int → Int → Int → Int → Option (List Int × Bool)
 | 0, _, _, _, _, _ => none
 | k + 1, x0, x1, x2, x3, x10 => if x10 < (x0.length : Int) then (if 0 ≤ x10 then (if ((rd_T39 x0 x10).f0) = x1 then (if ((rd_T39 x0 x10).f1) > x2 then (spec_l10Way.j1 k x0 x1 x2 x3 x10 true ((rd_T39 x0 x10).f0) ((rd_T39 x0 x10).f1) ((rd_T39 x0 x10).f2) ((rd_T39 x0 x10).f3)) else (spec_l10Way.j1 k x0 x1 x2 x3 x10 (decide (((rd_T39 x0 x10).f2) > x3)) ((rd_T39 x0 x10).f0) ((rd_T39 x0 x10).f1) ((rd_T39 x0 x10).f2) ((rd_T39 x0 x10).f3))) else (spec_l10Way.j1 k x0 x1 x2 x3 x10 true ((rd_T39 x0 x10).f0) ((rd_T39 x0 x10).f1) ((rd_T39 x0 x10).f2) ((rd_T39 x0 x10).f3))) else (none)) else (some (([] : List Int), false))
def spec_l10Way.j1 : Nat → List (S39) → Int → Int → Int → Int → Bool → Int → Int → Int → Int → Option (List Int × Bool)
 | 0, _, _, _, _, _, _, _, _, _, _ => none
 | k + 1, x0, x1, x2, x3, x10, x45, x482000, x482001, x482002, x482003 => if x45 = true then (spec_l10Way.l0 k x0 x1 x2 x3 (wrap64 (x10 + 1))) else ((spec_l10Way.f k x0 x482001 x2 (wrap64 (x3 - x482002))).bind fun bt482 => (if bt482.2 = true then ((some (([x10] : List Int) : List Int)).bind fun y486 => (if y486.length + bt482.1.length < 17592186044416 then (some ((y486 ++ bt482.1), true)) else (none))) else (spec_l10Way.l0 k x0 x1 x2 x3 (wrap64 (x10 + 1)))))
def spec_l10Way.f : Nat → List (S39) → Int → Int → Int → Option (List Int × Bool)
 | 0, _, _, _, _ => none
 | k + 1, l0, a1, a2, a3 => if a1 = a2 then (some ((([] : List Int)), (a3 == 0))) else (spec_l10Way.l0 k l0 a1 a2 a3 0)
end
theorem spec_l10Way.mono_l : ∀ k, (∀ y0 y1 y2 y3, LeO (spec_l10Way.f k y0 y1 y2 y3) (spec_l10Way.f (k + 1) y0 y1 y2 y3)) ∧ (∀ y0 y1 y2 y3 y4, LeO (spec_l10Way.l0 k y0 y1 y2 y3 y4) (spec_l10Way.l0 (k + 1) y0 y1 y2 y3 y4)) ∧ (∀ y0 y1 y2 y3 y4 y5 y6 y7 y8 y9, LeO (spec_l10Way.j1 k y0 y1 y2 y3 y4 y5 y6 y7 y8 y9) (spec_l10Way.j1 (k + 1) y0 y1 y2 y3 y4 y5 y6 y7 y8 y9))
 | 0 => ⟨fun _ _ _ _ r h => by simp [spec_l10Way.f] at h, fun _ _ _ _ _ r h => by simp [spec_l10Way.l0] at h, fun _ _ _ _ _ _ _ _ _ _ r h => by simp [spec_l10Way.j1] at h⟩
 | k + 1 => by
  obtain ⟨ih0, ih1, ih2⟩ := spec_l10Way.mono_l k
  refine ⟨?_, ?_, ?_⟩
  ·intro y0 y1 y2 y3
   unfold spec_l10Way.f
   repeat' first
   | (with_reducible exact ih0 _ _ _ _)
   | (with_reducible exact ih1 _ _ _ _ _)
   | (with_reducible exact ih2 _ _ _ _ _ _ _ _ _ _)
   | (with_reducible exact LeO.refl _)
   | (with_reducible exact LeO.none _)
   | (with_reducible refine LeO.ite ?_ ?_)
   | (with_reducible refine LeO.bind ?_ (fun _ => ?_))
   | exact ih0 _ _ _ _
   | exact ih1 _ _ _ _ _
   | exact ih2 _ _ _ _ _ _ _ _ _ _
   | exact LeO.none _
   | refine LeO.ite ?_ ?_
   | refine LeO.bind ?_ (fun _ => ?_)
  ·intro y0 y1 y2 y3 y4
   unfold spec_l10Way.l0
   repeat' first
   | (with_reducible exact ih0 _ _ _ _)
   | (with_reducible exact ih1 _ _ _ _ _)
   | (with_reducible exact ih2 _ _ _ _ _ _ _ _ _ _)
   | (with_reducible exact LeO.refl _)
   | (with_reducible exact LeO.none _)
   | (with_reducible refine LeO.ite ?_ ?_)
   | (with_reducible refine LeO.bind ?_ (fun _ => ?_))
   | exact ih0 _ _ _ _
   | exact ih1 _ _ _ _ _
   | exact ih2 _ _ _ _ _ _ _ _ _ _
   | exact LeO.none _
   | refine LeO.ite ?_ ?_
   | refine LeO.bind ?_ (fun _ => ?_)
  ·intro y0 y1 y2 y3 y4 y5 y6 y7 y8 y9
   unfold spec_l10Way.j1
   repeat' first
   | (with_reducible exact ih0 _ _ _ _)
   | (with_reducible exact ih1 _ _ _ _ _)
   | (with_reducible exact ih2 _ _ _ _ _ _ _ _ _ _)
   | (with_reducible exact LeO.refl _)
   | (with_reducible exact LeO.none _)
   | (with_reducible refine LeO.ite ?_ ?_)
   | (with_reducible refine LeO.bind ?_ (fun _ => ?_))
   | exact ih0 _ _ _ _
   | exact ih1 _ _ _ _ _
   | exact ih2 _ _ _ _ _ _ _ _ _ _
   | exact LeO.none _
   | refine LeO.ite ?_ ?_
   | refine LeO.bind ?_ (fun _ => ?_)
theorem spec_l10Way.mono : ∀ a0 a1 a2 a3 k, LeO (spec_l10Way.f k a0 a1 a2 a3) (spec_l10Way.f (k + 1) a0 a1 a2 a3) := by
 intro a0 a1 a2 a3 k
 obtain ⟨ih0, ih1, ih2⟩ := spec_l10Way.mono_l k
 exact ih0 a0 a1 a2 a3
set_option maxHeartbeats 8000000 in
set_option maxRecDepth 100000 in
theorem spec_l10Way.calls (k : Nat) : ∀ (A0 : Option Addr) (c0 : Nat) (l0 : List (S39)) (a1 : Int) (a2 : Int) (a3 : Int) (r1 : List Int) (r2 : Bool) (w : World) (hr0 : Kd.C k39 w A0 l0.length l0) (hc0 : l0.length ≤ c0) (h : spec_l10Way.f k l0 a1 a2 a3 = some (r1, r2)),
  Calls Try.prog 44 #[.slice A0 l0.length c0, .int .i64 a1, .int .i64 a2, .int .i64 a3] w fun e w' => ∃ v0_ : Value, e = .returned (.tuple #[v0_, .bool r2]) ∧ Kd.R (Kd.int .i64) 2 w' w.heap.size (fun _ => True) v0_ r1 ∧ Below w.heap.size w w' := by
 induction k using Nat.strongRecOn with
 | _ k ih =>
 intro A0 c0 l0 a1 a2 a3 r1 r2 w hr0 hc0 h
 cases k with
 | zero => exact absurd h (by simp [spec_l10Way.f])
 | succ k =>
 simp only [spec_l10Way.f] at h
 have hu39 := Try.underlying39
 have HR0 := Aside0.mk hr0
 have HC0 := Aside0.mk hc0
 clear hr0 hc0
 have HB := Aside0.mk (Below.refl w.heap.size w)
 have H : (if a1 = a2 then (some ((([] : List Int)), (a3 == 0))) else (spec_l10Way.l0 k l0 a1 a2 a3 0)) = some (r1, r2) := h
 clear h
 by_cases c5 : a1 = a2
 ·rw [if_pos c5] at H
  have c5b0 : (a1 == a2) = true := beq_iff_eq.mpr c5
  have c5b1 : (a1 != a2) = false := bne_eq_false_iff_eq.mpr c5
  clear c5
  obtain ⟨y477, hy477⟩ : ∃ y_ : List Int, y_ = (([] : List Int)) := ⟨_, rfl⟩
  replace H : (some (y477, (a3 == 0))) = some (r1, r2) := by first | (rw [hy477]; with_reducible exact H) | (have H2_ := (Option.bind_some _ _).symm.trans H; rw [hy477]; with_reducible exact H2_) | (have H2_ := (Option.bind_some _ _).symm.trans H; with_reducible exact H2_) | with_reducible exact H | (rw [hy477]; exact H) | exact H
  have Ny477 := Aside0.mk hy477
  clear hy477
  simp only [Option.some.injEq, Prod.mk.injEq] at H
  obtain ⟨rfl, rfl⟩ := H
  go_enter Try.func44, Try.ntmps44
  go_wp2_with (first | ((with_reducible refine gate_dst (N := 17) rfl ?_); refine Kd.R_lit (Kd.int .i64) _ 2 ?hg (N := 17) ?hd (xs := ([] : List Int)) (inner := []) (ok := fun _ => True) (okp := fun _ => True) ?hr ?hp (fun _ hk => hk) trivial (Below.refl _ _) (Nat.le_refl _) (by simp) ?_; (case hd => rfl); (case hg => rfl); (case hr => first | (go_simp; done) | (go_simp; rfl)); (case hp => exact (Reps.none _ _)); intro v478 w6 ho7 hb hg_ hnew_; clear hg_ hnew_; (first | rw [← Ny477.out] at ho7 | (simp only [Int.reduceToNat] at ho7; rw [← Ny477.out] at ho7)); have n0_ := Aside0.mk (Kd.R_lower ho7 (below_size (by repeat (first | (with_reducible first | exact HB.out | apply below_alloc | apply pw_below_drewN | apply below_drew1) | exact HB.out)))); have n1_ := Aside0.mk (below_step (by repeat (first | (with_reducible first | exact HB.out | apply below_alloc | apply pw_below_drewN | apply below_drew1) | exact HB.out)) hb); clear HB; have HO479 := n0_; have HB := n1_; clear n0_ n1_; clear hb ho7))
  go_ret2
  exact ⟨_, by first | rfl | (simp [errW_none, errW_some] <;> rfl) | (simp [*, errW_none, errW_some] <;> rfl), by (with_reducible repeat (first | apply Kd.R_alloc | apply Kd.R_drewN | apply Kd.R_drew)); exact HO479.out, by repeat (first | (with_reducible first | exact HB.out | apply below_alloc | apply pw_below_drewN | apply below_drew1) | exact HB.out)⟩
 ·rw [if_neg c5] at H
  have c5b0 : (a1 == a2) = false := beq_eq_false_iff_ne.mpr c5
  have c5b1 : (a1 != a2) = true := bne_iff_ne.mpr c5
  have H' := Aside0.mk H
  clear H
  go_enter Try.func44, Try.ntmps44
  go_wp2
  go_loopg [10] k (fun kq v10 w' => ∃ (x10_1 : Int), v10 = .int .i64 x10_1 ∧ Aside0 (spec_l10Way.l0 kq l0 a1 a2 a3 x10_1 = some (r1, r2)) ∧ Aside0 (kq ≤ k) ∧ Aside0 (Below w.heap.size w w'))
  case atStart => exact ⟨(0), (by first | rfl | (simp; done) | (simp [*]; done)), H', ⟨Nat.le_refl _⟩, ⟨by repeat (first | (with_reducible first | exact HB.out | apply below_alloc | apply pw_below_drewN | apply below_drew1) | exact HB.out)⟩⟩
  case round =>
   clear H'
   try clear p2
   try clear c4
   try clear c5
   try clear c5b0
   try clear c5b1
   obtain ⟨x10_1, rfl, HA, HK1, HB⟩ := hrel
   cases gk with
   | zero => exact absurd HA.out (by simp [spec_l10Way.l0])
   | succ k1 =>
    have H := HA.out
    clear HA
    simp only [spec_l10Way.l0] at H
    by_cases c8 : x10_1 < (l0.length : Int)
    ·rw [if_pos c8] at H
     have c8b0 : decide (x10_1 < (l0.length : Int)) = true := decide_eq_true c8
     clear c8
     by_cases c9 : 0 ≤ x10_1
     ·rw [if_pos c9] at H
      have c9b0 : decide (0 ≤ x10_1) = true := decide_eq_true c9
      clear c9
      have HC10 := Aside0.mk H
      clear H
      have p480 : 0 ≤ (x10_1 : Int) := of_decide_eq_true (by first | (with_reducible assumption) | assumption)
      have q480 : x10_1 < (l0.length : Int) := of_decide_eq_true (by first | (with_reducible assumption) | assumption)
      obtain ⟨ad480, e480, hx480_0, hx480_1, hx480_2, hx480_3⟩ := at_T39 HR0.out x10_1 p480 q480
      cases e480
      replace hx480_0 := (HB.out.cell (World.block_lt_of_cell? w _ hx480_0)).trans hx480_0
      replace hx480_1 := (HB.out.cell (World.block_lt_of_cell? w _ hx480_1)).trans hx480_1
      replace hx480_2 := (HB.out.cell (World.block_lt_of_cell? w _ hx480_2)).trans hx480_2
      replace hx480_3 := (HB.out.cell (World.block_lt_of_cell? w _ hx480_3)).trans hx480_3
      replace p480 := eq_true p480
      replace q480 := eq_true q480
      go_upto_region 7 with (first | ((with_reducible refine gate_dst (N := 11) rfl ?_); refine box_event ?hg (N := 11) ?hd (cs := #[.int .i64 0, .int .i64 0, .int .i64 0, .int .i64 0]) (t := 39) ?hr ?_; (case hd => rfl); (case hg => rfl); (case hr => first | (go_simp; done) | (go_simp; rfl)); intro gb481 hg w11 hbox hb; have n0_ := Aside0.mk (below_step (by repeat (first | (with_reducible first | exact HB.out | apply below_alloc | apply pw_below_drewN | apply below_drew1) | exact HB.out)) hb); have n1_ := Aside0.mk (hbox); have n2_ := Aside0.mk ((by rw [hg]; exact (below_size (by repeat (first | (with_reducible first | exact HB.out | apply below_alloc | apply pw_below_drewN | apply below_drew1) | exact HB.out))) : w.heap.size ≤ gb481)); have n3_ := Aside0.mk ((by rw [hg]; exact (below_size (by repeat (first | (with_reducible first | exact HB.out | apply below_alloc | apply pw_below_drewN | apply below_drew1) | exact HB.out))) : w.heap.size ≤ gb481)); clear HB; have HB := n0_; have BK481 := n1_; have GW481 := n2_; have GE481 := n3_; clear n0_ n1_ n2_ n3_; clear hb hbox hg; have hcz12_0 : w11.cell? ⟨gb481, 0, none⟩ = some (.int .i64 0) := (blk_cell BK481.out 0).trans rfl; have hcz12_1 : w11.cell? ⟨gb481, 1, none⟩ = some (.int .i64 0) := (blk_cell BK481.out 1).trans rfl; have hcz12_2 : w11.cell? ⟨gb481, 2, none⟩ = some (.int .i64 0) := (blk_cell BK481.out 2).trans rfl; have hcz12_3 : w11.cell? ⟨gb481, 3, none⟩ = some (.int .i64 0) := (blk_cell BK481.out 3).trans rfl; have hfz12_0 := blk_frozen BK481.out 0; have hfz12_1 := blk_frozen BK481.out 1; have hfz12_2 := blk_frozen BK481.out 2; have hfz12_3 := blk_frozen BK481.out 3))
      (try simp only [Act.put, List.setIfInBounds_toArray, List.set_cons_zero, List.set_cons_succ])
      go_cut [45] (fun v45 wc => ∃ (kq : Nat) (x45_9 : Bool), v45 = .bool x45_9 ∧ Aside0 (spec_l10Way.j1 kq l0 a1 a2 a3 x10_1 x45_9 ((rd_T39 l0 x10_1).f0) ((rd_T39 l0 x10_1).f1) ((rd_T39 l0 x10_1).f2) ((rd_T39 l0 x10_1).f3) = some (r1, r2)) ∧ Aside0 (kq ≤ k1) ∧ Aside0 (wc.heap[gb481]? = some (.cells #[.int .i64 ((rd_T39 l0 x10_1).f0), .int .i64 ((rd_T39 l0 x10_1).f1), .int .i64 ((rd_T39 l0 x10_1).f2), .int .i64 ((rd_T39 l0 x10_1).f3)] 39 (0, 0))) ∧ Aside0 (Below w.heap.size w wc))
      case first =>
       have H := HC10.out
       clear HC10
       by_cases c13 : ((rd_T39 l0 x10_1).f0) = a1
       ·rw [if_pos c13] at H
        have c13b0 : (((rd_T39 l0 x10_1).f0) == a1) = true := beq_iff_eq.mpr c13
        have c13b1 : (((rd_T39 l0 x10_1).f0) != a1) = false := bne_eq_false_iff_eq.mpr c13
        clear c13
        (first | rw [c13b0] | (simp only [i64_w, i32_w]; rw [c13b0]) | skip)
        by_cases c14 : ((rd_T39 l0 x10_1).f1) > a2
        ·rw [if_pos c14] at H
         have c14b0 : decide (a2 < ((rd_T39 l0 x10_1).f1)) = true := decide_eq_true c14
         clear c14
         have H' := Aside0.mk H
         clear H
         have hcz15_0 : w11.cell? ⟨gb481, 0, none⟩ = some (.int .i64 0) := (blk_cell BK481.out 0).trans rfl
         have hcz15_1 : w11.cell? ⟨gb481, 1, none⟩ = some (.int .i64 0) := (blk_cell BK481.out 1).trans rfl
         have hcz15_2 : w11.cell? ⟨gb481, 2, none⟩ = some (.int .i64 0) := (blk_cell BK481.out 2).trans rfl
         have hcz15_3 : w11.cell? ⟨gb481, 3, none⟩ = some (.int .i64 0) := (blk_cell BK481.out 3).trans rfl
         have hfz15_0 := blk_frozen BK481.out 0
         have hfz15_1 := blk_frozen BK481.out 1
         have hfz15_2 := blk_frozen BK481.out 2
         have hfz15_3 := blk_frozen BK481.out 3
         go_wp2
         go_meet
         case rel => exact ⟨_, (true), (by first | rfl | (simp; done) | (simp [*]; done)), H', ⟨by have := HK1.out; first | omega | exact Nat.le_refl _⟩, ⟨by (with_reducible repeat (first | refine blk_drewN ?_ _ | refine blk_drew ?_ | refine blk_alloc ?_ _)); refine blk_put (cs := #[.int .i64 ((rd_T39 l0 x10_1).f0), .int .i64 ((rd_T39 l0 x10_1).f1), .int .i64 ((rd_T39 l0 x10_1).f2), .int .i64 0]) ?_ 3 _ rfl; (with_reducible repeat (first | refine blk_drewN ?_ _ | refine blk_drew ?_ | refine blk_alloc ?_ _)); refine blk_put (cs := #[.int .i64 ((rd_T39 l0 x10_1).f0), .int .i64 ((rd_T39 l0 x10_1).f1), .int .i64 0, .int .i64 0]) ?_ 2 _ rfl; (with_reducible repeat (first | refine blk_drewN ?_ _ | refine blk_drew ?_ | refine blk_alloc ?_ _)); refine blk_put (cs := #[.int .i64 ((rd_T39 l0 x10_1).f0), .int .i64 0, .int .i64 0, .int .i64 0]) ?_ 1 _ rfl; (with_reducible repeat (first | refine blk_drewN ?_ _ | refine blk_drew ?_ | refine blk_alloc ?_ _)); refine blk_put (cs := #[.int .i64 0, .int .i64 0, .int .i64 0, .int .i64 0]) ?_ 0 _ rfl; (with_reducible repeat (first | refine blk_drewN ?_ _ | refine blk_drew ?_ | refine blk_alloc ?_ _)); exact BK481.out⟩, ⟨by repeat (first | (with_reducible first | exact HB.out | apply below_alloc | apply pw_below_drewN | apply below_drew1 | refine below_set ?_ GE481.out) | exact HB.out)⟩⟩
        ·rw [if_neg c14] at H
         have c14b0 : decide (a2 < ((rd_T39 l0 x10_1).f1)) = false := decide_eq_false c14
         clear c14
         have H' := Aside0.mk H
         clear H
         have hcz16_0 : w11.cell? ⟨gb481, 0, none⟩ = some (.int .i64 0) := (blk_cell BK481.out 0).trans rfl
         have hcz16_1 : w11.cell? ⟨gb481, 1, none⟩ = some (.int .i64 0) := (blk_cell BK481.out 1).trans rfl
         have hcz16_2 : w11.cell? ⟨gb481, 2, none⟩ = some (.int .i64 0) := (blk_cell BK481.out 2).trans rfl
         have hcz16_3 : w11.cell? ⟨gb481, 3, none⟩ = some (.int .i64 0) := (blk_cell BK481.out 3).trans rfl
         have hfz16_0 := blk_frozen BK481.out 0
         have hfz16_1 := blk_frozen BK481.out 1
         have hfz16_2 := blk_frozen BK481.out 2
         have hfz16_3 := blk_frozen BK481.out 3
         go_wp2
         go_meet
         case rel => exact ⟨_, (decide (((rd_T39 l0 x10_1).f2) > a3)), (by first | rfl | (simp; done) | (simp [*]; done)), H', ⟨by have := HK1.out; first | omega | exact Nat.le_refl _⟩, ⟨by (with_reducible repeat (first | refine blk_drewN ?_ _ | refine blk_drew ?_ | refine blk_alloc ?_ _)); refine blk_put (cs := #[.int .i64 ((rd_T39 l0 x10_1).f0), .int .i64 ((rd_T39 l0 x10_1).f1), .int .i64 ((rd_T39 l0 x10_1).f2), .int .i64 0]) ?_ 3 _ rfl; (with_reducible repeat (first | refine blk_drewN ?_ _ | refine blk_drew ?_ | refine blk_alloc ?_ _)); refine blk_put (cs := #[.int .i64 ((rd_T39 l0 x10_1).f0), .int .i64 ((rd_T39 l0 x10_1).f1), .int .i64 0, .int .i64 0]) ?_ 2 _ rfl; (with_reducible repeat (first | refine blk_drewN ?_ _ | refine blk_drew ?_ | refine blk_alloc ?_ _)); refine blk_put (cs := #[.int .i64 ((rd_T39 l0 x10_1).f0), .int .i64 0, .int .i64 0, .int .i64 0]) ?_ 1 _ rfl; (with_reducible repeat (first | refine blk_drewN ?_ _ | refine blk_drew ?_ | refine blk_alloc ?_ _)); refine blk_put (cs := #[.int .i64 0, .int .i64 0, .int .i64 0, .int .i64 0]) ?_ 0 _ rfl; (with_reducible repeat (first | refine blk_drewN ?_ _ | refine blk_drew ?_ | refine blk_alloc ?_ _)); exact BK481.out⟩, ⟨by repeat (first | (with_reducible first | exact HB.out | apply below_alloc | apply pw_below_drewN | apply below_drew1 | refine below_set ?_ GE481.out) | exact HB.out)⟩⟩
       ·rw [if_neg c13] at H
        have c13b0 : (((rd_T39 l0 x10_1).f0) == a1) = false := beq_eq_false_iff_ne.mpr c13
        have c13b1 : (((rd_T39 l0 x10_1).f0) != a1) = true := bne_iff_ne.mpr c13
        (first | rw [c13b0] | (simp only [i64_w, i32_w]; rw [c13b0]) | skip)
        have H' := Aside0.mk H
        clear H
        have hcz17_0 : w11.cell? ⟨gb481, 0, none⟩ = some (.int .i64 0) := (blk_cell BK481.out 0).trans rfl
        have hcz17_1 : w11.cell? ⟨gb481, 1, none⟩ = some (.int .i64 0) := (blk_cell BK481.out 1).trans rfl
        have hcz17_2 : w11.cell? ⟨gb481, 2, none⟩ = some (.int .i64 0) := (blk_cell BK481.out 2).trans rfl
        have hcz17_3 : w11.cell? ⟨gb481, 3, none⟩ = some (.int .i64 0) := (blk_cell BK481.out 3).trans rfl
        have hfz17_0 := blk_frozen BK481.out 0
        have hfz17_1 := blk_frozen BK481.out 1
        have hfz17_2 := blk_frozen BK481.out 2
        have hfz17_3 := blk_frozen BK481.out 3
        go_wp2
        go_meet
        case rel => exact ⟨_, (true), (by first | rfl | (simp; done) | (simp [*]; done)), H', ⟨by have := HK1.out; first | omega | exact Nat.le_refl _⟩, ⟨by (with_reducible repeat (first | refine blk_drewN ?_ _ | refine blk_drew ?_ | refine blk_alloc ?_ _)); refine blk_put (cs := #[.int .i64 ((rd_T39 l0 x10_1).f0), .int .i64 ((rd_T39 l0 x10_1).f1), .int .i64 ((rd_T39 l0 x10_1).f2), .int .i64 0]) ?_ 3 _ rfl; (with_reducible repeat (first | refine blk_drewN ?_ _ | refine blk_drew ?_ | refine blk_alloc ?_ _)); refine blk_put (cs := #[.int .i64 ((rd_T39 l0 x10_1).f0), .int .i64 ((rd_T39 l0 x10_1).f1), .int .i64 0, .int .i64 0]) ?_ 2 _ rfl; (with_reducible repeat (first | refine blk_drewN ?_ _ | refine blk_drew ?_ | refine blk_alloc ?_ _)); refine blk_put (cs := #[.int .i64 ((rd_T39 l0 x10_1).f0), .int .i64 0, .int .i64 0, .int .i64 0]) ?_ 1 _ rfl; (with_reducible repeat (first | refine blk_drewN ?_ _ | refine blk_drew ?_ | refine blk_alloc ?_ _)); refine blk_put (cs := #[.int .i64 0, .int .i64 0, .int .i64 0, .int .i64 0]) ?_ 0 _ rfl; (with_reducible repeat (first | refine blk_drewN ?_ _ | refine blk_drew ?_ | refine blk_alloc ?_ _)); exact BK481.out⟩, ⟨by repeat (first | (with_reducible first | exact HB.out | apply below_alloc | apply pw_below_drewN | apply below_drew1 | refine below_set ?_ GE481.out) | exact HB.out)⟩⟩
      case rest =>
       clear HC10
       try clear c1
       try clear p2
       try clear c4
       try clear p4
       try clear q4
       try clear hx4
       try clear c5
       try clear c5b0
       try clear c5b1
       try clear c8
       try clear c8b0
       try clear c9
       try clear c9b0
       try clear c13
       try clear c13b0
       try clear c13b1
       try clear c14
       try clear c14b0
       try clear hcz12_0
       try clear hcz12_1
       try clear hcz12_2
       try clear hcz12_3
       try clear hcz15_0
       try clear hcz15_1
       try clear hcz15_2
       try clear hcz15_3
       try clear hcz16_0
       try clear hcz16_1
       try clear hcz16_2
       try clear hcz16_3
       try clear hcz17_0
       try clear hcz17_1
       try clear hcz17_2
       try clear hcz17_3
       try clear hfz12_0
       try clear hfz12_1
       try clear hfz12_2
       try clear hfz12_3
       try clear hfz15_0
       try clear hfz15_1
       try clear hfz15_2
       try clear hfz15_3
       try clear hfz16_0
       try clear hfz16_1
       try clear hfz16_2
       try clear hfz16_3
       try clear hfz17_0
       try clear hfz17_1
       try clear hfz17_2
       try clear hfz17_3
       try clear hx480_0
       try clear hx480_1
       try clear hx480_2
       try clear hx480_3
       try clear p2
       try clear p480
       try clear q480
       obtain ⟨kq, x45_9, rfl, HA, HJ9, BK481, HB⟩ := hcut
       cases kq with
       | zero => exact absurd HA.out (by simp [spec_l10Way.j1])
       | succ kj9 =>
        have H := HA.out
        clear HA
        simp only [spec_l10Way.j1] at H
        by_cases c18 : x45_9 = true
        ·subst c18
         have H1 : (spec_l10Way.l0 kj9 l0 a1 a2 a3 (wrap64 (x10_1 + 1))) = some (r1, r2) := by rw [if_pos rfl] at H; exact H
         clear H
         have H := H1
         clear H1
         have H' := Aside0.mk H
         clear H
         go_wp2
         go_roundg kj9
         case measure => have := HK1.out; have := HJ9.out; omega
         case rel => exact ⟨(wrap64 (x10_1 + 1)), (by first | rfl | (simp; done) | (simp [*]; done)), H', ⟨by have := HK1.out; have := HJ9.out; omega⟩, ⟨by repeat (first | (with_reducible first | exact HB.out | apply below_alloc | apply pw_below_drewN | apply below_drew1 | refine below_set ?_ GE481.out) | exact HB.out)⟩⟩
        ·replace c18 := Bool.eq_false_iff.mpr c18
         subst c18
         have H1 : ((spec_l10Way.f kj9 l0 ((rd_T39 l0 x10_1).f1) a2 (wrap64 (a3 - ((rd_T39 l0 x10_1).f2)))).bind fun bt482 => (if bt482.2 = true then ((some (([x10_1] : List Int) : List Int)).bind fun y486 => (if y486.length + bt482.1.length < 17592186044416 then (some ((y486 ++ bt482.1), true)) else (none))) else (spec_l10Way.l0 kj9 l0 a1 a2 a3 (wrap64 (x10_1 + 1))))) = some (r1, r2) := by rw [if_neg (show ¬ (false = true) by decide)] at H; exact H
         clear H
         have H := H1
         clear H1
         replace H := Option.bind_eq_some_iff.mp H
         obtain ⟨⟨t482, t483⟩, A190, H⟩ := H
         replace H : (if t483 = true then ((some (([x10_1] : List Int) : List Int)).bind fun y486 => (if y486.length + t482.length < 17592186044416 then (some ((y486 ++ t482), true)) else (none))) else (spec_l10Way.l0 kj9 l0 a1 a2 a3 (wrap64 (x10_1 + 1)))) = some (r1, r2) := H
         have A19 := Aside0.mk A190
         clear A190
         by_cases c20 : t483 = true
         ·subst c20
          have H1 : ((some (([x10_1] : List Int) : List Int)).bind fun y486 => (if y486.length + t482.length < 17592186044416 then (some ((y486 ++ t482), true)) else (none))) = some (r1, r2) := by rw [if_pos rfl] at H; exact H
          clear H
          have H := H1
          clear H1
          obtain ⟨y486, hy486⟩ : ∃ y_ : List Int, y_ = (([x10_1] : List Int)) := ⟨_, rfl⟩
          replace H : (if y486.length + t482.length < 17592186044416 then (some ((y486 ++ t482), true)) else (none)) = some (r1, r2) := by first | (rw [hy486]; with_reducible exact H) | (have H2_ := (Option.bind_some _ _).symm.trans H; rw [hy486]; with_reducible exact H2_) | (have H2_ := (Option.bind_some _ _).symm.trans H; with_reducible exact H2_) | with_reducible exact H | (rw [hy486]; exact H) | exact H
          have Ny486 := Aside0.mk hy486
          clear hy486
          by_cases c21 : y486.length + t482.length < 17592186044416
          ·rw [if_pos c21] at H
           have LMc21 := Aside0.mk c21
           clear c21
           obtain ⟨y489, hy489⟩ : ∃ y_ : List Int, y_ = (y486 ++ t482) := ⟨_, rfl⟩
           replace H : (some (y489, true)) = some (r1, r2) := by first | (rw [hy489]; with_reducible exact H) | (have H2_ := (Option.bind_some _ _).symm.trans H; rw [hy489]; with_reducible exact H2_) | (have H2_ := (Option.bind_some _ _).symm.trans H; with_reducible exact H2_) | with_reducible exact H | (rw [hy489]; exact H) | exact H
           have Ny489 := Aside0.mk hy489
           clear hy489
           simp only [Option.some.injEq, Prod.mk.injEq] at H
           obtain ⟨rfl, rfl⟩ := H
           have hcz22_0 : wc.cell? ⟨gb481, 0, none⟩ = some (.int .i64 ((rd_T39 l0 x10_1).f0)) := (blk_cell BK481.out 0).trans rfl
           have hcz22_1 : wc.cell? ⟨gb481, 1, none⟩ = some (.int .i64 ((rd_T39 l0 x10_1).f1)) := (blk_cell BK481.out 1).trans rfl
           have hcz22_2 : wc.cell? ⟨gb481, 2, none⟩ = some (.int .i64 ((rd_T39 l0 x10_1).f2)) := (blk_cell BK481.out 2).trans rfl
           have hcz22_3 : wc.cell? ⟨gb481, 3, none⟩ = some (.int .i64 ((rd_T39 l0 x10_1).f3)) := (blk_cell BK481.out 3).trans rfl
           have hfz22_0 := blk_frozen BK481.out 0
           have hfz22_1 := blk_frozen BK481.out 1
           have hfz22_2 := blk_frozen BK481.out 2
           have hfz22_3 := blk_frozen BK481.out 3
           go_wp2_with (first | ((with_reducible refine gate_callee (f := 44) rfl ?_); refine goesL_ (some 55) rfl rfl Try.func44 (by kernel_rfl) rfl #[.slice (some ad480) l0.length c0, .int .i64 ((rd_T39 l0 x10_1).f1), .int .i64 a2, .int .i64 (wrap64 (a3 - ((rd_T39 l0 x10_1).f2)))] rfl (by (try simp only [List.map_toArray, List.map_cons, List.map_nil]); first | done | rfl | (simp only [List.length_drop, List.length_take]; rfl)) ?_; (with_reducible refine (ih kj9 (by have := HK1.out; have := HJ9.out; omega) _ _ l0 ((rd_T39 l0 x10_1).f1) a2 (wrap64 (a3 - ((rd_T39 l0 x10_1).f2))) t482 true _ ?side1 ?side2 A19.out).mono ?_); (case side1 => repeat (first | exact (Kd.C_below HR0.out HB.out) | (with_reducible refine Kd.C_alloc ?_ _) | (with_reducible refine Kd.C_drewN ?_ _) | (with_reducible refine Kd.C_drew ?_))); (case side2 => exact HC0.out); rintro e w23 ⟨v484, rfl, ho0, hb⟩; refine ⟨_, rfl, ?_⟩; have n0_ := Aside0.mk (Kd.R_lower ho0 (below_size (by repeat (first | (with_reducible first | exact HB.out | apply below_alloc | apply pw_below_drewN | apply below_drew1 | refine below_set ?_ GE481.out) | exact HB.out)))); have n1_ := Aside0.mk (blk_below (g := gb481) (o := .cells #[.int .i64 ((rd_T39 l0 x10_1).f0), .int .i64 ((rd_T39 l0 x10_1).f1), .int .i64 ((rd_T39 l0 x10_1).f2), .int .i64 ((rd_T39 l0 x10_1).f3)] 39 (0, 0)) (by (with_reducible repeat (first | refine blk_drewN ?_ _ | refine blk_drew ?_ | refine blk_alloc ?_ _)); exact BK481.out) hb); have n2_ := Aside0.mk (below_step (by repeat (first | (with_reducible first | exact HB.out | apply below_alloc | apply pw_below_drewN | apply below_drew1 | refine below_set ?_ GE481.out) | exact HB.out)) hb); clear BK481; clear HB; have HO485 := n0_; have BK481 := n1_; have HB := n2_; clear n0_ n1_ n2_; (try clear hb); (try clear hb2); (try clear hk); (try clear hi); (try clear ho0)) | ((with_reducible refine gate_dst (N := 60) rfl ?_); refine Kd.R_lit (Kd.int .i64) _ 2 ?hg (N := 60) ?hd (xs := ([x10_1] : List Int)) (inner := [.int .i64 x10_1]) (ok := fun _ => True) (okp := fun _ => True) ?hr ?hp (fun _ hk => hk) trivial (Below.refl _ _) (Nat.le_refl _) (by simp) ?_; (case hd => rfl); (case hg => rfl); (case hr => first | (go_simp; done) | (go_simp; rfl)); (case hp => exact (Reps.one (show Kd.M (Kd.int .i64) _ _ _ x10_1 [.int .i64 x10_1] from rfl) (Reps.none _ _))); intro v487 w24 ho25 hb hg_ hnew_; clear hg_ hnew_; (first | rw [← Ny486.out] at ho25 | (simp only [Int.reduceToNat] at ho25; rw [← Ny486.out] at ho25)); have n0_ := Aside0.mk (Kd.R_elder' (by (with_reducible repeat (first | apply Kd.R_alloc | apply Kd.R_drewN | apply Kd.R_drew)); exact HO485.out) (Kd.R_base ho25) hb); have n1_ := Aside0.mk (Kd.R_lower (Kd.R_new' ho25 (Kd.R_lt (by (with_reducible repeat (first | apply Kd.R_alloc | apply Kd.R_drewN | apply Kd.R_drew)); exact HO485.out))) (below_size (by repeat (first | (with_reducible first | exact HB.out | apply below_alloc | apply pw_below_drewN | apply below_drew1 | refine below_set ?_ GE481.out) | exact HB.out)))); have n2_ := Aside0.mk (blk_below (g := gb481) (o := .cells #[.int .i64 ((rd_T39 l0 x10_1).f0), .int .i64 ((rd_T39 l0 x10_1).f1), .int .i64 ((rd_T39 l0 x10_1).f2), .int .i64 ((rd_T39 l0 x10_1).f3)] 39 (0, 0)) (by (with_reducible repeat (first | refine blk_drewN ?_ _ | refine blk_drew ?_ | refine blk_alloc ?_ _)); exact BK481.out) hb); have n3_ := Aside0.mk (below_step (by repeat (first | (with_reducible first | exact HB.out | apply below_alloc | apply pw_below_drewN | apply below_drew1 | refine below_set ?_ GE481.out) | exact HB.out)) hb); clear HO485; clear BK481; clear HB; have HO485 := n0_; have HO488 := n1_; have BK481 := n2_; have HB := n3_; clear n0_ n1_ n2_ n3_; clear hb ho25; obtain ⟨Ao27, co27, eo27⟩ := Kd.R_slice HO485.out; subst eo27) | ((with_reducible refine gate_builtin (b := .append) (xs := #[.tmp 60, .tmp 61]) rfl ?_); at_builtin; refine Kd.R_append_rows (Kd.int .i64) (w0 := w) w.heap.size rfl (.tmp 60) (.tmp 61) 27 2 (.int .i64 0) 8 rfl Try.underlying27 info2 rfl (by decide) (by omega) v487 y486 t482 _ _ _ (fun k_ => some k_ ≠ (.slice Ao27 t482.length co27 : Value).ownBlock) (fun _ => False) rfl rfl ?aO ?aR (fun _ _ h => h) (fun _ h => h.elim) ?aF ?aB ?aS ?aL ?_; (case aR => repeat (first | exact (Kd.R_reads' HO485.out).2.2 | (with_reducible refine Kd.C_alloc ?_ _) | (with_reducible refine Kd.C_drewN ?_ _) | (with_reducible refine Kd.C_drew ?_))); (case aB => exact (by repeat (first | (with_reducible first | exact HB.out | apply below_alloc | apply pw_below_drewN | apply below_drew1 | refine below_set ?_ GE481.out) | exact HB.out))); (case aF => exact (fun k_ hk => Kd.fresh' (Kd.R_lt (by (with_reducible repeat (first | apply Kd.R_alloc | apply Kd.R_drewN | apply Kd.R_drew)); exact HO485.out)) k_ hk)); (case aO => exact (by (with_reducible repeat (first | apply Kd.R_alloc | apply Kd.R_drewN | apply Kd.R_drew)); exact Kd.R_mono HO488.out (fun _ hk => hk.2))); (case aS => exact (below_size (by repeat (first | (with_reducible first | exact HB.out | apply below_alloc | apply pw_below_drewN | apply below_drew1 | refine below_set ?_ GE481.out) | exact HB.out)))); (case aL => have := LMc21.out; omega); intro v490 w26 ho hb hg hat; rw [← Ny489.out] at ho; have n0_ := Aside0.mk (blk_grown (g := gb481) (o := .cells #[.int .i64 ((rd_T39 l0 x10_1).f0), .int .i64 ((rd_T39 l0 x10_1).f1), .int .i64 ((rd_T39 l0 x10_1).f2), .int .i64 ((rd_T39 l0 x10_1).f3)] 39 (0, 0)) (by (with_reducible repeat (first | refine blk_drewN ?_ _ | refine blk_drew ?_ | refine blk_alloc ?_ _)); exact BK481.out) hg (Kd.R_ne HO488.out BK481.out (by decide))); have n1_ := Aside0.mk (Kd.R_after (ok := (fun _ => True)) (by (with_reducible repeat (first | apply Kd.R_alloc | apply Kd.R_drewN | apply Kd.R_drew)); exact HO485.out) hg hat); have n2_ := Aside0.mk (hb); have n3_ := Aside0.mk (ho); clear BK481; clear HO485; clear HB; clear HO488; have BK481 := n0_; have HO485 := n1_; have HB := n2_; have HO491 := n3_; clear n0_ n1_ n2_ n3_; clear ho hb hg hat))
           go_ret2
           exact ⟨_, by first | rfl | (simp [errW_none, errW_some] <;> rfl) | (simp [*, errW_none, errW_some] <;> rfl), by (with_reducible repeat (first | apply Kd.R_alloc | apply Kd.R_drewN | apply Kd.R_drew)); exact Kd.R_mono HO491.out (fun _ hk => trivial), by repeat (first | (with_reducible first | exact HB.out | apply below_alloc | apply pw_below_drewN | apply below_drew1 | refine below_set ?_ GE481.out) | exact HB.out)⟩
          ·rw [if_neg c21] at H
           exact absurd H (by simp)
         ·replace c20 := Bool.eq_false_iff.mpr c20
          subst c20
          have H1 : (spec_l10Way.l0 kj9 l0 a1 a2 a3 (wrap64 (x10_1 + 1))) = some (r1, r2) := by rw [if_neg (show ¬ (false = true) by decide)] at H; exact H
          clear H
          have H := H1
          clear H1
          have H' := Aside0.mk H
          clear H
          have hcz28_0 : wc.cell? ⟨gb481, 0, none⟩ = some (.int .i64 ((rd_T39 l0 x10_1).f0)) := (blk_cell BK481.out 0).trans rfl
          have hcz28_1 : wc.cell? ⟨gb481, 1, none⟩ = some (.int .i64 ((rd_T39 l0 x10_1).f1)) := (blk_cell BK481.out 1).trans rfl
          have hcz28_2 : wc.cell? ⟨gb481, 2, none⟩ = some (.int .i64 ((rd_T39 l0 x10_1).f2)) := (blk_cell BK481.out 2).trans rfl
          have hcz28_3 : wc.cell? ⟨gb481, 3, none⟩ = some (.int .i64 ((rd_T39 l0 x10_1).f3)) := (blk_cell BK481.out 3).trans rfl
          have hfz28_0 := blk_frozen BK481.out 0
          have hfz28_1 := blk_frozen BK481.out 1
          have hfz28_2 := blk_frozen BK481.out 2
          have hfz28_3 := blk_frozen BK481.out 3
          go_wp2_with (first | ((with_reducible refine gate_callee (f := 44) rfl ?_); refine goesL_ (some 55) rfl rfl Try.func44 (by kernel_rfl) rfl #[.slice (some ad480) l0.length c0, .int .i64 ((rd_T39 l0 x10_1).f1), .int .i64 a2, .int .i64 (wrap64 (a3 - ((rd_T39 l0 x10_1).f2)))] rfl (by (try simp only [List.map_toArray, List.map_cons, List.map_nil]); first | done | rfl | (simp only [List.length_drop, List.length_take]; rfl)) ?_; (with_reducible refine (ih kj9 (by have := HK1.out; have := HJ9.out; omega) _ _ l0 ((rd_T39 l0 x10_1).f1) a2 (wrap64 (a3 - ((rd_T39 l0 x10_1).f2))) t482 false _ ?side1 ?side2 A19.out).mono ?_); (case side1 => repeat (first | exact (Kd.C_below HR0.out HB.out) | (with_reducible refine Kd.C_alloc ?_ _) | (with_reducible refine Kd.C_drewN ?_ _) | (with_reducible refine Kd.C_drew ?_))); (case side2 => exact HC0.out); rintro e w29 ⟨v484, rfl, ho0, hb⟩; refine ⟨_, rfl, ?_⟩; have n0_ := Aside0.mk (Kd.R_lower ho0 (below_size (by repeat (first | (with_reducible first | exact HB.out | apply below_alloc | apply pw_below_drewN | apply below_drew1 | refine below_set ?_ GE481.out) | exact HB.out)))); have n1_ := Aside0.mk (blk_below (g := gb481) (o := .cells #[.int .i64 ((rd_T39 l0 x10_1).f0), .int .i64 ((rd_T39 l0 x10_1).f1), .int .i64 ((rd_T39 l0 x10_1).f2), .int .i64 ((rd_T39 l0 x10_1).f3)] 39 (0, 0)) (by (with_reducible repeat (first | refine blk_drewN ?_ _ | refine blk_drew ?_ | refine blk_alloc ?_ _)); exact BK481.out) hb); have n2_ := Aside0.mk (below_step (by repeat (first | (with_reducible first | exact HB.out | apply below_alloc | apply pw_below_drewN | apply below_drew1 | refine below_set ?_ GE481.out) | exact HB.out)) hb); clear BK481; clear HB; have HO485 := n0_; have BK481 := n1_; have HB := n2_; clear n0_ n1_ n2_; (try clear hb); (try clear hb2); (try clear hk); (try clear hi); (try clear ho0)))
          go_roundg kj9
          case measure => have := HK1.out; have := HJ9.out; omega
          case rel => exact ⟨(wrap64 (x10_1 + 1)), (by first | rfl | (simp; done) | (simp [*]; done)), H', ⟨by have := HK1.out; have := HJ9.out; omega⟩, ⟨by repeat (first | (with_reducible first | exact HB.out | apply below_alloc | apply pw_below_drewN | apply below_drew1 | refine below_set ?_ GE481.out) | exact HB.out)⟩⟩
     ·rw [if_neg c9] at H
      exact absurd H (by simp)
    ·rw [if_neg c8] at H
     have c8b0 : decide (x10_1 < (l0.length : Int)) = false := decide_eq_false c8
     clear c8
     simp only [Option.some.injEq, Prod.mk.injEq] at H
     obtain ⟨rfl, rfl⟩ := H
     go_wp2
     go_ret2
     exact ⟨_, by first | rfl | (simp [errW_none, errW_some] <;> rfl) | (simp [*, errW_none, errW_some] <;> rfl), by first | exact Kd.R_nil _ _ _ _ _ | exact Kd.N_nil _ _ _ _ _ | exact Kd.V_nil _ _ _ _ _ | exact Kd.Q_nil _ _ _ _ _ | exact Kd.S_nil _ _ _ _ _, by repeat (first | (with_reducible first | exact HB.out | apply below_alloc | apply pw_below_drewN | apply below_drew1) | exact HB.out)⟩
end Go.Proofs.Ytlnfjhahnacmiaa.F
namespace Go.Proofs.Ytlnfjhahnacmiaa.F
open Go.RowKit Go.Proofs.YtlnfjhahnacmiaaW.PrintWords Go.Proofs.YtlnfjhahnacmiaaW.PrintLast Go.Proofs.YtlnfjhahnacmiaaW.PrintMore
attribute [local go_sem] max2_int min2_int max_two min_two max_three min_three max_four min_four   -- for this text's walks alone
set_option linter.unusedVariables false
set_option linter.unusedSimpArgs false
def spec_FastestWay.f (k : Nat) (a0 : Int) (l1 : List (S39)) (a2 : Int) : Option (List Int × Int) := (spec_l10Code.f k a0 l1 a2).bind fun t492 => (if t492 = 0 then ((spec_l10Times.f k a0 l1).bind fun bt493 => (if 0 ≤ a2 then (if a2 < (bt493.1.length : Int) then ((spec_l10Way.f k l1 0 a2 (rd bt493.1 a2)).bind fun bt500 => (some (bt500.1, 0))) else (none)) else (none))) else (some (([] : List Int), t492)))
theorem spec_FastestWay.mono : ∀ a0 a1 a2 k, LeO (spec_FastestWay.f k a0 a1 a2) (spec_FastestWay.f (k + 1) a0 a1 a2) := by
 intro a0 a1 a2 k
 unfold spec_FastestWay.f
 repeat' first
   | (with_reducible exact spec_l10Code.mono _ _ _ _)
   | (with_reducible exact spec_l10Times.mono _ _ _)
   | (with_reducible exact spec_l10Way.mono _ _ _ _ _)
   | (with_reducible exact LeO.refl _)
   | (with_reducible exact LeO.none _)
   | (with_reducible refine LeO.ite ?_ ?_)
   | (with_reducible refine LeO.bind ?_ (fun _ => ?_))
   | exact spec_l10Code.mono _ _ _ _
   | exact spec_l10Times.mono _ _ _
   | exact spec_l10Way.mono _ _ _ _ _
   | exact LeO.none _
   | refine LeO.ite ?_ ?_
   | refine LeO.bind ?_ (fun _ => ?_)
set_option maxHeartbeats 8000000 in
set_option maxRecDepth 100000 in
theorem spec_FastestWay.calls (k : Nat) (a0 : Int) (A1 : Option Addr) (c1 : Nat) (l1 : List (S39)) (a2 : Int) (r1 : List Int) (r2 : Int) (w : World) (hr1 : Kd.C k39 w A1 l1.length l1) (hc1 : l1.length ≤ c1) (h : spec_FastestWay.f k a0 l1 a2 = some (r1, r2)) :
  Calls Try.prog 19 #[.int .i64 a0, .slice A1 l1.length c1, .int .i64 a2] w fun e w' => ∃ v0_ : Value, e = .returned (.tuple #[v0_, .int .i64 r2]) ∧ Kd.R (Kd.int .i64) 2 w' w.heap.size (fun _ => True) v0_ r1 ∧ Below w.heap.size w w' := by
 have HR1 := Aside0.mk hr1
 have HC1 := Aside0.mk hc1
 clear hr1 hc1
 have HB := Aside0.mk (Below.refl w.heap.size w)
 have H : ((spec_l10Code.f k a0 l1 a2).bind fun t492 => (if t492 = 0 then ((spec_l10Times.f k a0 l1).bind fun bt493 => (if 0 ≤ a2 then (if a2 < (bt493.1.length : Int) then ((spec_l10Way.f k l1 0 a2 (rd bt493.1 a2)).bind fun bt500 => (some (bt500.1, 0))) else (none)) else (none))) else (some (([] : List Int), t492)))) = some (r1, r2) := h
 clear h
 replace H := Option.bind_eq_some_iff.mp H
 obtain ⟨t492, A40, H⟩ := H
 replace H : (if t492 = 0 then ((spec_l10Times.f k a0 l1).bind fun bt493 => (if 0 ≤ a2 then (if a2 < (bt493.1.length : Int) then ((spec_l10Way.f k l1 0 a2 (rd bt493.1 a2)).bind fun bt500 => (some (bt500.1, 0))) else (none)) else (none))) else (some (([] : List Int), t492))) = some (r1, r2) := H
 have A4 := Aside0.mk A40
 clear A40
 by_cases c5 : t492 = 0
 ·rw [if_pos c5] at H
  have c5b0 : (t492 == 0) = true := beq_iff_eq.mpr c5
  have c5b1 : (t492 != 0) = false := bne_eq_false_iff_eq.mpr c5
  clear c5
  replace H := Option.bind_eq_some_iff.mp H
  obtain ⟨⟨t493, t494⟩, A60, H⟩ := H
  replace H : (if 0 ≤ a2 then (if a2 < (t493.length : Int) then ((spec_l10Way.f k l1 0 a2 (rd t493 a2)).bind fun bt500 => (some (bt500.1, 0))) else (none)) else (none)) = some (r1, r2) := H
  have A6 := Aside0.mk A60
  clear A60
  by_cases c7 : 0 ≤ a2
  ·rw [if_pos c7] at H
   have c7b0 : decide (0 ≤ a2) = true := decide_eq_true c7
   clear c7
   by_cases c8 : a2 < (t493.length : Int)
   ·rw [if_pos c8] at H
    have c8b0 : decide (a2 < (t493.length : Int)) = true := decide_eq_true c8
    clear c8
    replace H := Option.bind_eq_some_iff.mp H
    obtain ⟨⟨t500, t501⟩, A90, H⟩ := H
    replace H : (some (t500, 0)) = some (r1, r2) := H
    have A9 := Aside0.mk A90
    clear A90
    simp only [Option.some.injEq, Prod.mk.injEq] at H
    obtain ⟨rfl, rfl⟩ := H
    go_enter Try.func19, Try.ntmps19
    go_wp2_with (first | ((with_reducible refine gate_callee (f := 37) rfl ?_); refine goesL_ (some 16) rfl rfl Try.func37 (by kernel_rfl) rfl #[.int .i64 a0, .slice A1 l1.length c1, .int .i64 a2] rfl (by (try simp only [List.map_toArray, List.map_cons, List.map_nil]); first | done | rfl | (simp only [List.length_drop, List.length_take]; rfl)) ?_; (with_reducible refine (spec_l10Code.calls k a0 _ _ l1 a2 t492 _ ?side1 ?side2 A4.out).mono ?_); (case side1 => repeat (first | exact HR1.out | (with_reducible refine Kd.C_alloc ?_ _) | (with_reducible refine Kd.C_drewN ?_ _) | (with_reducible refine Kd.C_drew ?_))); (case side2 => exact HC1.out); rintro e w10 ⟨rfl, hb⟩; refine ⟨_, rfl, ?_⟩; have n0_ := Aside0.mk (below_step (by repeat (first | (with_reducible first | exact HB.out | apply below_alloc | apply pw_below_drewN | apply below_drew1) | exact HB.out)) hb); clear HB; have HB := n0_; clear n0_; (try clear hb); (try clear hb2); (try clear hk); (try clear hi)) | ((with_reducible refine gate_callee (f := 38) rfl ?_); refine goesL_ (some 23) rfl rfl Try.func38 (by kernel_rfl) rfl #[.int .i64 a0, .slice A1 l1.length c1] rfl (by (try simp only [List.map_toArray, List.map_cons, List.map_nil]); first | done | rfl | (simp only [List.length_drop, List.length_take]; rfl)) ?_; (with_reducible refine (spec_l10Times.calls k a0 _ _ l1 t493 t494 _ ?side1 ?side2 A6.out).mono ?_); (case side1 => repeat (first | exact (Kd.C_below HR1.out HB.out) | (with_reducible refine Kd.C_alloc ?_ _) | (with_reducible refine Kd.C_drewN ?_ _) | (with_reducible refine Kd.C_drew ?_))); (case side2 => exact HC1.out); rintro e w11 ⟨v495, v497, rfl, ho0, ho1, hb⟩; refine ⟨_, rfl, ?_⟩; have n0_ := Aside0.mk (Kd.R_lower ho0 (below_size (by repeat (first | (with_reducible first | exact HB.out | apply below_alloc | apply pw_below_drewN | apply below_drew1) | exact HB.out)))); have n1_ := Aside0.mk (Kd.R_lower ho1 (below_size (by repeat (first | (with_reducible first | exact HB.out | apply below_alloc | apply pw_below_drewN | apply below_drew1) | exact HB.out)))); have n2_ := Aside0.mk (below_step (by repeat (first | (with_reducible first | exact HB.out | apply below_alloc | apply pw_below_drewN | apply below_drew1) | exact HB.out)) hb); clear HB; have HO496 := n0_; have HO498 := n1_; have HB := n2_; clear n0_ n1_ n2_; (try clear hb); (try clear hb2); (try clear hk); (try clear hi); (try clear ho0); (try clear ho1); obtain ⟨Ao12, co12, eo12⟩ := Kd.R_slice HO496.out; subst eo12; have p499 : 0 ≤ (a2 : Int) := of_decide_eq_true (by first | (with_reducible assumption) | assumption); have q499 : a2 < (t493.length : Int) := of_decide_eq_true (by first | (with_reducible assumption) | assumption); obtain ⟨ad499, e499, hx499_0⟩ := Kd.at_int (Kd.R_reads' HO496.out).2.2 a2 p499 q499; cases e499; replace p499 := eq_true p499; replace q499 := eq_true q499) | ((with_reducible refine gate_callee (f := 44) rfl ?_); refine goesL_ (some 33) rfl rfl Try.func44 (by kernel_rfl) rfl #[.slice A1 l1.length c1, .int .i64 0, .int .i64 a2, .int .i64 (rd t493 a2)] rfl (by (try simp only [List.map_toArray, List.map_cons, List.map_nil]); first | done | rfl | (simp only [List.length_drop, List.length_take]; rfl)) ?_; (with_reducible refine (spec_l10Way.calls k _ _ l1 0 a2 (rd t493 a2) t500 t501 _ ?side1 ?side2 A9.out).mono ?_); (case side1 => repeat (first | exact (Kd.C_below HR1.out HB.out) | (with_reducible refine Kd.C_alloc ?_ _) | (with_reducible refine Kd.C_drewN ?_ _) | (with_reducible refine Kd.C_drew ?_))); (case side2 => exact HC1.out); rintro e w13 ⟨v502, rfl, ho0, hb⟩; refine ⟨_, rfl, ?_⟩; have n0_ := Aside0.mk (Kd.R_elder' (by (with_reducible repeat (first | apply Kd.R_alloc | apply Kd.R_drewN | apply Kd.R_drew)); exact HO496.out) (Kd.R_base ho0) hb); have n1_ := Aside0.mk (Kd.R_elder' (by (with_reducible repeat (first | apply Kd.R_alloc | apply Kd.R_drewN | apply Kd.R_drew)); exact HO498.out) (Kd.R_base ho0) hb); have n2_ := Aside0.mk (Kd.R_lower (Kd.R_new' (Kd.R_new' ho0 (Kd.R_lt (by (with_reducible repeat (first | apply Kd.R_alloc | apply Kd.R_drewN | apply Kd.R_drew)); exact HO496.out))) (Kd.R_lt (by (with_reducible repeat (first | apply Kd.R_alloc | apply Kd.R_drewN | apply Kd.R_drew)); exact HO498.out))) (below_size (by repeat (first | (with_reducible first | exact HB.out | apply below_alloc | apply pw_below_drewN | apply below_drew1) | exact HB.out)))); have n3_ := Aside0.mk (below_step (by repeat (first | (with_reducible first | exact HB.out | apply below_alloc | apply pw_below_drewN | apply below_drew1) | exact HB.out)) hb); clear HO496; clear HO498; clear HB; have HO496 := n0_; have HO498 := n1_; have HO503 := n2_; have HB := n3_; clear n0_ n1_ n2_ n3_; (try clear hb); (try clear hb2); (try clear hk); (try clear hi); (try clear ho0)))
    go_ret2
    exact ⟨_, by first | rfl | (simp [errW_none, errW_some] <;> rfl) | (simp [*, errW_none, errW_some] <;> rfl), by (with_reducible repeat (first | apply Kd.R_alloc | apply Kd.R_drewN | apply Kd.R_drew)); exact Kd.R_mono HO503.out (fun _ hk => trivial), by repeat (first | (with_reducible first | exact HB.out | apply below_alloc | apply pw_below_drewN | apply below_drew1) | exact HB.out)⟩
   ·rw [if_neg c8] at H
    exact absurd H (by simp)
  ·rw [if_neg c7] at H
   exact absurd H (by simp)
 ·rw [if_neg c5] at H
  have c5b0 : (t492 == 0) = false := beq_eq_false_iff_ne.mpr c5
  have c5b1 : (t492 != 0) = true := bne_iff_ne.mpr c5
  simp only [Option.some.injEq, Prod.mk.injEq] at H
  obtain ⟨rfl, rfl⟩ := H
  go_enter Try.func19, Try.ntmps19
  go_wp2_with (first | ((with_reducible refine gate_callee (f := 37) rfl ?_); refine goesL_ (some 16) rfl rfl Try.func37 (by kernel_rfl) rfl #[.int .i64 a0, .slice A1 l1.length c1, .int .i64 a2] rfl (by (try simp only [List.map_toArray, List.map_cons, List.map_nil]); first | done | rfl | (simp only [List.length_drop, List.length_take]; rfl)) ?_; (with_reducible refine (spec_l10Code.calls k a0 _ _ l1 a2 t492 _ ?side1 ?side2 A4.out).mono ?_); (case side1 => repeat (first | exact HR1.out | (with_reducible refine Kd.C_alloc ?_ _) | (with_reducible refine Kd.C_drewN ?_ _) | (with_reducible refine Kd.C_drew ?_))); (case side2 => exact HC1.out); rintro e w14 ⟨rfl, hb⟩; refine ⟨_, rfl, ?_⟩; have n0_ := Aside0.mk (below_step (by repeat (first | (with_reducible first | exact HB.out | apply below_alloc | apply pw_below_drewN | apply below_drew1) | exact HB.out)) hb); clear HB; have HB := n0_; clear n0_; (try clear hb); (try clear hb2); (try clear hk); (try clear hi)))
  go_ret2
  exact ⟨_, by first | rfl | (simp [errW_none, errW_some] <;> rfl) | (simp [*, errW_none, errW_some] <;> rfl), by first | exact Kd.R_nil _ _ _ _ _ | exact Kd.N_nil _ _ _ _ _ | exact Kd.V_nil _ _ _ _ _ | exact Kd.Q_nil _ _ _ _ _ | exact Kd.S_nil _ _ _ _ _, by repeat (first | (with_reducible first | exact HB.out | apply below_alloc | apply pw_below_drewN | apply below_drew1) | exact HB.out)⟩
end Go.Proofs.Ytlnfjhahnacmiaa.F
