import Derived.Test.YtipgcjonidlloaaJFnExactFastestWay5
import Derived.Below
import Derived.Deep.Draws
import Derived.Deep.AppendLies
import Derived.Maps.AppendAt
import Derived.OwnWalk
import Derived.Laws.BytesArg
import Derived.Laws.MakeOwn
import Derived.Laws.OwnMore
import Derived.Tactics
import Derived.Lib.ConvBytes
import Derived.Laws.Slices
import Derived.WalkKit
import Derived.KernelRfl
import Derived.RowKit3
import Derived.Deep.LoopGhost
import Derived.Deep.QuietTactic
import Derived.BigQuiet
import Derived.WideLaws
import Derived.Deep.DeepCutAuto
import Derived.Deep.CutBlock
import Derived.Deep.RegionHeld3
import Derived.Lib.AppendStr
import Derived.ArgAppend
import Derived.Laws.IdiomCopy
import Derived.RowKit
import Derived.OrdersHeld
import Derived.Laws.BitsLemmas
import Derived.Laws.StructEq
import Derived.Test.YtipgcjonidlloaaProg
import Derived.ChangeSlices
import Derived.OpenShut
namespace Go.Proofs.Ytipgcjonidlloaa.F
open Go.RowKit Go.Proofs.YtipgcjonidlloaaW.PrintWords Go.Proofs.YtipgcjonidlloaaW.PrintLast Go.Proofs.YtipgcjonidlloaaW.PrintMore
attribute [local go_sem] max2_int min2_int max_two min_two max_three min_three max_four min_four   -- for this text's walks alone
set_option linter.unusedVariables false
set_option linter.unusedSimpArgs false
mutual
def impl_FastestWay.l0 : Nat → List (S44) → Int → List Int → Int → Option (List Int × Int)
 | 0, _, _, _, _ => none
 | k + 1, x1, x2, x9, x10 => if x10 ≥ 0 then (if 0 ≤ x10 then (if x10 < (x9.length : Int) then ((some (x9.set (x10 : Int).toNat (-1) : List Int)).bind fun y556 => (if x10 = x2 then (impl_FastestWay.l0 k x1 x2 (y556.set (x10 : Int).toNat 0) (wrap64 (x10 - 1))) else (impl_FastestWay.l1 k x1 x2 y556 x10 x1 (x1.length : Int) 0))) else (none)) else (none)) else (impl_FastestWay.l2 k x1 x2 x9 ([] : List Int) 0)
def impl_FastestWay.l1 : Nat → List (S44) → Int → List Int → Int → List (S44) → Int → Int → Option (List Int × Int)
 | 0, _, _, _, _, _, _, _ => none
 | k + 1, x1, x2, x9, x10, x43, x44, x45 => if x45 < x44 then (if 0 ≤ x45 then (if x45 < (x43.length : Int) then (if ((rd_T44 x43 x45).f0) = x10 then (if 0 ≤ ((rd_T44 x43 x45).f1) then (if ((rd_T44 x43 x45).f1) < (x9.length : Int) then (impl_FastestWay.j2 k x1 x2 x9 x10 x43 x44 x45 (decide ((rd x9 ((rd_T44 x43 x45).f1)) ≥ 0)) ((rd_T44 x43 x45).f0) ((rd_T44 x43 x45).f1) ((rd_T44 x43 x45).f2) ((rd_T44 x43 x45).f3)) else (none)) else (none)) else (impl_FastestWay.j2 k x1 x2 x9 x10 x43 x44 x45 false ((rd_T44 x43 x45).f0) ((rd_T44 x43 x45).f1) ((rd_T44 x43 x45).f2) ((rd_T44 x43 x45).f3))) else (none)) else (none)) else (impl_FastestWay.l0 k x1 x2 x9 (wrap64 (x10 - 1)))
def impl_FastestWay.j2 : Nat → List (S44) → Int → List Int → Int → List (S44) → Int → Int → Bool → Int → Int → Int → Int → Option (List Int × Int)
 | 0, _, _, _, _, _, _, _, _, _, _, _, _ => none
 | k + 1, x1, x2, x9, x10, x43, x44, x45, x60, x560000, x560001, x560002, x560003 => if x60 = true then (if 0 ≤ x560001 then (if x560001 < (x9.length : Int) then (if 0 ≤ x10 then (if x10 < (x9.length : Int) then (if (rd x9 x10) < 0 then (impl_FastestWay.l1 k x1 x2 (x9.set (x10 : Int).toNat (wrap64 (x560002 + (rd x9 x560001)))) x10 x43 x44 (wrap64 (x45 + 1))) else (if (wrap64 (x560002 + (rd x9 x560001))) < (rd x9 x10) then (impl_FastestWay.l1 k x1 x2 (x9.set (x10 : Int).toNat (wrap64 (x560002 + (rd x9 x560001)))) x10 x43 x44 (wrap64 (x45 + 1))) else (impl_FastestWay.l1 k x1 x2 x9 x10 x43 x44 (wrap64 (x45 + 1))))) else (none)) else (none)) else (none)) else (none)) else (impl_FastestWay.l1 k x1 x2 x9 x10 x43 x44 (wrap64 (x45 + 1)))
def impl_FastestWay.l2 : Nat → List (S44) → Int → List Int → List Int → Int → Option (List Int × Int)
 | 0, _, _, _, _, _ => none
 | k + 1, x1, x2, x9, x14, x15 => if x15 = x2 then (some (x14, 0)) else (impl_FastestWay.l3 k x1 x2 x9 x14 x15 x1 (x1.length : Int) 0)
def impl_FastestWay.l3 : Nat → List (S44) → Int → List Int → List Int → Int → List (S44) → Int → Int → Option (List Int × Int)
 | 0, _, _, _, _, _, _, _, _ => none
 | k + 1, x1, x2, x9, x14, x15, x90, x91, x92 => if x92 < x91 then (if 0 ≤ x92 then (if x92 < (x90.length : Int) then (if ((rd_T44 x90 x92).f0) = x15 then (if 0 ≤ ((rd_T44 x90 x92).f1) then (if ((rd_T44 x90 x92).f1) < (x9.length : Int) then (if (rd x9 ((rd_T44 x90 x92).f1)) ≥ 0 then (if 0 ≤ x15 then (if x15 < (x9.length : Int) then (if (wrap64 (((rd_T44 x90 x92).f2) + (rd x9 ((rd_T44 x90 x92).f1)))) = (rd x9 x15) then (if x14.length < 17592186044416 then (impl_FastestWay.l2 k x1 x2 x9 (x14 ++ [x92]) ((rd_T44 x90 x92).f1)) else (none)) else (impl_FastestWay.l3 k x1 x2 x9 x14 x15 x90 x91 (wrap64 (x92 + 1)))) else (none)) else (none)) else (impl_FastestWay.l3 k x1 x2 x9 x14 x15 x90 x91 (wrap64 (x92 + 1)))) else (none)) else (none)) else (impl_FastestWay.l3 k x1 x2 x9 x14 x15 x90 x91 (wrap64 (x92 + 1)))) else (none)) else (none)) else (impl_FastestWay.l2 k x1 x2 x9 x14 x15)
end
def impl_FastestWay.f (k : Nat) (a0 : Int) (l1 : List (S44)) (a2 : Int) : Option (List Int × Int) := (impl_nodeAsked.f k a0 l1 (([a2] : List Int))).bind fun t552 => (if t552 = 0 then (if 0 ≤ a0 then (if (a0 : Int).toNat ≤ 35184372088832 then (impl_FastestWay.l0 k l1 a2 (List.replicate (a0 : Int).toNat 0) (wrap64 (a0 - 1))) else (none)) else (none)) else (some (([] : List Int), t552)))
theorem impl_FastestWay.mono_l : ∀ k, (∀ y0 y1 y2 y3, LeO (impl_FastestWay.l0 k y0 y1 y2 y3) (impl_FastestWay.l0 (k + 1) y0 y1 y2 y3)) ∧ (∀ y0 y1 y2 y3 y4 y5 y6, LeO (impl_FastestWay.l1 k y0 y1 y2 y3 y4 y5 y6) (impl_FastestWay.l1 (k + 1) y0 y1 y2 y3 y4 y5 y6)) ∧ (∀ y0 y1 y2 y3 y4 y5 y6 y7 y8 y9 y10 y11, LeO (impl_FastestWay.j2 k y0 y1 y2 y3 y4 y5 y6 y7 y8 y9 y10 y11) (impl_FastestWay.j2 (k + 1) y0 y1 y2 y3 y4 y5 y6 y7 y8 y9 y10 y11)) ∧ (∀ y0 y1 y2 y3 y4, LeO (impl_FastestWay.l2 k y0 y1 y2 y3 y4) (impl_FastestWay.l2 (k + 1) y0 y1 y2 y3 y4)) ∧ (∀ y0 y1 y2 y3 y4 y5 y6 y7, LeO (impl_FastestWay.l3 k y0 y1 y2 y3 y4 y5 y6 y7) (impl_FastestWay.l3 (k + 1) y0 y1 y2 y3 y4 y5 y6 y7))
 | 0 => ⟨fun _ _ _ _ r h => by simp [impl_FastestWay.l0] at h, fun _ _ _ _ _ _ _ r h => by simp [impl_FastestWay.l1] at h, fun _ _ _ _ _ _ _ _ _ _ _ _ r h => by simp [impl_FastestWay.j2] at h, fun _ _ _ _ _ r h => by simp [impl_FastestWay.l2] at h, fun _ _ _ _ _ _ _ _ r h => by simp [impl_FastestWay.l3] at h⟩
 | k + 1 => by
  obtain ⟨ih0, ih1, ih2, ih3, ih4⟩ := impl_FastestWay.mono_l k
  refine ⟨?_, ?_, ?_, ?_, ?_⟩
  ·intro y0 y1 y2 y3
   unfold impl_FastestWay.l0
   repeat' first
   | (with_reducible exact ih0 _ _ _ _)
   | (with_reducible exact ih1 _ _ _ _ _ _ _)
   | (with_reducible exact ih2 _ _ _ _ _ _ _ _ _ _ _ _)
   | (with_reducible exact ih3 _ _ _ _ _)
   | (with_reducible exact ih4 _ _ _ _ _ _ _ _)
   | (with_reducible exact impl_nodeAsked.mono _ _ _ _)
   | (with_reducible exact LeO.refl _)
   | (with_reducible exact LeO.none _)
   | (with_reducible refine LeO.ite ?_ ?_)
   | (with_reducible refine LeO.bind ?_ (fun _ => ?_))
   | exact ih0 _ _ _ _
   | exact ih1 _ _ _ _ _ _ _
   | exact ih2 _ _ _ _ _ _ _ _ _ _ _ _
   | exact ih3 _ _ _ _ _
   | exact ih4 _ _ _ _ _ _ _ _
   | exact impl_nodeAsked.mono _ _ _ _
   | exact LeO.none _
   | refine LeO.ite ?_ ?_
   | refine LeO.bind ?_ (fun _ => ?_)
  ·intro y0 y1 y2 y3 y4 y5 y6
   unfold impl_FastestWay.l1
   repeat' first
   | (with_reducible exact ih0 _ _ _ _)
   | (with_reducible exact ih1 _ _ _ _ _ _ _)
   | (with_reducible exact ih2 _ _ _ _ _ _ _ _ _ _ _ _)
   | (with_reducible exact ih3 _ _ _ _ _)
   | (with_reducible exact ih4 _ _ _ _ _ _ _ _)
   | (with_reducible exact impl_nodeAsked.mono _ _ _ _)
   | (with_reducible exact LeO.refl _)
   | (with_reducible exact LeO.none _)
   | (with_reducible refine LeO.ite ?_ ?_)
   | (with_reducible refine LeO.bind ?_ (fun _ => ?_))
   | exact ih0 _ _ _ _
   | exact ih1 _ _ _ _ _ _ _
   | exact ih2 _ _ _ _ _ _ _ _ _ _ _ _
   | exact ih3 _ _ _ _ _
   | exact ih4 _ _ _ _ _ _ _ _
   | exact impl_nodeAsked.mono _ _ _ _
   | exact LeO.none _
   | refine LeO.ite ?_ ?_
   | refine LeO.bind ?_ (fun _ => ?_)
  ·intro y0 y1 y2 y3 y4 y5 y6 y7 y8 y9 y10 y11
   unfold impl_FastestWay.j2
   repeat' first
   | (with_reducible exact ih0 _ _ _ _)
   | (with_reducible exact ih1 _ _ _ _ _ _ _)
   | (with_reducible exact ih2 _ _ _ _ _ _ _ _ _ _ _ _)
   | (with_reducible exact ih3 _ _ _ _ _)
   | (with_reducible exact ih4 _ _ _ _ _ _ _ _)
   | (with_reducible exact impl_nodeAsked.mono _ _ _ _)
   | (with_reducible exact LeO.refl _)
   | (with_reducible exact LeO.none _)
   | (with_reducible refine LeO.ite ?_ ?_)
   | (with_reducible refine LeO.bind ?_ (fun _ => ?_))
   | exact ih0 _ _ _ _
   | exact ih1 _ _ _ _ _ _ _
   | exact ih2 _ _ _ _ _ _ _ _ _ _ _ _
   | exact ih3 _ _ _ _ _
   | exact ih4 _ _ _ _ _ _ _ _
   | exact impl_nodeAsked.mono _ _ _ _
   | exact LeO.none _
   | refine LeO.ite ?_ ?_
   | refine LeO.bind ?_ (fun _ => ?_)
  ·intro y0 y1 y2 y3 y4
   unfold impl_FastestWay.l2
   repeat' first
   | (with_reducible exact ih0 _ _ _ _)
   | (with_reducible exact ih1 _ _ _ _ _ _ _)
   | (with_reducible exact ih2 _ _ _ _ _ _ _ _ _ _ _ _)
   | (with_reducible exact ih3 _ _ _ _ _)
   | (with_reducible exact ih4 _ _ _ _ _ _ _ _)
   | (with_reducible exact impl_nodeAsked.mono _ _ _ _)
   | (with_reducible exact LeO.refl _)
   | (with_reducible exact LeO.none _)
   | (with_reducible refine LeO.ite ?_ ?_)
   | (with_reducible refine LeO.bind ?_ (fun _ => ?_))
   | exact ih0 _ _ _ _
   | exact ih1 _ _ _ _ _ _ _
   | exact ih2 _ _ _ _ _ _ _ _ _ _ _ _
   | exact ih3 _ _ _ _ _
   | exact ih4 _ _ _ _ _ _ _ _
   | exact impl_nodeAsked.mono _ _ _ _
   | exact LeO.none _
   | refine LeO.ite ?_ ?_
   | refine LeO.bind ?_ (fun _ => ?_)
  ·intro y0 y1 y2 y3 y4 y5 y6 y7
   unfold impl_FastestWay.l3
   repeat' first
   | (with_reducible exact ih0 _ _ _ _)
   | (with_reducible exact ih1 _ _ _ _ _ _ _)
   | (with_reducible exact ih2 _ _ _ _ _ _ _ _ _ _ _ _)
   | (with_reducible exact ih3 _ _ _ _ _)
   | (with_reducible exact ih4 _ _ _ _ _ _ _ _)
   | (with_reducible exact impl_nodeAsked.mono _ _ _ _)
   | (with_reducible exact LeO.refl _)
   | (with_reducible exact LeO.none _)
   | (with_reducible refine LeO.ite ?_ ?_)
   | (with_reducible refine LeO.bind ?_ (fun _ => ?_))
   | exact ih0 _ _ _ _
   | exact ih1 _ _ _ _ _ _ _
   | exact ih2 _ _ _ _ _ _ _ _ _ _ _ _
   | exact ih3 _ _ _ _ _
   | exact ih4 _ _ _ _ _ _ _ _
   | exact impl_nodeAsked.mono _ _ _ _
   | exact LeO.none _
   | refine LeO.ite ?_ ?_
   | refine LeO.bind ?_ (fun _ => ?_)
theorem impl_FastestWay.mono : ∀ a0 a1 a2 k, LeO (impl_FastestWay.f k a0 a1 a2) (impl_FastestWay.f (k + 1) a0 a1 a2) := by
 intro a0 a1 a2 k
 obtain ⟨ih0, ih1, ih2, ih3, ih4⟩ := impl_FastestWay.mono_l k
 unfold impl_FastestWay.f
 repeat' first
   | (with_reducible exact ih0 _ _ _ _)
   | (with_reducible exact ih1 _ _ _ _ _ _ _)
   | (with_reducible exact ih2 _ _ _ _ _ _ _ _ _ _ _ _)
   | (with_reducible exact ih3 _ _ _ _ _)
   | (with_reducible exact ih4 _ _ _ _ _ _ _ _)
   | (with_reducible exact impl_nodeAsked.mono _ _ _ _)
   | (with_reducible exact LeO.refl _)
   | (with_reducible exact LeO.none _)
   | (with_reducible refine LeO.ite ?_ ?_)
   | (with_reducible refine LeO.bind ?_ (fun _ => ?_))
   | exact ih0 _ _ _ _
   | exact ih1 _ _ _ _ _ _ _
   | exact ih2 _ _ _ _ _ _ _ _ _ _ _ _
   | exact ih3 _ _ _ _ _
   | exact ih4 _ _ _ _ _ _ _ _
   | exact impl_nodeAsked.mono _ _ _ _
   | exact LeO.none _
   | refine LeO.ite ?_ ?_
   | refine LeO.bind ?_ (fun _ => ?_)
set_option maxHeartbeats 8000000 in
set_option maxRecDepth 100000 in
theorem impl_FastestWay.calls (k : Nat) (a0 : Int) (A1 : Option Addr) (c1 : Nat) (l1 : List (S44)) (a2 : Int) (r1 : List Int) (r2 : Int) (w : World) (hr1 : Kd.C k44 w A1 l1.length l1) (hc1 : l1.length ≤ c1) (h : impl_FastestWay.f k a0 l1 a2 = some (r1, r2)) :
  Calls Try.prog 24 #[.int .i64 a0, .slice A1 l1.length c1, .int .i64 a2] w fun e w' => ∃ v0_ : Value, e = .returned (.tuple #[v0_, .int .i64 r2]) ∧ Kd.R (Kd.int .i64) 2 w' w.heap.size (fun _ => True) v0_ r1 ∧ Below w.heap.size w w' := by
 have hu44 := Try.underlying44
 have HR1 := Aside0.mk hr1
 have HC1 := Aside0.mk hc1
 clear hr1 hc1
 have HB := Aside0.mk (Below.refl w.heap.size w)
 have H : ((impl_nodeAsked.f k a0 l1 (([a2] : List Int))).bind fun t552 => (if t552 = 0 then (if 0 ≤ a0 then (if (a0 : Int).toNat ≤ 35184372088832 then (impl_FastestWay.l0 k l1 a2 (List.replicate (a0 : Int).toNat 0) (wrap64 (a0 - 1))) else (none)) else (none)) else (some (([] : List Int), t552)))) = some (r1, r2) := h
 clear h
 obtain ⟨y549, hy549⟩ : ∃ y_ : List Int, y_ = (([a2] : List Int)) := ⟨_, rfl⟩
 replace H : ((impl_nodeAsked.f k a0 l1 y549).bind fun t552 => (if t552 = 0 then (if 0 ≤ a0 then (if (a0 : Int).toNat ≤ 35184372088832 then (impl_FastestWay.l0 k l1 a2 (List.replicate (a0 : Int).toNat 0) (wrap64 (a0 - 1))) else (none)) else (none)) else (some (([] : List Int), t552)))) = some (r1, r2) := by first | (rw [hy549]; with_reducible exact H) | (have H2_ := (Option.bind_some _ _).symm.trans H; rw [hy549]; with_reducible exact H2_) | (have H2_ := (Option.bind_some _ _).symm.trans H; with_reducible exact H2_) | with_reducible exact H | (rw [hy549]; exact H) | exact H
 have Ny549 := Aside0.mk hy549
 clear hy549
 replace H := Option.bind_eq_some_iff.mp H
 obtain ⟨t552, A40, H⟩ := H
 replace H : (if t552 = 0 then (if 0 ≤ a0 then (if (a0 : Int).toNat ≤ 35184372088832 then (impl_FastestWay.l0 k l1 a2 (List.replicate (a0 : Int).toNat 0) (wrap64 (a0 - 1))) else (none)) else (none)) else (some (([] : List Int), t552))) = some (r1, r2) := H
 have A4 := Aside0.mk A40
 clear A40
 by_cases c5 : t552 = 0
 ·rw [if_pos c5] at H
  have c5b0 : (t552 == 0) = true := beq_iff_eq.mpr c5
  have c5b1 : (t552 != 0) = false := bne_eq_false_iff_eq.mpr c5
  clear c5
  by_cases c6 : 0 ≤ a0
  ·rw [if_pos c6] at H
   have c6b0 := eq_true c6
   have c6b1 : decide (0 ≤ a0) = true := decide_eq_true c6
   clear c6
   by_cases c7 : (a0 : Int).toNat ≤ 35184372088832
   ·rw [if_pos c7] at H
    have c7b0 := eq_true c7
    have c7b1 : decide ((a0 : Int).toNat ≤ 35184372088832) = true := decide_eq_true c7
    clear c7
    obtain ⟨y553, hy553⟩ : ∃ y_ : List Int, y_ = (List.replicate (a0 : Int).toNat 0) := ⟨_, rfl⟩
    replace H : (impl_FastestWay.l0 k l1 a2 y553 (wrap64 (a0 - 1))) = some (r1, r2) := by first | (rw [hy553]; with_reducible exact H) | (have H2_ := (Option.bind_some _ _).symm.trans H; rw [hy553]; with_reducible exact H2_) | (have H2_ := (Option.bind_some _ _).symm.trans H; with_reducible exact H2_) | with_reducible exact H | (rw [hy553]; exact H) | exact H
    have Ny553 := Aside0.mk hy553
    clear hy553
    have H' := Aside0.mk H
    clear H
    go_enter Try.func24, Try.ntmps24
    go_wp2_with (first | ((with_reducible refine gate_dst (N := 21) rfl ?_); refine Kd.R_lit (Kd.int .i64) _ 2 ?hg (N := 21) ?hd (xs := ([a2] : List Int)) (inner := [.int .i64 a2]) (ok := fun _ => True) (okp := fun _ => True) ?hr ?hp (fun _ hk => hk) trivial (Below.refl _ _) (Nat.le_refl _) (by simp) ?_; (case hd => rfl); (case hg => rfl); (case hr => first | (go_simp; done) | (go_simp; rfl)); (case hp => exact (Reps.one (show Kd.M (Kd.int .i64) _ _ _ a2 [.int .i64 a2] from rfl) (Reps.none _ _))); intro v550 w8 ho9 hb hg_ hnew_; clear hg_ hnew_; (first | rw [← Ny549.out] at ho9 | (simp only [Int.reduceToNat] at ho9; rw [← Ny549.out] at ho9)); have n0_ := Aside0.mk (Kd.R_lower ho9 (below_size (by repeat (first | (with_reducible first | exact HB.out | apply below_alloc | apply pw_below_drewN | apply below_drew1) | exact HB.out)))); have n1_ := Aside0.mk (below_step (by repeat (first | (with_reducible first | exact HB.out | apply below_alloc | apply pw_below_drewN | apply below_drew1) | exact HB.out)) hb); clear HB; have HO551 := n0_; have HB := n1_; clear n0_ n1_; clear hb ho9; obtain ⟨Ao10, co10, eo10⟩ := Kd.R_slice HO551.out; subst eo10) | (go_at_call 30; (with_reducible refine (impl_nodeAsked.calls k a0 _ _ l1 _ _ y549 t552 _ ?side1 ?side2 ?side3 ?side4 A4.out).mono ?_); (case side1 => repeat (first | exact (Kd.C_below HR1.out HB.out) | (with_reducible refine Kd.C_alloc ?_ _) | (with_reducible refine Kd.C_drewN ?_ _) | (with_reducible refine Kd.C_drew ?_))); (case side2 => exact HC1.out); (case side3 => repeat (first | exact (Kd.R_reads' HO551.out).2.2 | (with_reducible refine Kd.C_alloc ?_ _) | (with_reducible refine Kd.C_drewN ?_ _) | (with_reducible refine Kd.C_drew ?_))); (case side4 => exact (Kd.R_reads' HO551.out).2.1); rintro e w11 ⟨rfl, hb⟩; have n0_ := Aside0.mk (Kd.R_below (by (with_reducible repeat (first | apply Kd.R_alloc | apply Kd.R_drewN | apply Kd.R_drew)); exact HO551.out) hb); have n1_ := Aside0.mk (below_step (by repeat (first | (with_reducible first | exact HB.out | apply below_alloc | apply pw_below_drewN | apply below_drew1) | exact HB.out)) hb); clear HO551; clear HB; have HO551 := n0_; have HB := n1_; clear n0_ n1_; (try clear hb); (try clear hb2); (try clear hk); (try clear hi)) | ((with_reducible refine gate_dst (N := 27) rfl ?_); refine Kd.R_make (Kd.int .i64) _ 2 rfl (N := 27) rfl 30 _ _ rfl a0 rfl rfl Try.underlying30 (.int .i64 0) 8 info2 rfl (by decide) (by omega) 0 (ok := fun _ => True) (okp := fun _ => True) rfl (fun _ hk => hk) trivial (of_decide_eq_true (by first | (with_reducible assumption) | assumption)) (Nat.le_trans (Nat.mul_le_mul_right _ (of_decide_eq_true (by first | (with_reducible assumption) | assumption) : a0.toNat ≤ 35184372088832)) (by omega)) (Below.refl _ _) (Nat.le_refl _) ?_; intro v554 w12 ho13 hb hg_ hnew_; clear hg_ hnew_; (first | rw [← Ny553.out] at ho13 | (simp only [Int.reduceToNat] at ho13; rw [← Ny553.out] at ho13)); have n0_ := Aside0.mk (Kd.R_elder' (by (with_reducible repeat (first | apply Kd.R_alloc | apply Kd.R_drewN | apply Kd.R_drew)); exact HO551.out) (Kd.R_base ho13) hb); have n1_ := Aside0.mk (Kd.R_lower (Kd.R_new' ho13 (Kd.R_lt (by (with_reducible repeat (first | apply Kd.R_alloc | apply Kd.R_drewN | apply Kd.R_drew)); exact HO551.out))) (below_size (by repeat (first | (with_reducible first | exact HB.out | apply below_alloc | apply pw_below_drewN | apply below_drew1) | exact HB.out)))); have n2_ := Aside0.mk (below_step (by repeat (first | (with_reducible first | exact HB.out | apply below_alloc | apply pw_below_drewN | apply below_drew1) | exact HB.out)) hb); clear HO551; clear HB; have HO551 := n0_; have HO555 := n1_; have HB := n2_; clear n0_ n1_ n2_; clear hb ho13))
    repeat (go_quiet (first | ((with_reducible refine gate_dst (N := 21) rfl ?_); refine Kd.R_lit (Kd.int .i64) _ 2 ?hg (N := 21) ?hd (xs := ([a2] : List Int)) (inner := [.int .i64 a2]) (ok := fun _ => True) (okp := fun _ => True) ?hr ?hp (fun _ hk => hk) trivial (Below.refl _ _) (Nat.le_refl _) (by simp) ?_; (case hd => rfl); (case hg => rfl); (case hr => first | (go_simp; done) | (go_simp; rfl)); (case hp => exact (Reps.one (show Kd.M (Kd.int .i64) _ _ _ a2 [.int .i64 a2] from rfl) (Reps.none _ _))); intro v550 w8 ho9 hb hg_ hnew_; clear hg_ hnew_; (first | rw [← Ny549.out] at ho9 | (simp only [Int.reduceToNat] at ho9; rw [← Ny549.out] at ho9)); have n0_ := Aside0.mk (Kd.R_lower ho9 (below_size (by repeat (first | (with_reducible first | exact HB.out | apply below_alloc | apply pw_below_drewN | apply below_drew1) | exact HB.out)))); have n1_ := Aside0.mk (below_step (by repeat (first | (with_reducible first | exact HB.out | apply below_alloc | apply pw_below_drewN | apply below_drew1) | exact HB.out)) hb); clear HB; have HO551 := n0_; have HB := n1_; clear n0_ n1_; clear hb ho9; obtain ⟨Ao10, co10, eo10⟩ := Kd.R_slice HO551.out; subst eo10) | (go_at_call 30; (with_reducible refine (impl_nodeAsked.calls k a0 _ _ l1 _ _ y549 t552 _ ?side1 ?side2 ?side3 ?side4 A4.out).mono ?_); (case side1 => repeat (first | exact (Kd.C_below HR1.out HB.out) | (with_reducible refine Kd.C_alloc ?_ _) | (with_reducible refine Kd.C_drewN ?_ _) | (with_reducible refine Kd.C_drew ?_))); (case side2 => exact HC1.out); (case side3 => repeat (first | exact (Kd.R_reads' HO551.out).2.2 | (with_reducible refine Kd.C_alloc ?_ _) | (with_reducible refine Kd.C_drewN ?_ _) | (with_reducible refine Kd.C_drew ?_))); (case side4 => exact (Kd.R_reads' HO551.out).2.1); rintro e w11 ⟨rfl, hb⟩; have n0_ := Aside0.mk (Kd.R_below (by (with_reducible repeat (first | apply Kd.R_alloc | apply Kd.R_drewN | apply Kd.R_drew)); exact HO551.out) hb); have n1_ := Aside0.mk (below_step (by repeat (first | (with_reducible first | exact HB.out | apply below_alloc | apply pw_below_drewN | apply below_drew1) | exact HB.out)) hb); clear HO551; clear HB; have HO551 := n0_; have HB := n1_; clear n0_ n1_; (try clear hb); (try clear hb2); (try clear hk); (try clear hi)) | ((with_reducible refine gate_dst (N := 27) rfl ?_); refine Kd.R_make (Kd.int .i64) _ 2 rfl (N := 27) rfl 30 _ _ rfl a0 rfl rfl Try.underlying30 (.int .i64 0) 8 info2 rfl (by decide) (by omega) 0 (ok := fun _ => True) (okp := fun _ => True) rfl (fun _ hk => hk) trivial (of_decide_eq_true (by first | (with_reducible assumption) | assumption)) (Nat.le_trans (Nat.mul_le_mul_right _ (of_decide_eq_true (by first | (with_reducible assumption) | assumption) : a0.toNat ≤ 35184372088832)) (by omega)) (Below.refl _ _) (Nat.le_refl _) ?_; intro v554 w12 ho13 hb hg_ hnew_; clear hg_ hnew_; (first | rw [← Ny553.out] at ho13 | (simp only [Int.reduceToNat] at ho13; rw [← Ny553.out] at ho13)); have n0_ := Aside0.mk (Kd.R_elder' (by (with_reducible repeat (first | apply Kd.R_alloc | apply Kd.R_drewN | apply Kd.R_drew)); exact HO551.out) (Kd.R_base ho13) hb); have n1_ := Aside0.mk (Kd.R_lower (Kd.R_new' ho13 (Kd.R_lt (by (with_reducible repeat (first | apply Kd.R_alloc | apply Kd.R_drewN | apply Kd.R_drew)); exact HO551.out))) (below_size (by repeat (first | (with_reducible first | exact HB.out | apply below_alloc | apply pw_below_drewN | apply below_drew1) | exact HB.out)))); have n2_ := Aside0.mk (below_step (by repeat (first | (with_reducible first | exact HB.out | apply below_alloc | apply pw_below_drewN | apply below_drew1) | exact HB.out)) hb); clear HO551; clear HB; have HO551 := n0_; have HO555 := n1_; have HB := n2_; clear n0_ n1_ n2_; clear hb ho13)); try go_wp2_with (first | ((with_reducible refine gate_dst (N := 21) rfl ?_); refine Kd.R_lit (Kd.int .i64) _ 2 ?hg (N := 21) ?hd (xs := ([a2] : List Int)) (inner := [.int .i64 a2]) (ok := fun _ => True) (okp := fun _ => True) ?hr ?hp (fun _ hk => hk) trivial (Below.refl _ _) (Nat.le_refl _) (by simp) ?_; (case hd => rfl); (case hg => rfl); (case hr => first | (go_simp; done) | (go_simp; rfl)); (case hp => exact (Reps.one (show Kd.M (Kd.int .i64) _ _ _ a2 [.int .i64 a2] from rfl) (Reps.none _ _))); intro v550 w8 ho9 hb hg_ hnew_; clear hg_ hnew_; (first | rw [← Ny549.out] at ho9 | (simp only [Int.reduceToNat] at ho9; rw [← Ny549.out] at ho9)); have n0_ := Aside0.mk (Kd.R_lower ho9 (below_size (by repeat (first | (with_reducible first | exact HB.out | apply below_alloc | apply pw_below_drewN | apply below_drew1) | exact HB.out)))); have n1_ := Aside0.mk (below_step (by repeat (first | (with_reducible first | exact HB.out | apply below_alloc | apply pw_below_drewN | apply below_drew1) | exact HB.out)) hb); clear HB; have HO551 := n0_; have HB := n1_; clear n0_ n1_; clear hb ho9; obtain ⟨Ao10, co10, eo10⟩ := Kd.R_slice HO551.out; subst eo10) | (go_at_call 30; (with_reducible refine (impl_nodeAsked.calls k a0 _ _ l1 _ _ y549 t552 _ ?side1 ?side2 ?side3 ?side4 A4.out).mono ?_); (case side1 => repeat (first | exact (Kd.C_below HR1.out HB.out) | (with_reducible refine Kd.C_alloc ?_ _) | (with_reducible refine Kd.C_drewN ?_ _) | (with_reducible refine Kd.C_drew ?_))); (case side2 => exact HC1.out); (case side3 => repeat (first | exact (Kd.R_reads' HO551.out).2.2 | (with_reducible refine Kd.C_alloc ?_ _) | (with_reducible refine Kd.C_drewN ?_ _) | (with_reducible refine Kd.C_drew ?_))); (case side4 => exact (Kd.R_reads' HO551.out).2.1); rintro e w11 ⟨rfl, hb⟩; have n0_ := Aside0.mk (Kd.R_below (by (with_reducible repeat (first | apply Kd.R_alloc | apply Kd.R_drewN | apply Kd.R_drew)); exact HO551.out) hb); have n1_ := Aside0.mk (below_step (by repeat (first | (with_reducible first | exact HB.out | apply below_alloc | apply pw_below_drewN | apply below_drew1) | exact HB.out)) hb); clear HO551; clear HB; have HO551 := n0_; have HB := n1_; clear n0_ n1_; (try clear hb); (try clear hb2); (try clear hk); (try clear hi)) | ((with_reducible refine gate_dst (N := 27) rfl ?_); refine Kd.R_make (Kd.int .i64) _ 2 rfl (N := 27) rfl 30 _ _ rfl a0 rfl rfl Try.underlying30 (.int .i64 0) 8 info2 rfl (by decide) (by omega) 0 (ok := fun _ => True) (okp := fun _ => True) rfl (fun _ hk => hk) trivial (of_decide_eq_true (by first | (with_reducible assumption) | assumption)) (Nat.le_trans (Nat.mul_le_mul_right _ (of_decide_eq_true (by first | (with_reducible assumption) | assumption) : a0.toNat ≤ 35184372088832)) (by omega)) (Below.refl _ _) (Nat.le_refl _) ?_; intro v554 w12 ho13 hb hg_ hnew_; clear hg_ hnew_; (first | rw [← Ny553.out] at ho13 | (simp only [Int.reduceToNat] at ho13; rw [← Ny553.out] at ho13)); have n0_ := Aside0.mk (Kd.R_elder' (by (with_reducible repeat (first | apply Kd.R_alloc | apply Kd.R_drewN | apply Kd.R_drew)); exact HO551.out) (Kd.R_base ho13) hb); have n1_ := Aside0.mk (Kd.R_lower (Kd.R_new' ho13 (Kd.R_lt (by (with_reducible repeat (first | apply Kd.R_alloc | apply Kd.R_drewN | apply Kd.R_drew)); exact HO551.out))) (below_size (by repeat (first | (with_reducible first | exact HB.out | apply below_alloc | apply pw_below_drewN | apply below_drew1) | exact HB.out)))); have n2_ := Aside0.mk (below_step (by repeat (first | (with_reducible first | exact HB.out | apply below_alloc | apply pw_below_drewN | apply below_drew1) | exact HB.out)) hb); clear HO551; clear HB; have HO551 := n0_; have HO555 := n1_; have HB := n2_; clear n0_ n1_ n2_; clear hb ho13)))
    go_loopg [10] k (fun kq v10 w' => ∃ (x9_1 : List Int) (x10_1 : Int), v10 = .int .i64 x10_1 ∧ Aside0 (impl_FastestWay.l0 kq l1 a2 x9_1 x10_1 = some (r1, r2)) ∧ Aside0 (kq ≤ k) ∧ Aside0 (Kd.R (Kd.int .i64) 2 w' w.heap.size (fun _ => True) v554 x9_1) ∧ Aside0 (Below w.heap.size w w'))
    case atStart => exact ⟨(y553), (wrap64 (a0 - 1)), (by first | rfl | (simp; done) | (simp [*]; done)), H', ⟨Nat.le_refl _⟩, ⟨by (with_reducible repeat (first | apply Kd.R_alloc | apply Kd.R_drewN | apply Kd.R_drew)); exact Kd.R_mono HO555.out (fun _ hk => trivial)⟩, ⟨by repeat (first | (with_reducible first | exact HB.out | apply below_alloc | apply pw_below_drewN | apply below_drew1) | exact HB.out)⟩⟩
    case round =>
     clear H'
     try clear c1
     try clear c2
     try clear p2
     try clear c5
     try clear c5b0
     try clear c5b1
     try clear c6
     try clear c6b0
     try clear c6b1
     try clear p6
     try clear c7
     try clear c7b0
     try clear c7b1
     obtain ⟨x9_1, x10_1, rfl, HA, HK1, HO_9, HB⟩ := hrel
     cases gk with
     | zero => exact absurd HA.out (by simp [impl_FastestWay.l0])
     | succ k1 =>
      have H := HA.out
      clear HA
      simp only [impl_FastestWay.l0] at H
      by_cases c14 : x10_1 ≥ 0
      ·rw [if_pos c14] at H
       have c14b0 : decide (0 ≤ x10_1) = true := decide_eq_true c14
       clear c14
       by_cases c15 : 0 ≤ x10_1
       ·rw [if_pos c15] at H
        have c15b0 : decide (0 ≤ x10_1) = true := decide_eq_true c15
        clear c15
        by_cases c16 : x10_1 < (x9_1.length : Int)
        ·rw [if_pos c16] at H
         have c16b0 : decide (x10_1 < (x9_1.length : Int)) = true := decide_eq_true c16
         clear c16
         obtain ⟨y556, hy556⟩ : ∃ y_ : List Int, y_ = (x9_1.set (x10_1 : Int).toNat (-1)) := ⟨_, rfl⟩
         replace H : (if x10_1 = a2 then (impl_FastestWay.l0 k1 l1 a2 (y556.set (x10_1 : Int).toNat 0) (wrap64 (x10_1 - 1))) else (impl_FastestWay.l1 k1 l1 a2 y556 x10_1 l1 (l1.length : Int) 0)) = some (r1, r2) := by first | (rw [hy556]; with_reducible exact H) | (have H2_ := (Option.bind_some _ _).symm.trans H; rw [hy556]; with_reducible exact H2_) | (have H2_ := (Option.bind_some _ _).symm.trans H; with_reducible exact H2_) | with_reducible exact H | (rw [hy556]; exact H) | exact H
         have Ny556 := Aside0.mk hy556
         clear hy556
         by_cases c18 : x10_1 = a2
         ·rw [if_pos c18] at H
          have c18b0 : (x10_1 == a2) = true := beq_iff_eq.mpr c18
          have c18b1 : (x10_1 != a2) = false := bne_eq_false_iff_eq.mpr c18
          clear c18
          obtain ⟨y557, hy557⟩ : ∃ y_ : List Int, y_ = (y556.set (x10_1 : Int).toNat 0) := ⟨_, rfl⟩
          replace H : (impl_FastestWay.l0 k1 l1 a2 y557 (wrap64 (x10_1 - 1))) = some (r1, r2) := by first | (rw [hy557]; with_reducible exact H) | (have H2_ := (Option.bind_some _ _).symm.trans H; rw [hy557]; with_reducible exact H2_) | (have H2_ := (Option.bind_some _ _).symm.trans H; with_reducible exact H2_) | with_reducible exact H | (rw [hy557]; exact H) | exact H
          have Ny557 := Aside0.mk hy557
          clear hy557
          have H' := Aside0.mk H
          clear H
          have p17 : 0 ≤ (x10_1 : Int) := of_decide_eq_true (by first | (with_reducible assumption) | assumption)
          have q17 : (x10_1 : Int) < ((x9_1.length : Int) : Int) := of_decide_eq_true (by first | (with_reducible assumption) | assumption)
          obtain ⟨go17, co17, eo17, gb17, gl17, cl17, HG17⟩ := Kd.R_form HO_9.out (by omega)
          (first | cases eo17 | (injection eo17 with ea_ en_ ec_; (first | subst ea_ | (injection ea_ with ea_; subst ea_)); subst ec_; clear en_))
          have GB17 := Aside0.mk gb17
          have GG17 := Aside0.mk HG17
          clear gb17 gl17 HG17
          obtain ⟨hx17_0, hf17_0⟩ := Kd.R_celln 0 HO_9.out (x10_1 : Int) p17 q17
          replace p17 := eq_true p17
          replace q17 := eq_true q17
          have HP20 := Kd.R_putg HO_9.out (x10_1 : Int) (-1)
          go_wp2_with (first | ((with_reducible refine gate_store (t := 2) (p := 36) rfl ?_); (try (rw [drewN_self wr]; generalize hq_ : World.drewN wr _ = wr; have n0_ := Aside0.mk (Kd.R_at hq_ HO_9.out); have n1_ := Aside0.mk (below_at hq_ HB.out); clear hq_ HO_9 HB; have HO_9 := n0_; have HB := n1_; clear n0_ n1_; (try (have HP20 := Kd.R_putg HO_9.out (x10_1 : Int) (-1))))); refine store_event (t := 2) (p := 36) (v := ?vo_w21) (w1 := (wr.setCell ⟨go17, (x10_1 : Int).toNat, none⟩ (.int .i64 (-1)))) ?hg ?ho ?hn ?hr ?_; (case ho => rfl); (case hg => rfl); (case hn => rfl); (case hr => first | (go_simp; done) | (go_simp; rfl)); intro w21 hw; have hg : wr.grownBy w21 (some go17) := (by rw [hw]; exact HP20.2); have hp_ : Kd.R (Kd.int .i64) 2 w21 w.heap.size (fun _ => True) (.slice (some ⟨go17, 0, none⟩) x9_1.length co17) y556 := (by rw [hw, Ny556.out]; exact HP20.1); clear HP20; have n0_ := Aside0.mk (hp_); have n1_ := Aside0.mk ((by rw [hw]; exact below_set (HB.out) GB17.out : Below w.heap.size w w21)); clear HO_9; clear HB; have HO_9 := n0_; have HB := n1_; clear n0_ n1_; clear hg hw hp_; have p19 : 0 ≤ (x10_1 : Int) := of_decide_eq_true (by first | (with_reducible assumption) | assumption); have q19 : (x10_1 : Int) < ((x9_1.length : Int) : Int) := of_decide_eq_true (by first | (with_reducible assumption) | assumption); obtain ⟨hx19_0, hf19_0⟩ := Kd.R_celln 0 HO_9.out (x10_1 : Int) p19 q19; replace p19 := eq_true p19; replace q19 := eq_true q19; obtain ⟨hy22_, hz22_⟩ := Kd.R_celln 0 HO_9.out (x10_1 : Int) (of_decide_eq_true (by first | (with_reducible assumption) | assumption)) (of_decide_eq_true (by first | (with_reducible assumption) | assumption)); have HP22 := Kd.R_putg HO_9.out (x10_1 : Int) 0) | ((with_reducible refine gate_store (t := 2) (p := 42) rfl ?_); (try (rw [drewN_self w21]; generalize hq_ : World.drewN w21 _ = w21; have n0_ := Aside0.mk (Kd.R_at hq_ HO_9.out); have n1_ := Aside0.mk (below_at hq_ HB.out); clear hq_ HO_9 HB; have HO_9 := n0_; have HB := n1_; clear n0_ n1_; (try (obtain ⟨hy22_, hz22_⟩ := Kd.R_celln 0 HO_9.out (x10_1 : Int) (of_decide_eq_true (by first | (with_reducible assumption) | assumption)) (of_decide_eq_true (by first | (with_reducible assumption) | assumption)))); (try (have HP22 := Kd.R_putg HO_9.out (x10_1 : Int) 0)))); refine store_event (t := 2) (p := 42) (v := ?vo_w23) (w1 := (w21.setCell ⟨go17, (x10_1 : Int).toNat, none⟩ (.int .i64 0))) ?hg ?ho ?hn ?hr ?_; (case ho => rfl); (case hg => rfl); (case hn => rfl); (case hr => first | (go_simp; done) | (go_simp; rfl)); intro w23 hw; have hg : w21.grownBy w23 (some go17) := (by rw [hw]; exact HP22.2); have hp_ : Kd.R (Kd.int .i64) 2 w23 w.heap.size (fun _ => True) (.slice (some ⟨go17, 0, none⟩) x9_1.length co17) y557 := (by rw [hw, Ny557.out]; exact HP22.1); clear HP22; have n0_ := Aside0.mk (hp_); have n1_ := Aside0.mk ((by rw [hw]; exact below_set (HB.out) GB17.out : Below w.heap.size w w23)); clear HO_9; clear HB; have HO_9 := n0_; have HB := n1_; clear n0_ n1_; clear hg hw hp_))
          repeat (go_quiet (first | ((with_reducible refine gate_store (t := 2) (p := 36) rfl ?_); (try (rw [drewN_self wr]; generalize hq_ : World.drewN wr _ = wr; have n0_ := Aside0.mk (Kd.R_at hq_ HO_9.out); have n1_ := Aside0.mk (below_at hq_ HB.out); clear hq_ HO_9 HB; have HO_9 := n0_; have HB := n1_; clear n0_ n1_; (try (have HP20 := Kd.R_putg HO_9.out (x10_1 : Int) (-1))))); refine store_event (t := 2) (p := 36) (v := ?vo_w21) (w1 := (wr.setCell ⟨go17, (x10_1 : Int).toNat, none⟩ (.int .i64 (-1)))) ?hg ?ho ?hn ?hr ?_; (case ho => rfl); (case hg => rfl); (case hn => rfl); (case hr => first | (go_simp; done) | (go_simp; rfl)); intro w21 hw; have hg : wr.grownBy w21 (some go17) := (by rw [hw]; exact HP20.2); have hp_ : Kd.R (Kd.int .i64) 2 w21 w.heap.size (fun _ => True) (.slice (some ⟨go17, 0, none⟩) x9_1.length co17) y556 := (by rw [hw, Ny556.out]; exact HP20.1); clear HP20; have n0_ := Aside0.mk (hp_); have n1_ := Aside0.mk ((by rw [hw]; exact below_set (HB.out) GB17.out : Below w.heap.size w w21)); clear HO_9; clear HB; have HO_9 := n0_; have HB := n1_; clear n0_ n1_; clear hg hw hp_; have p19 : 0 ≤ (x10_1 : Int) := of_decide_eq_true (by first | (with_reducible assumption) | assumption); have q19 : (x10_1 : Int) < ((x9_1.length : Int) : Int) := of_decide_eq_true (by first | (with_reducible assumption) | assumption); obtain ⟨hx19_0, hf19_0⟩ := Kd.R_celln 0 HO_9.out (x10_1 : Int) p19 q19; replace p19 := eq_true p19; replace q19 := eq_true q19; obtain ⟨hy22_, hz22_⟩ := Kd.R_celln 0 HO_9.out (x10_1 : Int) (of_decide_eq_true (by first | (with_reducible assumption) | assumption)) (of_decide_eq_true (by first | (with_reducible assumption) | assumption)); have HP22 := Kd.R_putg HO_9.out (x10_1 : Int) 0) | ((with_reducible refine gate_store (t := 2) (p := 42) rfl ?_); (try (rw [drewN_self w21]; generalize hq_ : World.drewN w21 _ = w21; have n0_ := Aside0.mk (Kd.R_at hq_ HO_9.out); have n1_ := Aside0.mk (below_at hq_ HB.out); clear hq_ HO_9 HB; have HO_9 := n0_; have HB := n1_; clear n0_ n1_; (try (obtain ⟨hy22_, hz22_⟩ := Kd.R_celln 0 HO_9.out (x10_1 : Int) (of_decide_eq_true (by first | (with_reducible assumption) | assumption)) (of_decide_eq_true (by first | (with_reducible assumption) | assumption)))); (try (have HP22 := Kd.R_putg HO_9.out (x10_1 : Int) 0)))); refine store_event (t := 2) (p := 42) (v := ?vo_w23) (w1 := (w21.setCell ⟨go17, (x10_1 : Int).toNat, none⟩ (.int .i64 0))) ?hg ?ho ?hn ?hr ?_; (case ho => rfl); (case hg => rfl); (case hn => rfl); (case hr => first | (go_simp; done) | (go_simp; rfl)); intro w23 hw; have hg : w21.grownBy w23 (some go17) := (by rw [hw]; exact HP22.2); have hp_ : Kd.R (Kd.int .i64) 2 w23 w.heap.size (fun _ => True) (.slice (some ⟨go17, 0, none⟩) x9_1.length co17) y557 := (by rw [hw, Ny557.out]; exact HP22.1); clear HP22; have n0_ := Aside0.mk (hp_); have n1_ := Aside0.mk ((by rw [hw]; exact below_set (HB.out) GB17.out : Below w.heap.size w w23)); clear HO_9; clear HB; have HO_9 := n0_; have HB := n1_; clear n0_ n1_; clear hg hw hp_)); try go_wp2_with (first | ((with_reducible refine gate_store (t := 2) (p := 36) rfl ?_); (try (rw [drewN_self wr]; generalize hq_ : World.drewN wr _ = wr; have n0_ := Aside0.mk (Kd.R_at hq_ HO_9.out); have n1_ := Aside0.mk (below_at hq_ HB.out); clear hq_ HO_9 HB; have HO_9 := n0_; have HB := n1_; clear n0_ n1_; (try (have HP20 := Kd.R_putg HO_9.out (x10_1 : Int) (-1))))); refine store_event (t := 2) (p := 36) (v := ?vo_w21) (w1 := (wr.setCell ⟨go17, (x10_1 : Int).toNat, none⟩ (.int .i64 (-1)))) ?hg ?ho ?hn ?hr ?_; (case ho => rfl); (case hg => rfl); (case hn => rfl); (case hr => first | (go_simp; done) | (go_simp; rfl)); intro w21 hw; have hg : wr.grownBy w21 (some go17) := (by rw [hw]; exact HP20.2); have hp_ : Kd.R (Kd.int .i64) 2 w21 w.heap.size (fun _ => True) (.slice (some ⟨go17, 0, none⟩) x9_1.length co17) y556 := (by rw [hw, Ny556.out]; exact HP20.1); clear HP20; have n0_ := Aside0.mk (hp_); have n1_ := Aside0.mk ((by rw [hw]; exact below_set (HB.out) GB17.out : Below w.heap.size w w21)); clear HO_9; clear HB; have HO_9 := n0_; have HB := n1_; clear n0_ n1_; clear hg hw hp_; have p19 : 0 ≤ (x10_1 : Int) := of_decide_eq_true (by first | (with_reducible assumption) | assumption); have q19 : (x10_1 : Int) < ((x9_1.length : Int) : Int) := of_decide_eq_true (by first | (with_reducible assumption) | assumption); obtain ⟨hx19_0, hf19_0⟩ := Kd.R_celln 0 HO_9.out (x10_1 : Int) p19 q19; replace p19 := eq_true p19; replace q19 := eq_true q19; obtain ⟨hy22_, hz22_⟩ := Kd.R_celln 0 HO_9.out (x10_1 : Int) (of_decide_eq_true (by first | (with_reducible assumption) | assumption)) (of_decide_eq_true (by first | (with_reducible assumption) | assumption)); have HP22 := Kd.R_putg HO_9.out (x10_1 : Int) 0) | ((with_reducible refine gate_store (t := 2) (p := 42) rfl ?_); (try (rw [drewN_self w21]; generalize hq_ : World.drewN w21 _ = w21; have n0_ := Aside0.mk (Kd.R_at hq_ HO_9.out); have n1_ := Aside0.mk (below_at hq_ HB.out); clear hq_ HO_9 HB; have HO_9 := n0_; have HB := n1_; clear n0_ n1_; (try (obtain ⟨hy22_, hz22_⟩ := Kd.R_celln 0 HO_9.out (x10_1 : Int) (of_decide_eq_true (by first | (with_reducible assumption) | assumption)) (of_decide_eq_true (by first | (with_reducible assumption) | assumption)))); (try (have HP22 := Kd.R_putg HO_9.out (x10_1 : Int) 0)))); refine store_event (t := 2) (p := 42) (v := ?vo_w23) (w1 := (w21.setCell ⟨go17, (x10_1 : Int).toNat, none⟩ (.int .i64 0))) ?hg ?ho ?hn ?hr ?_; (case ho => rfl); (case hg => rfl); (case hn => rfl); (case hr => first | (go_simp; done) | (go_simp; rfl)); intro w23 hw; have hg : w21.grownBy w23 (some go17) := (by rw [hw]; exact HP22.2); have hp_ : Kd.R (Kd.int .i64) 2 w23 w.heap.size (fun _ => True) (.slice (some ⟨go17, 0, none⟩) x9_1.length co17) y557 := (by rw [hw, Ny557.out]; exact HP22.1); clear HP22; have n0_ := Aside0.mk (hp_); have n1_ := Aside0.mk ((by rw [hw]; exact below_set (HB.out) GB17.out : Below w.heap.size w w23)); clear HO_9; clear HB; have HO_9 := n0_; have HB := n1_; clear n0_ n1_; clear hg hw hp_)))
          go_roundg k1
          case measure => have := HK1.out; omega
          case rel => exact ⟨(y557), (wrap64 (x10_1 - 1)), (by first | rfl | (simp; done) | (simp [*]; done)), H', ⟨by have := HK1.out; omega⟩, ⟨by (with_reducible repeat (first | apply Kd.R_alloc | apply Kd.R_drewN | apply Kd.R_drew)); first | exact HO_9.out | (rw [Ny557.out]; exact (Kd.R_putg (by (with_reducible repeat (first | apply Kd.R_alloc | apply Kd.R_drewN | apply Kd.R_drew)); exact HO_9.out) _ _).1)⟩, ⟨by repeat (first | (with_reducible first | exact HB.out | apply below_alloc | apply pw_below_drewN | apply below_drew1) | exact HB.out)⟩⟩
         ·rw [if_neg c18] at H
          have c18b0 : (x10_1 == a2) = false := beq_eq_false_iff_ne.mpr c18
          have c18b1 : (x10_1 != a2) = true := bne_iff_ne.mpr c18
          have H' := Aside0.mk H
          clear H
          have p17 : 0 ≤ (x10_1 : Int) := of_decide_eq_true (by first | (with_reducible assumption) | assumption)
          have q17 : (x10_1 : Int) < ((x9_1.length : Int) : Int) := of_decide_eq_true (by first | (with_reducible assumption) | assumption)
          obtain ⟨go17, co17, eo17, gb17, gl17, cl17, HG17⟩ := Kd.R_form HO_9.out (by omega)
          (first | cases eo17 | (injection eo17 with ea_ en_ ec_; (first | subst ea_ | (injection ea_ with ea_; subst ea_)); subst ec_; clear en_))
          have GB17 := Aside0.mk gb17
          have GG17 := Aside0.mk HG17
          clear gb17 gl17 HG17
          obtain ⟨hx17_0, hf17_0⟩ := Kd.R_celln 0 HO_9.out (x10_1 : Int) p17 q17
          replace p17 := eq_true p17
          replace q17 := eq_true q17
          have HP24 := Kd.R_putg HO_9.out (x10_1 : Int) (-1)
          go_wp2_with (first | ((with_reducible refine gate_store (t := 2) (p := 36) rfl ?_); (try (rw [drewN_self wr]; generalize hq_ : World.drewN wr _ = wr; have n0_ := Aside0.mk (Kd.R_at hq_ HO_9.out); have n1_ := Aside0.mk (below_at hq_ HB.out); clear hq_ HO_9 HB; have HO_9 := n0_; have HB := n1_; clear n0_ n1_; (try (have HP24 := Kd.R_putg HO_9.out (x10_1 : Int) (-1))))); refine store_event (t := 2) (p := 36) (v := ?vo_w25) (w1 := (wr.setCell ⟨go17, (x10_1 : Int).toNat, none⟩ (.int .i64 (-1)))) ?hg ?ho ?hn ?hr ?_; (case ho => rfl); (case hg => rfl); (case hn => rfl); (case hr => first | (go_simp; done) | (go_simp; rfl)); intro w25 hw; have hg : wr.grownBy w25 (some go17) := (by rw [hw]; exact HP24.2); have hp_ : Kd.R (Kd.int .i64) 2 w25 w.heap.size (fun _ => True) (.slice (some ⟨go17, 0, none⟩) x9_1.length co17) y556 := (by rw [hw, Ny556.out]; exact HP24.1); clear HP24; have n0_ := Aside0.mk (hp_); have n1_ := Aside0.mk ((by rw [hw]; exact below_set (HB.out) GB17.out : Below w.heap.size w w25)); clear HO_9; clear HB; have HO_9 := n0_; have HB := n1_; clear n0_ n1_; clear hg hw hp_))
          repeat (go_quiet (first | ((with_reducible refine gate_store (t := 2) (p := 36) rfl ?_); (try (rw [drewN_self wr]; generalize hq_ : World.drewN wr _ = wr; have n0_ := Aside0.mk (Kd.R_at hq_ HO_9.out); have n1_ := Aside0.mk (below_at hq_ HB.out); clear hq_ HO_9 HB; have HO_9 := n0_; have HB := n1_; clear n0_ n1_; (try (have HP24 := Kd.R_putg HO_9.out (x10_1 : Int) (-1))))); refine store_event (t := 2) (p := 36) (v := ?vo_w25) (w1 := (wr.setCell ⟨go17, (x10_1 : Int).toNat, none⟩ (.int .i64 (-1)))) ?hg ?ho ?hn ?hr ?_; (case ho => rfl); (case hg => rfl); (case hn => rfl); (case hr => first | (go_simp; done) | (go_simp; rfl)); intro w25 hw; have hg : wr.grownBy w25 (some go17) := (by rw [hw]; exact HP24.2); have hp_ : Kd.R (Kd.int .i64) 2 w25 w.heap.size (fun _ => True) (.slice (some ⟨go17, 0, none⟩) x9_1.length co17) y556 := (by rw [hw, Ny556.out]; exact HP24.1); clear HP24; have n0_ := Aside0.mk (hp_); have n1_ := Aside0.mk ((by rw [hw]; exact below_set (HB.out) GB17.out : Below w.heap.size w w25)); clear HO_9; clear HB; have HO_9 := n0_; have HB := n1_; clear n0_ n1_; clear hg hw hp_)); try go_wp2_with (first | ((with_reducible refine gate_store (t := 2) (p := 36) rfl ?_); (try (rw [drewN_self wr]; generalize hq_ : World.drewN wr _ = wr; have n0_ := Aside0.mk (Kd.R_at hq_ HO_9.out); have n1_ := Aside0.mk (below_at hq_ HB.out); clear hq_ HO_9 HB; have HO_9 := n0_; have HB := n1_; clear n0_ n1_; (try (have HP24 := Kd.R_putg HO_9.out (x10_1 : Int) (-1))))); refine store_event (t := 2) (p := 36) (v := ?vo_w25) (w1 := (wr.setCell ⟨go17, (x10_1 : Int).toNat, none⟩ (.int .i64 (-1)))) ?hg ?ho ?hn ?hr ?_; (case ho => rfl); (case hg => rfl); (case hn => rfl); (case hr => first | (go_simp; done) | (go_simp; rfl)); intro w25 hw; have hg : wr.grownBy w25 (some go17) := (by rw [hw]; exact HP24.2); have hp_ : Kd.R (Kd.int .i64) 2 w25 w.heap.size (fun _ => True) (.slice (some ⟨go17, 0, none⟩) x9_1.length co17) y556 := (by rw [hw, Ny556.out]; exact HP24.1); clear HP24; have n0_ := Aside0.mk (hp_); have n1_ := Aside0.mk ((by rw [hw]; exact below_set (HB.out) GB17.out : Below w.heap.size w w25)); clear HO_9; clear HB; have HO_9 := n0_; have HB := n1_; clear n0_ n1_; clear hg hw hp_)))
          go_loopg [45] k1 (fun kq v45 w' => ∃ (x9_2 : List Int) (x45_2 : Int), v45 = .int .i64 x45_2 ∧ Aside0 (impl_FastestWay.l1 kq l1 a2 x9_2 x10_1 l1 (l1.length : Int) x45_2 = some (r1, r2)) ∧ Aside0 (kq ≤ k1) ∧ Aside0 (Kd.R (Kd.int .i64) 2 w' w.heap.size (fun _ => True) (.slice (some ⟨go17, 0, none⟩) x9_1.length co17) x9_2) ∧ Aside0 (Below w.heap.size w w'))
          case atStart => exact ⟨(y556), (0), (by first | rfl | (simp; done) | (simp [*]; done)), H', ⟨Nat.le_refl _⟩, ⟨by (with_reducible repeat (first | apply Kd.R_alloc | apply Kd.R_drewN | apply Kd.R_drew)); exact HO_9.out⟩, ⟨by repeat (first | (with_reducible first | exact HB.out | apply below_alloc | apply pw_below_drewN | apply below_drew1) | exact HB.out)⟩⟩
          case round =>
           clear H'
           try clear c1
           try clear p1
           try clear q1
           try clear hx1
           try clear c2
           try clear p2
           try clear c5
           try clear c5b0
           try clear c5b1
           try clear c6
           try clear c6b0
           try clear c6b1
           try clear p6
           try clear c7
           try clear c7b0
           try clear c7b1
           try clear c14
           try clear c14b0
           try clear c15
           try clear c15b0
           try clear c16
           try clear c16b0
           try clear p17
           try clear q17
           try clear hx17
           try clear hf17
           try clear c18
           try clear c18b0
           try clear c18b1
           try clear p19
           try clear q19
           try clear hx19
           try clear hf19
           try clear c24
           try clear hx17_0
           try clear hx19_0
           try clear p17
           try clear p19
           try clear p2
           try clear p6
           try clear q17
           try clear q19
           obtain ⟨x9_2, x45_2, rfl, HA, HK2, HO_9, HB⟩ := hrel
           have hl9_2 := (Kd.R_reads' HO_9.out).1
           rw [hl9_2] at HO_9
           (try simp only [hl9_2])
           cases gk with
           | zero => exact absurd HA.out (by simp [impl_FastestWay.l1])
           | succ k2 =>
            have H := HA.out
            clear HA
            simp only [impl_FastestWay.l1] at H
            by_cases c26 : x45_2 < (l1.length : Int)
            ·rw [if_pos c26] at H
             have c26b0 : decide (x45_2 < (l1.length : Int)) = true := decide_eq_true c26
             clear c26
             by_cases c27 : 0 ≤ x45_2
             ·rw [if_pos c27] at H
              have c27b0 : decide (0 ≤ x45_2) = true := decide_eq_true c27
              clear c27
              by_cases c28 : x45_2 < (l1.length : Int)
              ·rw [if_pos c28] at H
               have c28b0 : decide (x45_2 < (l1.length : Int)) = true := decide_eq_true c28
               clear c28
               have HC29 := Aside0.mk H
               clear H
               have p558 : 0 ≤ (x45_2 : Int) := of_decide_eq_true (by first | (with_reducible assumption) | assumption)
               have q558 : x45_2 < (l1.length : Int) := of_decide_eq_true (by first | (with_reducible assumption) | assumption)
               obtain ⟨ad558, e558, hx558_0, hx558_1, hx558_2, hx558_3⟩ := at_T44 HR1.out x45_2 p558 q558
               cases e558
               replace hx558_0 := (HB.out.cell (World.block_lt_of_cell? w _ hx558_0)).trans hx558_0
               replace hx558_1 := (HB.out.cell (World.block_lt_of_cell? w _ hx558_1)).trans hx558_1
               replace hx558_2 := (HB.out.cell (World.block_lt_of_cell? w _ hx558_2)).trans hx558_2
               replace hx558_3 := (HB.out.cell (World.block_lt_of_cell? w _ hx558_3)).trans hx558_3
               replace p558 := eq_true p558
               replace q558 := eq_true q558
               go_upto_region 14 with (first | ((with_reducible refine gate_dst (N := 12) rfl ?_); refine box_event ?hg (N := 12) ?hd (cs := #[.int .i64 0, .int .i64 0, .int .i64 0, .int .i64 0]) (t := 44) ?hr ?_; (case hd => rfl); (case hg => rfl); (case hr => first | (go_simp; done) | (go_simp; rfl)); intro gb559 hg w30 hbox hb; have n0_ := Aside0.mk (Kd.R_below (by (with_reducible repeat (first | apply Kd.R_alloc | apply Kd.R_drewN | apply Kd.R_drew)); exact HO_9.out) hb); have n1_ := Aside0.mk (below_step (by repeat (first | (with_reducible first | exact HB.out | apply below_alloc | apply pw_below_drewN | apply below_drew1) | exact HB.out)) hb); have n2_ := Aside0.mk (hbox); have n3_ := Aside0.mk ((by rw [hg]; exact (below_size (by repeat (first | (with_reducible first | exact HB.out | apply below_alloc | apply pw_below_drewN | apply below_drew1) | exact HB.out))) : w.heap.size ≤ gb559)); have n4_ := Aside0.mk ((by rw [hg]; exact (below_size (by repeat (first | (with_reducible first | exact HB.out | apply below_alloc | apply pw_below_drewN | apply below_drew1) | exact HB.out))) : w.heap.size ≤ gb559)); clear HO_9; clear HB; have HO_9 := n0_; have HB := n1_; have BK559 := n2_; have GW559 := n3_; have GE559 := n4_; clear n0_ n1_ n2_ n3_ n4_; clear hb hbox hg; have hcz31_0 : w30.cell? ⟨gb559, 0, none⟩ = some (.int .i64 0) := (blk_cell BK559.out 0).trans rfl; have hcz31_1 : w30.cell? ⟨gb559, 1, none⟩ = some (.int .i64 0) := (blk_cell BK559.out 1).trans rfl; have hcz31_2 : w30.cell? ⟨gb559, 2, none⟩ = some (.int .i64 0) := (blk_cell BK559.out 2).trans rfl; have hcz31_3 : w30.cell? ⟨gb559, 3, none⟩ = some (.int .i64 0) := (blk_cell BK559.out 3).trans rfl; have hfz31_0 := blk_frozen BK559.out 0; have hfz31_1 := blk_frozen BK559.out 1; have hfz31_2 := blk_frozen BK559.out 2; have hfz31_3 := blk_frozen BK559.out 3))
               repeat (go_quiet (first | ((with_reducible refine gate_dst (N := 12) rfl ?_); refine box_event ?hg (N := 12) ?hd (cs := #[.int .i64 0, .int .i64 0, .int .i64 0, .int .i64 0]) (t := 44) ?hr ?_; (case hd => rfl); (case hg => rfl); (case hr => first | (go_simp; done) | (go_simp; rfl)); intro gb559 hg w30 hbox hb; have n0_ := Aside0.mk (Kd.R_below (by (with_reducible repeat (first | apply Kd.R_alloc | apply Kd.R_drewN | apply Kd.R_drew)); exact HO_9.out) hb); have n1_ := Aside0.mk (below_step (by repeat (first | (with_reducible first | exact HB.out | apply below_alloc | apply pw_below_drewN | apply below_drew1) | exact HB.out)) hb); have n2_ := Aside0.mk (hbox); have n3_ := Aside0.mk ((by rw [hg]; exact (below_size (by repeat (first | (with_reducible first | exact HB.out | apply below_alloc | apply pw_below_drewN | apply below_drew1) | exact HB.out))) : w.heap.size ≤ gb559)); have n4_ := Aside0.mk ((by rw [hg]; exact (below_size (by repeat (first | (with_reducible first | exact HB.out | apply below_alloc | apply pw_below_drewN | apply below_drew1) | exact HB.out))) : w.heap.size ≤ gb559)); clear HO_9; clear HB; have HO_9 := n0_; have HB := n1_; have BK559 := n2_; have GW559 := n3_; have GE559 := n4_; clear n0_ n1_ n2_ n3_ n4_; clear hb hbox hg; have hcz31_0 : w30.cell? ⟨gb559, 0, none⟩ = some (.int .i64 0) := (blk_cell BK559.out 0).trans rfl; have hcz31_1 : w30.cell? ⟨gb559, 1, none⟩ = some (.int .i64 0) := (blk_cell BK559.out 1).trans rfl; have hcz31_2 : w30.cell? ⟨gb559, 2, none⟩ = some (.int .i64 0) := (blk_cell BK559.out 2).trans rfl; have hcz31_3 : w30.cell? ⟨gb559, 3, none⟩ = some (.int .i64 0) := (blk_cell BK559.out 3).trans rfl; have hfz31_0 := blk_frozen BK559.out 0; have hfz31_1 := blk_frozen BK559.out 1; have hfz31_2 := blk_frozen BK559.out 2; have hfz31_3 := blk_frozen BK559.out 3)); go_upto_region 14 with (first | ((with_reducible refine gate_dst (N := 12) rfl ?_); refine box_event ?hg (N := 12) ?hd (cs := #[.int .i64 0, .int .i64 0, .int .i64 0, .int .i64 0]) (t := 44) ?hr ?_; (case hd => rfl); (case hg => rfl); (case hr => first | (go_simp; done) | (go_simp; rfl)); intro gb559 hg w30 hbox hb; have n0_ := Aside0.mk (Kd.R_below (by (with_reducible repeat (first | apply Kd.R_alloc | apply Kd.R_drewN | apply Kd.R_drew)); exact HO_9.out) hb); have n1_ := Aside0.mk (below_step (by repeat (first | (with_reducible first | exact HB.out | apply below_alloc | apply pw_below_drewN | apply below_drew1) | exact HB.out)) hb); have n2_ := Aside0.mk (hbox); have n3_ := Aside0.mk ((by rw [hg]; exact (below_size (by repeat (first | (with_reducible first | exact HB.out | apply below_alloc | apply pw_below_drewN | apply below_drew1) | exact HB.out))) : w.heap.size ≤ gb559)); have n4_ := Aside0.mk ((by rw [hg]; exact (below_size (by repeat (first | (with_reducible first | exact HB.out | apply below_alloc | apply pw_below_drewN | apply below_drew1) | exact HB.out))) : w.heap.size ≤ gb559)); clear HO_9; clear HB; have HO_9 := n0_; have HB := n1_; have BK559 := n2_; have GW559 := n3_; have GE559 := n4_; clear n0_ n1_ n2_ n3_ n4_; clear hb hbox hg; have hcz31_0 : w30.cell? ⟨gb559, 0, none⟩ = some (.int .i64 0) := (blk_cell BK559.out 0).trans rfl; have hcz31_1 : w30.cell? ⟨gb559, 1, none⟩ = some (.int .i64 0) := (blk_cell BK559.out 1).trans rfl; have hcz31_2 : w30.cell? ⟨gb559, 2, none⟩ = some (.int .i64 0) := (blk_cell BK559.out 2).trans rfl; have hcz31_3 : w30.cell? ⟨gb559, 3, none⟩ = some (.int .i64 0) := (blk_cell BK559.out 3).trans rfl; have hfz31_0 := blk_frozen BK559.out 0; have hfz31_1 := blk_frozen BK559.out 1; have hfz31_2 := blk_frozen BK559.out 2; have hfz31_3 := blk_frozen BK559.out 3)))
               (try simp only [Act.put, List.setIfInBounds_toArray, List.set_cons_zero, List.set_cons_succ])
               go_cut [60] (fun v60 wc => ∃ (kq : Nat) (x60_28 : Bool), v60 = .bool x60_28 ∧ Aside0 (impl_FastestWay.j2 kq l1 a2 x9_2 x10_1 l1 (l1.length : Int) x45_2 x60_28 ((rd_T44 l1 x45_2).f0) ((rd_T44 l1 x45_2).f1) ((rd_T44 l1 x45_2).f2) ((rd_T44 l1 x45_2).f3) = some (r1, r2)) ∧ Aside0 (kq ≤ k2) ∧ Aside0 (Kd.R (Kd.int .i64) 2 wc w.heap.size (fun _ => True) (.slice (some ⟨go17, 0, none⟩) x9_2.length co17) x9_2) ∧ Aside0 (wc.heap[gb559]? = some (.cells #[.int .i64 ((rd_T44 l1 x45_2).f0), .int .i64 ((rd_T44 l1 x45_2).f1), .int .i64 ((rd_T44 l1 x45_2).f2), .int .i64 ((rd_T44 l1 x45_2).f3)] 44 (0, 0))) ∧ Aside0 (Below w.heap.size w wc))
               case first =>
                have H := HC29.out
                clear HC29
                by_cases c32 : ((rd_T44 l1 x45_2).f0) = x10_1
                ·rw [if_pos c32] at H
                 have c32b0 : (((rd_T44 l1 x45_2).f0) == x10_1) = true := beq_iff_eq.mpr c32
                 have c32b1 : (((rd_T44 l1 x45_2).f0) != x10_1) = false := bne_eq_false_iff_eq.mpr c32
                 clear c32
                 (first | rw [c32b0] | (simp only [i64_w, i32_w]; rw [c32b0]) | skip)
                 by_cases c33 : 0 ≤ ((rd_T44 l1 x45_2).f1)
                 ·rw [if_pos c33] at H
                  have c33b0 : decide (0 ≤ ((rd_T44 l1 x45_2).f1)) = true := decide_eq_true c33
                  clear c33
                  by_cases c34 : ((rd_T44 l1 x45_2).f1) < (x9_2.length : Int)
                  ·rw [if_pos c34] at H
                   have c34b0 : decide (((rd_T44 l1 x45_2).f1) < (x9_2.length : Int)) = true := decide_eq_true c34
                   clear c34
                   have H' := Aside0.mk H
                   clear H
                   have hcz35_0 : w30.cell? ⟨gb559, 0, none⟩ = some (.int .i64 0) := (blk_cell BK559.out 0).trans rfl
                   have hcz35_1 : w30.cell? ⟨gb559, 1, none⟩ = some (.int .i64 0) := (blk_cell BK559.out 1).trans rfl
                   have hcz35_2 : w30.cell? ⟨gb559, 2, none⟩ = some (.int .i64 0) := (blk_cell BK559.out 2).trans rfl
                   have hcz35_3 : w30.cell? ⟨gb559, 3, none⟩ = some (.int .i64 0) := (blk_cell BK559.out 3).trans rfl
                   have hfz35_0 := blk_frozen BK559.out 0
                   have hfz35_1 := blk_frozen BK559.out 1
                   have hfz35_2 := blk_frozen BK559.out 2
                   have hfz35_3 := blk_frozen BK559.out 3
                   have p560 : 0 ≤ (((rd_T44 l1 x45_2).f1) : Int) := of_decide_eq_true (by first | (with_reducible assumption) | assumption)
                   have q560 : ((rd_T44 l1 x45_2).f1) < (x9_2.length : Int) := of_decide_eq_true (by first | (with_reducible assumption) | assumption)
                   obtain ⟨ad560, e560, hx560_0⟩ := Kd.at_int (Kd.R_reads' HO_9.out).2.2 ((rd_T44 l1 x45_2).f1) p560 q560
                   obtain rfl : (⟨go17, 0, none⟩ : Addr) = ad560 := (by injection e560)
                   (first | simp only [add_plain] at hx560_0 | simp only [add_at] at hx560_0 | simp only [Addr.add, Nat.zero_add] at hx560_0 | skip)
                   have hn560_0 : (⟨go17, 0, none⟩ : Addr).block ≠ gb559 := Kd.own_blk (Kd.R_ne HO_9.out BK559.out (by decide))
                   have hn560_1 : (⟨go17, 0, none⟩ : Addr).block ≠ gb559 := Kd.own_blk (Kd.R_ne HO_9.out BK559.out (by decide))
                   have hn560_2 : (⟨go17, 0, none⟩ : Addr).block ≠ gb559 := Kd.own_blk (Kd.R_ne HO_9.out BK559.out (by decide))
                   have hn560_3 : (⟨go17, 0, none⟩ : Addr).block ≠ gb559 := Kd.own_blk (Kd.R_ne HO_9.out BK559.out (by decide))
                   replace hx560_0 := (cell_far (p := ⟨gb559, 0, none⟩) (by first | (rw [add_block]; exact hn560_0) | (show (Addr.add _ _).block ≠ _; rw [add_block]; exact hn560_0) | exact hn560_0) (.int .i64 ((rd_T44 l1 x45_2).f0))).trans hx560_0
                   replace hx560_0 := (cell_far (p := ⟨gb559, 1, none⟩) (by first | (rw [add_block]; exact hn560_1) | (show (Addr.add _ _).block ≠ _; rw [add_block]; exact hn560_1) | exact hn560_1) (.int .i64 ((rd_T44 l1 x45_2).f1))).trans hx560_0
                   replace hx560_0 := (cell_far (p := ⟨gb559, 2, none⟩) (by first | (rw [add_block]; exact hn560_2) | (show (Addr.add _ _).block ≠ _; rw [add_block]; exact hn560_2) | exact hn560_2) (.int .i64 ((rd_T44 l1 x45_2).f2))).trans hx560_0
                   replace hx560_0 := (cell_far (p := ⟨gb559, 3, none⟩) (by first | (rw [add_block]; exact hn560_3) | (show (Addr.add _ _).block ≠ _; rw [add_block]; exact hn560_3) | exact hn560_3) (.int .i64 ((rd_T44 l1 x45_2).f3))).trans hx560_0
                   (try have hy560_0 := fun (n_ : Nat) => (show ((((((w30.drewN n_).setCell ⟨gb559, 0, none⟩ (.int .i64 ((rd_T44 l1 x45_2).f0))).setCell ⟨gb559, 1, none⟩ (.int .i64 ((rd_T44 l1 x45_2).f1))).setCell ⟨gb559, 2, none⟩ (.int .i64 ((rd_T44 l1 x45_2).f2))).setCell ⟨gb559, 3, none⟩ (.int .i64 ((rd_T44 l1 x45_2).f3)))).cell? _ = some _ from hx560_0))
                   clear hn560_0
                   clear hn560_1
                   clear hn560_2
                   clear hn560_3
                   replace p560 := eq_true p560
                   replace q560 := eq_true q560
                   go_wp2
                   repeat (go_quiet (fail); try go_wp2)
                   go_meet
                   case rel => exact ⟨_, (decide ((rd x9_2 ((rd_T44 l1 x45_2).f1)) ≥ 0)), (by first | rfl | (simp; done) | (simp [*]; done)), H', ⟨by have := HK1.out; have := HK2.out; first | omega | exact Nat.le_refl _⟩, ⟨by (try simp only [hl9_2]); (with_reducible repeat (first | apply Kd.R_alloc | apply Kd.R_drewN | apply Kd.R_drew)); exact Kd.R_mono (Kd.R_far (p := ⟨gb559, 3, none⟩) (Kd.R_far (p := ⟨gb559, 2, none⟩) (Kd.R_far (p := ⟨gb559, 1, none⟩) (Kd.R_far (p := ⟨gb559, 0, none⟩) (Kd.R_types HO_9.out BK559.out (by decide)) (fun _ hk => hk.2) (.int .i64 ((rd_T44 l1 x45_2).f0))) (fun _ hk => hk.2) (.int .i64 ((rd_T44 l1 x45_2).f1))) (fun _ hk => hk.2) (.int .i64 ((rd_T44 l1 x45_2).f2))) (fun _ hk => hk.2) (.int .i64 ((rd_T44 l1 x45_2).f3))) (fun _ hk => trivial)⟩, ⟨by (try simp only [hl9_2]); (with_reducible repeat (first | refine blk_drewN ?_ _ | refine blk_drew ?_ | refine blk_alloc ?_ _)); refine blk_put (cs := #[.int .i64 ((rd_T44 l1 x45_2).f0), .int .i64 ((rd_T44 l1 x45_2).f1), .int .i64 ((rd_T44 l1 x45_2).f2), .int .i64 0]) ?_ 3 _ rfl; (with_reducible repeat (first | refine blk_drewN ?_ _ | refine blk_drew ?_ | refine blk_alloc ?_ _)); refine blk_put (cs := #[.int .i64 ((rd_T44 l1 x45_2).f0), .int .i64 ((rd_T44 l1 x45_2).f1), .int .i64 0, .int .i64 0]) ?_ 2 _ rfl; (with_reducible repeat (first | refine blk_drewN ?_ _ | refine blk_drew ?_ | refine blk_alloc ?_ _)); refine blk_put (cs := #[.int .i64 ((rd_T44 l1 x45_2).f0), .int .i64 0, .int .i64 0, .int .i64 0]) ?_ 1 _ rfl; (with_reducible repeat (first | refine blk_drewN ?_ _ | refine blk_drew ?_ | refine blk_alloc ?_ _)); refine blk_put (cs := #[.int .i64 0, .int .i64 0, .int .i64 0, .int .i64 0]) ?_ 0 _ rfl; (with_reducible repeat (first | refine blk_drewN ?_ _ | refine blk_drew ?_ | refine blk_alloc ?_ _)); exact BK559.out⟩, ⟨by repeat (first | (with_reducible first | exact HB.out | apply below_alloc | apply pw_below_drewN | apply below_drew1 | refine below_set ?_ GE559.out) | exact HB.out)⟩⟩
                  ·rw [if_neg c34] at H
                   exact absurd H (by simp)
                 ·rw [if_neg c33] at H
                  exact absurd H (by simp)
                ·rw [if_neg c32] at H
                 have c32b0 : (((rd_T44 l1 x45_2).f0) == x10_1) = false := beq_eq_false_iff_ne.mpr c32
                 have c32b1 : (((rd_T44 l1 x45_2).f0) != x10_1) = true := bne_iff_ne.mpr c32
                 (first | rw [c32b0] | (simp only [i64_w, i32_w]; rw [c32b0]) | skip)
                 have H' := Aside0.mk H
                 clear H
                 have hcz36_0 : w30.cell? ⟨gb559, 0, none⟩ = some (.int .i64 0) := (blk_cell BK559.out 0).trans rfl
                 have hcz36_1 : w30.cell? ⟨gb559, 1, none⟩ = some (.int .i64 0) := (blk_cell BK559.out 1).trans rfl
                 have hcz36_2 : w30.cell? ⟨gb559, 2, none⟩ = some (.int .i64 0) := (blk_cell BK559.out 2).trans rfl
                 have hcz36_3 : w30.cell? ⟨gb559, 3, none⟩ = some (.int .i64 0) := (blk_cell BK559.out 3).trans rfl
                 have hfz36_0 := blk_frozen BK559.out 0
                 have hfz36_1 := blk_frozen BK559.out 1
                 have hfz36_2 := blk_frozen BK559.out 2
                 have hfz36_3 := blk_frozen BK559.out 3
                 go_wp2
                 repeat (go_quiet (fail); try go_wp2)
                 go_meet
                 case rel => exact ⟨_, (false), (by first | rfl | (simp; done) | (simp [*]; done)), H', ⟨by have := HK1.out; have := HK2.out; first | omega | exact Nat.le_refl _⟩, ⟨by (try simp only [hl9_2]); (with_reducible repeat (first | apply Kd.R_alloc | apply Kd.R_drewN | apply Kd.R_drew)); exact Kd.R_mono (Kd.R_far (p := ⟨gb559, 3, none⟩) (Kd.R_far (p := ⟨gb559, 2, none⟩) (Kd.R_far (p := ⟨gb559, 1, none⟩) (Kd.R_far (p := ⟨gb559, 0, none⟩) (Kd.R_types HO_9.out BK559.out (by decide)) (fun _ hk => hk.2) (.int .i64 ((rd_T44 l1 x45_2).f0))) (fun _ hk => hk.2) (.int .i64 ((rd_T44 l1 x45_2).f1))) (fun _ hk => hk.2) (.int .i64 ((rd_T44 l1 x45_2).f2))) (fun _ hk => hk.2) (.int .i64 ((rd_T44 l1 x45_2).f3))) (fun _ hk => trivial)⟩, ⟨by (try simp only [hl9_2]); (with_reducible repeat (first | refine blk_drewN ?_ _ | refine blk_drew ?_ | refine blk_alloc ?_ _)); refine blk_put (cs := #[.int .i64 ((rd_T44 l1 x45_2).f0), .int .i64 ((rd_T44 l1 x45_2).f1), .int .i64 ((rd_T44 l1 x45_2).f2), .int .i64 0]) ?_ 3 _ rfl; (with_reducible repeat (first | refine blk_drewN ?_ _ | refine blk_drew ?_ | refine blk_alloc ?_ _)); refine blk_put (cs := #[.int .i64 ((rd_T44 l1 x45_2).f0), .int .i64 ((rd_T44 l1 x45_2).f1), .int .i64 0, .int .i64 0]) ?_ 2 _ rfl; (with_reducible repeat (first | refine blk_drewN ?_ _ | refine blk_drew ?_ | refine blk_alloc ?_ _)); refine blk_put (cs := #[.int .i64 ((rd_T44 l1 x45_2).f0), .int .i64 0, .int .i64 0, .int .i64 0]) ?_ 1 _ rfl; (with_reducible repeat (first | refine blk_drewN ?_ _ | refine blk_drew ?_ | refine blk_alloc ?_ _)); refine blk_put (cs := #[.int .i64 0, .int .i64 0, .int .i64 0, .int .i64 0]) ?_ 0 _ rfl; (with_reducible repeat (first | refine blk_drewN ?_ _ | refine blk_drew ?_ | refine blk_alloc ?_ _)); exact BK559.out⟩, ⟨by repeat (first | (with_reducible first | exact HB.out | apply below_alloc | apply pw_below_drewN | apply below_drew1 | refine below_set ?_ GE559.out) | exact HB.out)⟩⟩
               case rest =>
                clear HC29
                try clear c1
                try clear p1
                try clear q1
                try clear hx1
                try clear c2
                try clear p2
                try clear c3
                try clear c5
                try clear c5b0
                try clear c5b1
                try clear p5
                try clear q5
                try clear hx5
                try clear c6
                try clear c6b0
                try clear c6b1
                try clear p6
                try clear c7
                try clear c7b0
                try clear c7b1
                try clear c14
                try clear c14b0
                try clear c15
                try clear c15b0
                try clear c16
                try clear c16b0
                try clear p17
                try clear q17
                try clear hx17
                try clear hf17
                try clear c18
                try clear c18b0
                try clear c18b1
                try clear p19
                try clear q19
                try clear hx19
                try clear hf19
                try clear c24
                try clear c26
                try clear c26b0
                try clear c27
                try clear c27b0
                try clear c28
                try clear c28b0
                try clear c32
                try clear c32b0
                try clear c32b1
                try clear c33
                try clear c33b0
                try clear c34
                try clear c34b0
                try clear hcz31_0
                try clear hcz31_1
                try clear hcz31_2
                try clear hcz31_3
                try clear hcz35_0
                try clear hcz35_1
                try clear hcz35_2
                try clear hcz35_3
                try clear hcz36_0
                try clear hcz36_1
                try clear hcz36_2
                try clear hcz36_3
                try clear hfz31_0
                try clear hfz31_1
                try clear hfz31_2
                try clear hfz31_3
                try clear hfz35_0
                try clear hfz35_1
                try clear hfz35_2
                try clear hfz35_3
                try clear hfz36_0
                try clear hfz36_1
                try clear hfz36_2
                try clear hfz36_3
                try clear hx17_0
                try clear hx19_0
                try clear hx558_0
                try clear hx558_1
                try clear hx558_2
                try clear hx558_3
                try clear hx560_0
                try clear p1
                try clear p17
                try clear p19
                try clear p2
                try clear p558
                try clear p560
                try clear p6
                try clear q1
                try clear q17
                try clear q19
                try clear q558
                try clear q560
                obtain ⟨kq, x60_28, rfl, HA, HJ28, HO_9, BK559, HB⟩ := hcut
                cases kq with
                | zero => exact absurd HA.out (by simp [impl_FastestWay.j2])
                | succ kj28 =>
                 have H := HA.out
                 clear HA
                 simp only [impl_FastestWay.j2] at H
                 by_cases c37 : x60_28 = true
                 ·subst c37
                  have H1 : (if 0 ≤ ((rd_T44 l1 x45_2).f1) then (if ((rd_T44 l1 x45_2).f1) < (x9_2.length : Int) then (if 0 ≤ x10_1 then (if x10_1 < (x9_2.length : Int) then (if (rd x9_2 x10_1) < 0 then (impl_FastestWay.l1 kj28 l1 a2 (x9_2.set (x10_1 : Int).toNat (wrap64 (((rd_T44 l1 x45_2).f2) + (rd x9_2 ((rd_T44 l1 x45_2).f1))))) x10_1 l1 (l1.length : Int) (wrap64 (x45_2 + 1))) else (if (wrap64 (((rd_T44 l1 x45_2).f2) + (rd x9_2 ((rd_T44 l1 x45_2).f1)))) < (rd x9_2 x10_1) then (impl_FastestWay.l1 kj28 l1 a2 (x9_2.set (x10_1 : Int).toNat (wrap64 (((rd_T44 l1 x45_2).f2) + (rd x9_2 ((rd_T44 l1 x45_2).f1))))) x10_1 l1 (l1.length : Int) (wrap64 (x45_2 + 1))) else (impl_FastestWay.l1 kj28 l1 a2 x9_2 x10_1 l1 (l1.length : Int) (wrap64 (x45_2 + 1))))) else (none)) else (none)) else (none)) else (none)) = some (r1, r2) := by rw [if_pos rfl] at H; exact H
                  clear H
                  have H := H1
                  clear H1
                  by_cases c38 : 0 ≤ ((rd_T44 l1 x45_2).f1)
                  ·rw [if_pos c38] at H
                   have c38b0 : decide (0 ≤ ((rd_T44 l1 x45_2).f1)) = true := decide_eq_true c38
                   clear c38
                   by_cases c39 : ((rd_T44 l1 x45_2).f1) < (x9_2.length : Int)
                   ·rw [if_pos c39] at H
                    have c39b0 : decide (((rd_T44 l1 x45_2).f1) < (x9_2.length : Int)) = true := decide_eq_true c39
                    clear c39
                    by_cases c40 : 0 ≤ x10_1
                    ·rw [if_pos c40] at H
                     have c40b0 : decide (0 ≤ x10_1) = true := decide_eq_true c40
                     clear c40
                     by_cases c41 : x10_1 < (x9_2.length : Int)
                     ·rw [if_pos c41] at H
                      have c41b0 : decide (x10_1 < (x9_2.length : Int)) = true := decide_eq_true c41
                      clear c41
                      by_cases c42 : (rd x9_2 x10_1) < 0
                      ·rw [if_pos c42] at H
                       have c42b0 : decide ((rd x9_2 x10_1) < 0) = true := decide_eq_true c42
                       clear c42
                       obtain ⟨y563, hy563⟩ : ∃ y_ : List Int, y_ = (x9_2.set (x10_1 : Int).toNat (wrap64 (((rd_T44 l1 x45_2).f2) + (rd x9_2 ((rd_T44 l1 x45_2).f1))))) := ⟨_, rfl⟩
                       replace H : (impl_FastestWay.l1 kj28 l1 a2 y563 x10_1 l1 (l1.length : Int) (wrap64 (x45_2 + 1))) = some (r1, r2) := by first | (rw [hy563]; with_reducible exact H) | (have H2_ := (Option.bind_some _ _).symm.trans H; rw [hy563]; with_reducible exact H2_) | (have H2_ := (Option.bind_some _ _).symm.trans H; with_reducible exact H2_) | with_reducible exact H | (rw [hy563]; exact H) | exact H
                       have Ny563 := Aside0.mk hy563
                       clear hy563
                       have H' := Aside0.mk H
                       clear H
                       have hcz44_0 : wc.cell? ⟨gb559, 0, none⟩ = some (.int .i64 ((rd_T44 l1 x45_2).f0)) := (blk_cell BK559.out 0).trans rfl
                       have hcz44_1 : wc.cell? ⟨gb559, 1, none⟩ = some (.int .i64 ((rd_T44 l1 x45_2).f1)) := (blk_cell BK559.out 1).trans rfl
                       have hcz44_2 : wc.cell? ⟨gb559, 2, none⟩ = some (.int .i64 ((rd_T44 l1 x45_2).f2)) := (blk_cell BK559.out 2).trans rfl
                       have hcz44_3 : wc.cell? ⟨gb559, 3, none⟩ = some (.int .i64 ((rd_T44 l1 x45_2).f3)) := (blk_cell BK559.out 3).trans rfl
                       have hfz44_0 := blk_frozen BK559.out 0
                       have hfz44_1 := blk_frozen BK559.out 1
                       have hfz44_2 := blk_frozen BK559.out 2
                       have hfz44_3 := blk_frozen BK559.out 3
                       have p561 : 0 ≤ (((rd_T44 l1 x45_2).f1) : Int) := of_decide_eq_true (by first | (with_reducible assumption) | assumption)
                       have q561 : ((rd_T44 l1 x45_2).f1) < (x9_2.length : Int) := of_decide_eq_true (by first | (with_reducible assumption) | assumption)
                       obtain ⟨ad561, e561, hx561_0⟩ := Kd.at_int (Kd.R_reads' HO_9.out).2.2 ((rd_T44 l1 x45_2).f1) p561 q561
                       obtain rfl : (⟨go17, 0, none⟩ : Addr) = ad561 := (by injection e561)
                       (first | simp only [add_plain] at hx561_0 | simp only [add_at] at hx561_0 | simp only [Addr.add, Nat.zero_add] at hx561_0 | skip)
                       replace p561 := eq_true p561
                       replace q561 := eq_true q561
                       have p562 : 0 ≤ (x10_1 : Int) := of_decide_eq_true (by first | (with_reducible assumption) | assumption)
                       have q562 : x10_1 < (x9_2.length : Int) := of_decide_eq_true (by first | (with_reducible assumption) | assumption)
                       obtain ⟨ad562, e562, hx562_0⟩ := Kd.at_int (Kd.R_reads' HO_9.out).2.2 x10_1 p562 q562
                       obtain rfl : (⟨go17, 0, none⟩ : Addr) = ad562 := (by injection e562)
                       (first | simp only [add_plain] at hx562_0 | simp only [add_at] at hx562_0 | simp only [Addr.add, Nat.zero_add] at hx562_0 | skip)
                       replace p562 := eq_true p562
                       replace q562 := eq_true q562
                       have p43 : 0 ≤ (x10_1 : Int) := of_decide_eq_true (by first | (with_reducible assumption) | assumption)
                       have q43 : (x10_1 : Int) < ((x9_2.length : Int) : Int) := of_decide_eq_true (by first | (with_reducible assumption) | assumption)
                       obtain ⟨hx43_0, hf43_0⟩ := Kd.R_celln 0 HO_9.out (x10_1 : Int) p43 q43
                       replace p43 := eq_true p43
                       replace q43 := eq_true q43
                       have HP45 := Kd.R_putg HO_9.out (x10_1 : Int) (wrap64 (((rd_T44 l1 x45_2).f2) + (rd x9_2 ((rd_T44 l1 x45_2).f1))))
                       go_wp2_with (first | ((with_reducible refine gate_store (t := 2) (p := 85) rfl ?_); (try (rw [drewN_self wc]; generalize hq_ : World.drewN wc _ = wc; have n0_ := Aside0.mk (Kd.R_at hq_ HO_9.out); have n1_ := Aside0.mk (blk_at hq_ BK559.out); have n2_ := Aside0.mk (below_at hq_ HB.out); clear hq_ HO_9 BK559 HB; have HO_9 := n0_; have BK559 := n1_; have HB := n2_; clear n0_ n1_ n2_; (try (have HP45 := Kd.R_putg HO_9.out (x10_1 : Int) (wrap64 (((rd_T44 l1 x45_2).f2) + (rd x9_2 ((rd_T44 l1 x45_2).f1)))))))); refine store_event (t := 2) (p := 85) (v := ?vo_w46) (w1 := (wc.setCell ⟨go17, (x10_1 : Int).toNat, none⟩ (.int .i64 (wrap64 (((rd_T44 l1 x45_2).f2) + (rd x9_2 ((rd_T44 l1 x45_2).f1))))))) ?hg ?ho ?hn ?hr ?_; (case ho => rfl); (case hg => rfl); (case hn => rfl); (case hr => first | (go_simp; done) | (go_simp; rfl)); intro w46 hw; have hg : wc.grownBy w46 (some go17) := (by rw [hw]; exact HP45.2); have hp_ : Kd.R (Kd.int .i64) 2 w46 w.heap.size (fun _ => True) (.slice (some ⟨go17, 0, none⟩) x9_2.length co17) y563 := (by rw [hw, Ny563.out]; exact HP45.1); clear HP45; have n0_ := Aside0.mk (hp_); have n1_ := Aside0.mk (blk_grown (g := gb559) (o := .cells #[.int .i64 ((rd_T44 l1 x45_2).f0), .int .i64 ((rd_T44 l1 x45_2).f1), .int .i64 ((rd_T44 l1 x45_2).f2), .int .i64 ((rd_T44 l1 x45_2).f3)] 44 (0, 0)) (by (with_reducible repeat (first | refine blk_drewN ?_ _ | refine blk_drew ?_ | refine blk_alloc ?_ _)); exact BK559.out) hg (Kd.R_ne HO_9.out BK559.out (by decide))); have n2_ := Aside0.mk ((by rw [hw]; exact below_set (HB.out) GB17.out : Below w.heap.size w w46)); clear HO_9; clear BK559; clear HB; have HO_9 := n0_; have BK559 := n1_; have HB := n2_; clear n0_ n1_ n2_; clear hg hw hp_))
                       repeat (go_quiet (first | ((with_reducible refine gate_store (t := 2) (p := 85) rfl ?_); (try (rw [drewN_self wc]; generalize hq_ : World.drewN wc _ = wc; have n0_ := Aside0.mk (Kd.R_at hq_ HO_9.out); have n1_ := Aside0.mk (blk_at hq_ BK559.out); have n2_ := Aside0.mk (below_at hq_ HB.out); clear hq_ HO_9 BK559 HB; have HO_9 := n0_; have BK559 := n1_; have HB := n2_; clear n0_ n1_ n2_; (try (have HP45 := Kd.R_putg HO_9.out (x10_1 : Int) (wrap64 (((rd_T44 l1 x45_2).f2) + (rd x9_2 ((rd_T44 l1 x45_2).f1)))))))); refine store_event (t := 2) (p := 85) (v := ?vo_w46) (w1 := (wc.setCell ⟨go17, (x10_1 : Int).toNat, none⟩ (.int .i64 (wrap64 (((rd_T44 l1 x45_2).f2) + (rd x9_2 ((rd_T44 l1 x45_2).f1))))))) ?hg ?ho ?hn ?hr ?_; (case ho => rfl); (case hg => rfl); (case hn => rfl); (case hr => first | (go_simp; done) | (go_simp; rfl)); intro w46 hw; have hg : wc.grownBy w46 (some go17) := (by rw [hw]; exact HP45.2); have hp_ : Kd.R (Kd.int .i64) 2 w46 w.heap.size (fun _ => True) (.slice (some ⟨go17, 0, none⟩) x9_2.length co17) y563 := (by rw [hw, Ny563.out]; exact HP45.1); clear HP45; have n0_ := Aside0.mk (hp_); have n1_ := Aside0.mk (blk_grown (g := gb559) (o := .cells #[.int .i64 ((rd_T44 l1 x45_2).f0), .int .i64 ((rd_T44 l1 x45_2).f1), .int .i64 ((rd_T44 l1 x45_2).f2), .int .i64 ((rd_T44 l1 x45_2).f3)] 44 (0, 0)) (by (with_reducible repeat (first | refine blk_drewN ?_ _ | refine blk_drew ?_ | refine blk_alloc ?_ _)); exact BK559.out) hg (Kd.R_ne HO_9.out BK559.out (by decide))); have n2_ := Aside0.mk ((by rw [hw]; exact below_set (HB.out) GB17.out : Below w.heap.size w w46)); clear HO_9; clear BK559; clear HB; have HO_9 := n0_; have BK559 := n1_; have HB := n2_; clear n0_ n1_ n2_; clear hg hw hp_)); try go_wp2_with (first | ((with_reducible refine gate_store (t := 2) (p := 85) rfl ?_); (try (rw [drewN_self wc]; generalize hq_ : World.drewN wc _ = wc; have n0_ := Aside0.mk (Kd.R_at hq_ HO_9.out); have n1_ := Aside0.mk (blk_at hq_ BK559.out); have n2_ := Aside0.mk (below_at hq_ HB.out); clear hq_ HO_9 BK559 HB; have HO_9 := n0_; have BK559 := n1_; have HB := n2_; clear n0_ n1_ n2_; (try (have HP45 := Kd.R_putg HO_9.out (x10_1 : Int) (wrap64 (((rd_T44 l1 x45_2).f2) + (rd x9_2 ((rd_T44 l1 x45_2).f1)))))))); refine store_event (t := 2) (p := 85) (v := ?vo_w46) (w1 := (wc.setCell ⟨go17, (x10_1 : Int).toNat, none⟩ (.int .i64 (wrap64 (((rd_T44 l1 x45_2).f2) + (rd x9_2 ((rd_T44 l1 x45_2).f1))))))) ?hg ?ho ?hn ?hr ?_; (case ho => rfl); (case hg => rfl); (case hn => rfl); (case hr => first | (go_simp; done) | (go_simp; rfl)); intro w46 hw; have hg : wc.grownBy w46 (some go17) := (by rw [hw]; exact HP45.2); have hp_ : Kd.R (Kd.int .i64) 2 w46 w.heap.size (fun _ => True) (.slice (some ⟨go17, 0, none⟩) x9_2.length co17) y563 := (by rw [hw, Ny563.out]; exact HP45.1); clear HP45; have n0_ := Aside0.mk (hp_); have n1_ := Aside0.mk (blk_grown (g := gb559) (o := .cells #[.int .i64 ((rd_T44 l1 x45_2).f0), .int .i64 ((rd_T44 l1 x45_2).f1), .int .i64 ((rd_T44 l1 x45_2).f2), .int .i64 ((rd_T44 l1 x45_2).f3)] 44 (0, 0)) (by (with_reducible repeat (first | refine blk_drewN ?_ _ | refine blk_drew ?_ | refine blk_alloc ?_ _)); exact BK559.out) hg (Kd.R_ne HO_9.out BK559.out (by decide))); have n2_ := Aside0.mk ((by rw [hw]; exact below_set (HB.out) GB17.out : Below w.heap.size w w46)); clear HO_9; clear BK559; clear HB; have HO_9 := n0_; have BK559 := n1_; have HB := n2_; clear n0_ n1_ n2_; clear hg hw hp_)))
                       (try simp only [← hl9_2])
                       go_roundg kj28
                       case measure => have := HK1.out; have := HK2.out; have := HJ28.out; omega
                       case rel => exact ⟨(y563), (wrap64 (x45_2 + 1)), (by first | rfl | (simp; done) | (simp [*]; done)), H', ⟨by have := HK1.out; have := HK2.out; have := HJ28.out; omega⟩, ⟨by (try simp only [hl9_2]); (with_reducible repeat (first | apply Kd.R_alloc | apply Kd.R_drewN | apply Kd.R_drew)); first | exact HO_9.out | (rw [Ny563.out]; exact (Kd.R_putg (by (with_reducible repeat (first | apply Kd.R_alloc | apply Kd.R_drewN | apply Kd.R_drew)); exact HO_9.out) _ _).1)⟩, ⟨by repeat (first | (with_reducible first | exact HB.out | apply below_alloc | apply pw_below_drewN | apply below_drew1 | refine below_set ?_ GE559.out | refine below_set ?_ GB17.out) | exact HB.out)⟩⟩
                      ·rw [if_neg c42] at H
                       have c42b0 : decide ((rd x9_2 x10_1) < 0) = false := decide_eq_false c42
                       clear c42
                       by_cases c47 : (wrap64 (((rd_T44 l1 x45_2).f2) + (rd x9_2 ((rd_T44 l1 x45_2).f1)))) < (rd x9_2 x10_1)
                       ·rw [if_pos c47] at H
                        have c47b0 : decide ((wrap64 (((rd_T44 l1 x45_2).f2) + (rd x9_2 ((rd_T44 l1 x45_2).f1)))) < (rd x9_2 x10_1)) = true := decide_eq_true c47
                        clear c47
                        obtain ⟨y565, hy565⟩ : ∃ y_ : List Int, y_ = (x9_2.set (x10_1 : Int).toNat (wrap64 (((rd_T44 l1 x45_2).f2) + (rd x9_2 ((rd_T44 l1 x45_2).f1))))) := ⟨_, rfl⟩
                        replace H : (impl_FastestWay.l1 kj28 l1 a2 y565 x10_1 l1 (l1.length : Int) (wrap64 (x45_2 + 1))) = some (r1, r2) := by first | (rw [hy565]; with_reducible exact H) | (have H2_ := (Option.bind_some _ _).symm.trans H; rw [hy565]; with_reducible exact H2_) | (have H2_ := (Option.bind_some _ _).symm.trans H; with_reducible exact H2_) | with_reducible exact H | (rw [hy565]; exact H) | exact H
                        have Ny565 := Aside0.mk hy565
                        clear hy565
                        have H' := Aside0.mk H
                        clear H
                        have hcz49_0 : wc.cell? ⟨gb559, 0, none⟩ = some (.int .i64 ((rd_T44 l1 x45_2).f0)) := (blk_cell BK559.out 0).trans rfl
                        have hcz49_1 : wc.cell? ⟨gb559, 1, none⟩ = some (.int .i64 ((rd_T44 l1 x45_2).f1)) := (blk_cell BK559.out 1).trans rfl
                        have hcz49_2 : wc.cell? ⟨gb559, 2, none⟩ = some (.int .i64 ((rd_T44 l1 x45_2).f2)) := (blk_cell BK559.out 2).trans rfl
                        have hcz49_3 : wc.cell? ⟨gb559, 3, none⟩ = some (.int .i64 ((rd_T44 l1 x45_2).f3)) := (blk_cell BK559.out 3).trans rfl
                        have hfz49_0 := blk_frozen BK559.out 0
                        have hfz49_1 := blk_frozen BK559.out 1
                        have hfz49_2 := blk_frozen BK559.out 2
                        have hfz49_3 := blk_frozen BK559.out 3
                        have p561 : 0 ≤ (((rd_T44 l1 x45_2).f1) : Int) := of_decide_eq_true (by first | (with_reducible assumption) | assumption)
                        have q561 : ((rd_T44 l1 x45_2).f1) < (x9_2.length : Int) := of_decide_eq_true (by first | (with_reducible assumption) | assumption)
                        obtain ⟨ad561, e561, hx561_0⟩ := Kd.at_int (Kd.R_reads' HO_9.out).2.2 ((rd_T44 l1 x45_2).f1) p561 q561
                        obtain rfl : (⟨go17, 0, none⟩ : Addr) = ad561 := (by injection e561)
                        (first | simp only [add_plain] at hx561_0 | simp only [add_at] at hx561_0 | simp only [Addr.add, Nat.zero_add] at hx561_0 | skip)
                        replace p561 := eq_true p561
                        replace q561 := eq_true q561
                        have p562 : 0 ≤ (x10_1 : Int) := of_decide_eq_true (by first | (with_reducible assumption) | assumption)
                        have q562 : x10_1 < (x9_2.length : Int) := of_decide_eq_true (by first | (with_reducible assumption) | assumption)
                        obtain ⟨ad562, e562, hx562_0⟩ := Kd.at_int (Kd.R_reads' HO_9.out).2.2 x10_1 p562 q562
                        obtain rfl : (⟨go17, 0, none⟩ : Addr) = ad562 := (by injection e562)
                        (first | simp only [add_plain] at hx562_0 | simp only [add_at] at hx562_0 | simp only [Addr.add, Nat.zero_add] at hx562_0 | skip)
                        replace p562 := eq_true p562
                        replace q562 := eq_true q562
                        have p564 : 0 ≤ (x10_1 : Int) := of_decide_eq_true (by first | (with_reducible assumption) | assumption)
                        have q564 : x10_1 < (x9_2.length : Int) := of_decide_eq_true (by first | (with_reducible assumption) | assumption)
                        obtain ⟨ad564, e564, hx564_0⟩ := Kd.at_int (Kd.R_reads' HO_9.out).2.2 x10_1 p564 q564
                        obtain rfl : (⟨go17, 0, none⟩ : Addr) = ad564 := (by injection e564)
                        (first | simp only [add_plain] at hx564_0 | simp only [add_at] at hx564_0 | simp only [Addr.add, Nat.zero_add] at hx564_0 | skip)
                        replace p564 := eq_true p564
                        replace q564 := eq_true q564
                        have p48 : 0 ≤ (x10_1 : Int) := of_decide_eq_true (by first | (with_reducible assumption) | assumption)
                        have q48 : (x10_1 : Int) < ((x9_2.length : Int) : Int) := of_decide_eq_true (by first | (with_reducible assumption) | assumption)
                        obtain ⟨hx48_0, hf48_0⟩ := Kd.R_celln 0 HO_9.out (x10_1 : Int) p48 q48
                        replace p48 := eq_true p48
                        replace q48 := eq_true q48
                        have HP50 := Kd.R_putg HO_9.out (x10_1 : Int) (wrap64 (((rd_T44 l1 x45_2).f2) + (rd x9_2 ((rd_T44 l1 x45_2).f1))))
                        go_wp2_with (first | ((with_reducible refine gate_store (t := 2) (p := 85) rfl ?_); (try (rw [drewN_self wc]; generalize hq_ : World.drewN wc _ = wc; have n0_ := Aside0.mk (Kd.R_at hq_ HO_9.out); have n1_ := Aside0.mk (blk_at hq_ BK559.out); have n2_ := Aside0.mk (below_at hq_ HB.out); clear hq_ HO_9 BK559 HB; have HO_9 := n0_; have BK559 := n1_; have HB := n2_; clear n0_ n1_ n2_; (try (have HP50 := Kd.R_putg HO_9.out (x10_1 : Int) (wrap64 (((rd_T44 l1 x45_2).f2) + (rd x9_2 ((rd_T44 l1 x45_2).f1)))))))); refine store_event (t := 2) (p := 85) (v := ?vo_w51) (w1 := (wc.setCell ⟨go17, (x10_1 : Int).toNat, none⟩ (.int .i64 (wrap64 (((rd_T44 l1 x45_2).f2) + (rd x9_2 ((rd_T44 l1 x45_2).f1))))))) ?hg ?ho ?hn ?hr ?_; (case ho => rfl); (case hg => rfl); (case hn => rfl); (case hr => first | (go_simp; done) | (go_simp; rfl)); intro w51 hw; have hg : wc.grownBy w51 (some go17) := (by rw [hw]; exact HP50.2); have hp_ : Kd.R (Kd.int .i64) 2 w51 w.heap.size (fun _ => True) (.slice (some ⟨go17, 0, none⟩) x9_2.length co17) y565 := (by rw [hw, Ny565.out]; exact HP50.1); clear HP50; have n0_ := Aside0.mk (hp_); have n1_ := Aside0.mk (blk_grown (g := gb559) (o := .cells #[.int .i64 ((rd_T44 l1 x45_2).f0), .int .i64 ((rd_T44 l1 x45_2).f1), .int .i64 ((rd_T44 l1 x45_2).f2), .int .i64 ((rd_T44 l1 x45_2).f3)] 44 (0, 0)) (by (with_reducible repeat (first | refine blk_drewN ?_ _ | refine blk_drew ?_ | refine blk_alloc ?_ _)); exact BK559.out) hg (Kd.R_ne HO_9.out BK559.out (by decide))); have n2_ := Aside0.mk ((by rw [hw]; exact below_set (HB.out) GB17.out : Below w.heap.size w w51)); clear HO_9; clear BK559; clear HB; have HO_9 := n0_; have BK559 := n1_; have HB := n2_; clear n0_ n1_ n2_; clear hg hw hp_))
                        repeat (go_quiet (first | ((with_reducible refine gate_store (t := 2) (p := 85) rfl ?_); (try (rw [drewN_self wc]; generalize hq_ : World.drewN wc _ = wc; have n0_ := Aside0.mk (Kd.R_at hq_ HO_9.out); have n1_ := Aside0.mk (blk_at hq_ BK559.out); have n2_ := Aside0.mk (below_at hq_ HB.out); clear hq_ HO_9 BK559 HB; have HO_9 := n0_; have BK559 := n1_; have HB := n2_; clear n0_ n1_ n2_; (try (have HP50 := Kd.R_putg HO_9.out (x10_1 : Int) (wrap64 (((rd_T44 l1 x45_2).f2) + (rd x9_2 ((rd_T44 l1 x45_2).f1)))))))); refine store_event (t := 2) (p := 85) (v := ?vo_w51) (w1 := (wc.setCell ⟨go17, (x10_1 : Int).toNat, none⟩ (.int .i64 (wrap64 (((rd_T44 l1 x45_2).f2) + (rd x9_2 ((rd_T44 l1 x45_2).f1))))))) ?hg ?ho ?hn ?hr ?_; (case ho => rfl); (case hg => rfl); (case hn => rfl); (case hr => first | (go_simp; done) | (go_simp; rfl)); intro w51 hw; have hg : wc.grownBy w51 (some go17) := (by rw [hw]; exact HP50.2); have hp_ : Kd.R (Kd.int .i64) 2 w51 w.heap.size (fun _ => True) (.slice (some ⟨go17, 0, none⟩) x9_2.length co17) y565 := (by rw [hw, Ny565.out]; exact HP50.1); clear HP50; have n0_ := Aside0.mk (hp_); have n1_ := Aside0.mk (blk_grown (g := gb559) (o := .cells #[.int .i64 ((rd_T44 l1 x45_2).f0), .int .i64 ((rd_T44 l1 x45_2).f1), .int .i64 ((rd_T44 l1 x45_2).f2), .int .i64 ((rd_T44 l1 x45_2).f3)] 44 (0, 0)) (by (with_reducible repeat (first | refine blk_drewN ?_ _ | refine blk_drew ?_ | refine blk_alloc ?_ _)); exact BK559.out) hg (Kd.R_ne HO_9.out BK559.out (by decide))); have n2_ := Aside0.mk ((by rw [hw]; exact below_set (HB.out) GB17.out : Below w.heap.size w w51)); clear HO_9; clear BK559; clear HB; have HO_9 := n0_; have BK559 := n1_; have HB := n2_; clear n0_ n1_ n2_; clear hg hw hp_)); try go_wp2_with (first | ((with_reducible refine gate_store (t := 2) (p := 85) rfl ?_); (try (rw [drewN_self wc]; generalize hq_ : World.drewN wc _ = wc; have n0_ := Aside0.mk (Kd.R_at hq_ HO_9.out); have n1_ := Aside0.mk (blk_at hq_ BK559.out); have n2_ := Aside0.mk (below_at hq_ HB.out); clear hq_ HO_9 BK559 HB; have HO_9 := n0_; have BK559 := n1_; have HB := n2_; clear n0_ n1_ n2_; (try (have HP50 := Kd.R_putg HO_9.out (x10_1 : Int) (wrap64 (((rd_T44 l1 x45_2).f2) + (rd x9_2 ((rd_T44 l1 x45_2).f1)))))))); refine store_event (t := 2) (p := 85) (v := ?vo_w51) (w1 := (wc.setCell ⟨go17, (x10_1 : Int).toNat, none⟩ (.int .i64 (wrap64 (((rd_T44 l1 x45_2).f2) + (rd x9_2 ((rd_T44 l1 x45_2).f1))))))) ?hg ?ho ?hn ?hr ?_; (case ho => rfl); (case hg => rfl); (case hn => rfl); (case hr => first | (go_simp; done) | (go_simp; rfl)); intro w51 hw; have hg : wc.grownBy w51 (some go17) := (by rw [hw]; exact HP50.2); have hp_ : Kd.R (Kd.int .i64) 2 w51 w.heap.size (fun _ => True) (.slice (some ⟨go17, 0, none⟩) x9_2.length co17) y565 := (by rw [hw, Ny565.out]; exact HP50.1); clear HP50; have n0_ := Aside0.mk (hp_); have n1_ := Aside0.mk (blk_grown (g := gb559) (o := .cells #[.int .i64 ((rd_T44 l1 x45_2).f0), .int .i64 ((rd_T44 l1 x45_2).f1), .int .i64 ((rd_T44 l1 x45_2).f2), .int .i64 ((rd_T44 l1 x45_2).f3)] 44 (0, 0)) (by (with_reducible repeat (first | refine blk_drewN ?_ _ | refine blk_drew ?_ | refine blk_alloc ?_ _)); exact BK559.out) hg (Kd.R_ne HO_9.out BK559.out (by decide))); have n2_ := Aside0.mk ((by rw [hw]; exact below_set (HB.out) GB17.out : Below w.heap.size w w51)); clear HO_9; clear BK559; clear HB; have HO_9 := n0_; have BK559 := n1_; have HB := n2_; clear n0_ n1_ n2_; clear hg hw hp_)))
                        (try simp only [← hl9_2])
                        go_roundg kj28
                        case measure => have := HK1.out; have := HK2.out; have := HJ28.out; omega
                        case rel => exact ⟨(y565), (wrap64 (x45_2 + 1)), (by first | rfl | (simp; done) | (simp [*]; done)), H', ⟨by have := HK1.out; have := HK2.out; have := HJ28.out; omega⟩, ⟨by (try simp only [hl9_2]); (with_reducible repeat (first | apply Kd.R_alloc | apply Kd.R_drewN | apply Kd.R_drew)); first | exact HO_9.out | (rw [Ny565.out]; exact (Kd.R_putg (by (with_reducible repeat (first | apply Kd.R_alloc | apply Kd.R_drewN | apply Kd.R_drew)); exact HO_9.out) _ _).1)⟩, ⟨by repeat (first | (with_reducible first | exact HB.out | apply below_alloc | apply pw_below_drewN | apply below_drew1 | refine below_set ?_ GE559.out | refine below_set ?_ GB17.out) | exact HB.out)⟩⟩
                       ·rw [if_neg c47] at H
                        have c47b0 : decide ((wrap64 (((rd_T44 l1 x45_2).f2) + (rd x9_2 ((rd_T44 l1 x45_2).f1)))) < (rd x9_2 x10_1)) = false := decide_eq_false c47
                        clear c47
                        have H' := Aside0.mk H
                        clear H
                        have hcz52_0 : wc.cell? ⟨gb559, 0, none⟩ = some (.int .i64 ((rd_T44 l1 x45_2).f0)) := (blk_cell BK559.out 0).trans rfl
                        have hcz52_1 : wc.cell? ⟨gb559, 1, none⟩ = some (.int .i64 ((rd_T44 l1 x45_2).f1)) := (blk_cell BK559.out 1).trans rfl
                        have hcz52_2 : wc.cell? ⟨gb559, 2, none⟩ = some (.int .i64 ((rd_T44 l1 x45_2).f2)) := (blk_cell BK559.out 2).trans rfl
                        have hcz52_3 : wc.cell? ⟨gb559, 3, none⟩ = some (.int .i64 ((rd_T44 l1 x45_2).f3)) := (blk_cell BK559.out 3).trans rfl
                        have hfz52_0 := blk_frozen BK559.out 0
                        have hfz52_1 := blk_frozen BK559.out 1
                        have hfz52_2 := blk_frozen BK559.out 2
                        have hfz52_3 := blk_frozen BK559.out 3
                        have p561 : 0 ≤ (((rd_T44 l1 x45_2).f1) : Int) := of_decide_eq_true (by first | (with_reducible assumption) | assumption)
                        have q561 : ((rd_T44 l1 x45_2).f1) < (x9_2.length : Int) := of_decide_eq_true (by first | (with_reducible assumption) | assumption)
                        obtain ⟨ad561, e561, hx561_0⟩ := Kd.at_int (Kd.R_reads' HO_9.out).2.2 ((rd_T44 l1 x45_2).f1) p561 q561
                        obtain rfl : (⟨go17, 0, none⟩ : Addr) = ad561 := (by injection e561)
                        (first | simp only [add_plain] at hx561_0 | simp only [add_at] at hx561_0 | simp only [Addr.add, Nat.zero_add] at hx561_0 | skip)
                        replace p561 := eq_true p561
                        replace q561 := eq_true q561
                        have p562 : 0 ≤ (x10_1 : Int) := of_decide_eq_true (by first | (with_reducible assumption) | assumption)
                        have q562 : x10_1 < (x9_2.length : Int) := of_decide_eq_true (by first | (with_reducible assumption) | assumption)
                        obtain ⟨ad562, e562, hx562_0⟩ := Kd.at_int (Kd.R_reads' HO_9.out).2.2 x10_1 p562 q562
                        obtain rfl : (⟨go17, 0, none⟩ : Addr) = ad562 := (by injection e562)
                        (first | simp only [add_plain] at hx562_0 | simp only [add_at] at hx562_0 | simp only [Addr.add, Nat.zero_add] at hx562_0 | skip)
                        replace p562 := eq_true p562
                        replace q562 := eq_true q562
                        have p564 : 0 ≤ (x10_1 : Int) := of_decide_eq_true (by first | (with_reducible assumption) | assumption)
                        have q564 : x10_1 < (x9_2.length : Int) := of_decide_eq_true (by first | (with_reducible assumption) | assumption)
                        obtain ⟨ad564, e564, hx564_0⟩ := Kd.at_int (Kd.R_reads' HO_9.out).2.2 x10_1 p564 q564
                        obtain rfl : (⟨go17, 0, none⟩ : Addr) = ad564 := (by injection e564)
                        (first | simp only [add_plain] at hx564_0 | simp only [add_at] at hx564_0 | simp only [Addr.add, Nat.zero_add] at hx564_0 | skip)
                        replace p564 := eq_true p564
                        replace q564 := eq_true q564
                        go_wp2
                        repeat (go_quiet (fail); try go_wp2)
                        (try simp only [← hl9_2])
                        go_roundg kj28
                        case measure => have := HK1.out; have := HK2.out; have := HJ28.out; omega
                        case rel => exact ⟨(x9_2), (wrap64 (x45_2 + 1)), (by first | rfl | (simp; done) | (simp [*]; done)), H', ⟨by have := HK1.out; have := HK2.out; have := HJ28.out; omega⟩, ⟨by (try simp only [hl9_2]); (with_reducible repeat (first | apply Kd.R_alloc | apply Kd.R_drewN | apply Kd.R_drew)); exact HO_9.out⟩, ⟨by repeat (first | (with_reducible first | exact HB.out | apply below_alloc | apply pw_below_drewN | apply below_drew1 | refine below_set ?_ GE559.out) | exact HB.out)⟩⟩
                     ·rw [if_neg c41] at H
                      exact absurd H (by simp)
                    ·rw [if_neg c40] at H
                     exact absurd H (by simp)
                   ·rw [if_neg c39] at H
                    exact absurd H (by simp)
                  ·rw [if_neg c38] at H
                   exact absurd H (by simp)
                 ·replace c37 := Bool.eq_false_iff.mpr c37
                  subst c37
                  have H1 : (impl_FastestWay.l1 kj28 l1 a2 x9_2 x10_1 l1 (l1.length : Int) (wrap64 (x45_2 + 1))) = some (r1, r2) := by rw [if_neg (show ¬ (false = true) by decide)] at H; exact H
                  clear H
                  have H := H1
                  clear H1
                  have H' := Aside0.mk H
                  clear H
                  go_wp2
                  repeat (go_quiet (fail); try go_wp2)
                  (try simp only [← hl9_2])
                  go_roundg kj28
                  case measure => have := HK1.out; have := HK2.out; have := HJ28.out; omega
                  case rel => exact ⟨(x9_2), (wrap64 (x45_2 + 1)), (by first | rfl | (simp; done) | (simp [*]; done)), H', ⟨by have := HK1.out; have := HK2.out; have := HJ28.out; omega⟩, ⟨by (try simp only [hl9_2]); (with_reducible repeat (first | apply Kd.R_alloc | apply Kd.R_drewN | apply Kd.R_drew)); exact HO_9.out⟩, ⟨by repeat (first | (with_reducible first | exact HB.out | apply below_alloc | apply pw_below_drewN | apply below_drew1 | refine below_set ?_ GE559.out) | exact HB.out)⟩⟩
              ·rw [if_neg c28] at H
               exact absurd H (by simp)
             ·rw [if_neg c27] at H
              exact absurd H (by simp)
            ·rw [if_neg c26] at H
             have c26b0 : decide (x45_2 < (l1.length : Int)) = false := decide_eq_false c26
             clear c26
             have H' := Aside0.mk H
             clear H
             go_wp2
             repeat (go_quiet (fail); try go_wp2)
             (try simp only [← hl9_2])
             go_roundg k2
             case measure => have := HK1.out; have := HK2.out; omega
             case rel => exact ⟨(x9_2), (wrap64 (x10_1 - 1)), (by first | rfl | (simp; done) | (simp [*]; done)), H', ⟨by have := HK1.out; have := HK2.out; omega⟩, ⟨by (try simp only [hl9_2]); (with_reducible repeat (first | apply Kd.R_alloc | apply Kd.R_drewN | apply Kd.R_drew)); exact HO_9.out⟩, ⟨by repeat (first | (with_reducible first | exact HB.out | apply below_alloc | apply pw_below_drewN | apply below_drew1) | exact HB.out)⟩⟩
        ·rw [if_neg c16] at H
         exact absurd H (by simp)
       ·rw [if_neg c15] at H
        exact absurd H (by simp)
      ·rw [if_neg c14] at H
       have c14b0 : decide (0 ≤ x10_1) = false := decide_eq_false c14
       clear c14
       have H' := Aside0.mk H
       clear H
       go_wp2
       repeat (go_quiet (fail); try go_wp2)
       go_loopg [14, 15] k1 (fun kq v14 v15 w' => ∃ (x14_2 : List Int) (x15_2 : Int), v15 = .int .i64 x15_2 ∧ Aside0 (impl_FastestWay.l2 kq l1 a2 x9_1 x14_2 x15_2 = some (r1, r2)) ∧ Aside0 (kq ≤ k1) ∧ Aside0 (Kd.R (Kd.int .i64) 2 w' w.heap.size (fun k_ => some k_ ≠ (v14 : Value).ownBlock) v554 x9_1) ∧ Aside0 (Kd.R (Kd.int .i64) 2 w' w.heap.size (fun k_ => some k_ ≠ (v554 : Value).ownBlock) v14 x14_2) ∧ Aside0 (Below w.heap.size w w'))
       case atStart => exact ⟨(([] : List Int)), (0), (by first | rfl | (simp; done) | (simp [*]; done)), H', ⟨Nat.le_refl _⟩, ⟨by (with_reducible repeat (first | apply Kd.R_alloc | apply Kd.R_drewN | apply Kd.R_drew)); exact Kd.R_mono HO_9.out (fun _ hk => (by simp [Value.ownBlock]))⟩, ⟨by first | exact Kd.R_nil _ _ _ _ _ | exact Kd.N_nil _ _ _ _ _ | exact Kd.V_nil _ _ _ _ _ | exact Kd.Q_nil _ _ _ _ _ | exact Kd.S_nil _ _ _ _ _⟩, ⟨by repeat (first | (with_reducible first | exact HB.out | apply below_alloc | apply pw_below_drewN | apply below_drew1) | exact HB.out)⟩⟩
       case round =>
        clear H'
        try clear c1
        try clear p1
        try clear q1
        try clear hx1
        try clear c2
        try clear p2
        try clear c3
        try clear c4
        try clear p4
        try clear q4
        try clear hx4
        try clear hf4
        try clear c5
        try clear c5b0
        try clear c5b1
        try clear p5
        try clear q5
        try clear hx5
        try clear c6
        try clear c6b0
        try clear c6b1
        try clear p6
        try clear c7
        try clear c7b0
        try clear c7b1
        try clear c14
        try clear c14b0
        try clear c15
        try clear c15b0
        try clear c16
        try clear c16b0
        try clear p17
        try clear q17
        try clear hx17
        try clear hf17
        try clear c18
        try clear c18b0
        try clear c18b1
        try clear p19
        try clear q19
        try clear hx19
        try clear hf19
        try clear c24
        try clear c26
        try clear c26b0
        try clear c27
        try clear c27b0
        try clear c28
        try clear c28b0
        try clear c32
        try clear c32b0
        try clear c32b1
        try clear c33
        try clear c33b0
        try clear c34
        try clear c34b0
        try clear c37
        try clear c38
        try clear c38b0
        try clear c39
        try clear c39b0
        try clear c40
        try clear c40b0
        try clear c41
        try clear c41b0
        try clear c42
        try clear c42b0
        try clear p43
        try clear q43
        try clear hx43
        try clear hf43
        try clear c47
        try clear c47b0
        try clear p48
        try clear q48
        try clear hx48
        try clear hf48
        try clear hcz31_0
        try clear hcz31_1
        try clear hcz31_2
        try clear hcz31_3
        try clear hcz35_0
        try clear hcz35_1
        try clear hcz35_2
        try clear hcz35_3
        try clear hcz36_0
        try clear hcz36_1
        try clear hcz36_2
        try clear hcz36_3
        try clear hcz44_0
        try clear hcz44_1
        try clear hcz44_2
        try clear hcz44_3
        try clear hcz49_0
        try clear hcz49_1
        try clear hcz49_2
        try clear hcz49_3
        try clear hcz52_0
        try clear hcz52_1
        try clear hcz52_2
        try clear hcz52_3
        try clear hfz31_0
        try clear hfz31_1
        try clear hfz31_2
        try clear hfz31_3
        try clear hfz35_0
        try clear hfz35_1
        try clear hfz35_2
        try clear hfz35_3
        try clear hfz36_0
        try clear hfz36_1
        try clear hfz36_2
        try clear hfz36_3
        try clear hfz44_0
        try clear hfz44_1
        try clear hfz44_2
        try clear hfz44_3
        try clear hfz49_0
        try clear hfz49_1
        try clear hfz49_2
        try clear hfz49_3
        try clear hfz52_0
        try clear hfz52_1
        try clear hfz52_2
        try clear hfz52_3
        try clear hx17_0
        try clear hx19_0
        try clear hx43_0
        try clear hx48_0
        try clear hx558_0
        try clear hx558_1
        try clear hx558_2
        try clear hx558_3
        try clear hx560_0
        try clear hx561_0
        try clear hx562_0
        try clear hx564_0
        try clear p1
        try clear p17
        try clear p19
        try clear p2
        try clear p43
        try clear p48
        try clear p5
        try clear p558
        try clear p560
        try clear p561
        try clear p562
        try clear p564
        try clear p6
        try clear q1
        try clear q17
        try clear q19
        try clear q43
        try clear q48
        try clear q5
        try clear q558
        try clear q560
        try clear q561
        try clear q562
        try clear q564
        obtain ⟨x14_2, x15_2, rfl, HA, HK2, HO_9, HO_14, HB⟩ := hrel
        cases gk with
        | zero => exact absurd HA.out (by simp [impl_FastestWay.l2])
        | succ k2 =>
         have H := HA.out
         clear HA
         simp only [impl_FastestWay.l2] at H
         by_cases c53 : x15_2 = a2
         ·rw [if_pos c53] at H
          have c53b0 : (x15_2 == a2) = true := beq_iff_eq.mpr c53
          have c53b1 : (x15_2 != a2) = false := bne_eq_false_iff_eq.mpr c53
          clear c53
          simp only [Option.some.injEq, Prod.mk.injEq] at H
          obtain ⟨rfl, rfl⟩ := H
          go_wp2
          repeat (go_quiet (fail); try go_wp2)
          go_ret2
          exact ⟨_, by first | rfl | (simp [errW_none, errW_some] <;> rfl) | (simp [*, errW_none, errW_some] <;> rfl), by (with_reducible repeat (first | apply Kd.R_alloc | apply Kd.R_drewN | apply Kd.R_drew)); exact Kd.R_mono HO_14.out (fun _ hk => trivial), by repeat (first | (with_reducible first | exact HB.out | apply below_alloc | apply pw_below_drewN | apply below_drew1) | exact HB.out)⟩
         ·rw [if_neg c53] at H
          have c53b0 : (x15_2 == a2) = false := beq_eq_false_iff_ne.mpr c53
          have c53b1 : (x15_2 != a2) = true := bne_iff_ne.mpr c53
          have H' := Aside0.mk H
          clear H
          go_wp2
          repeat (go_quiet (fail); try go_wp2)
          go_loopg [14, 15, 92] k2 (fun kq v14 v15 v92 w' => ∃ (x14_3 : List Int) (x15_3 : Int) (x92_3 : Int), v15 = .int .i64 x15_3 ∧ v92 = .int .i64 x92_3 ∧ Aside0 (impl_FastestWay.l3 kq l1 a2 x9_1 x14_3 x15_3 l1 (l1.length : Int) x92_3 = some (r1, r2)) ∧ Aside0 (kq ≤ k2) ∧ Aside0 (Kd.R (Kd.int .i64) 2 w' w.heap.size (fun k_ => some k_ ≠ (v14 : Value).ownBlock) v554 x9_1) ∧ Aside0 (Kd.R (Kd.int .i64) 2 w' w.heap.size (fun k_ => some k_ ≠ (v554 : Value).ownBlock) v14 x14_3) ∧ Aside0 (Below w.heap.size w w'))
          case atStart => exact ⟨(x14_2), (x15_2), (0), (by first | rfl | (simp; done) | (simp [*]; done)), (by first | rfl | (simp; done) | (simp [*]; done)), H', ⟨Nat.le_refl _⟩, ⟨by (with_reducible repeat (first | apply Kd.R_alloc | apply Kd.R_drewN | apply Kd.R_drew)); exact HO_9.out⟩, ⟨by (with_reducible repeat (first | apply Kd.R_alloc | apply Kd.R_drewN | apply Kd.R_drew)); exact HO_14.out⟩, ⟨by repeat (first | (with_reducible first | exact HB.out | apply below_alloc | apply pw_below_drewN | apply below_drew1) | exact HB.out)⟩⟩
          case round =>
           clear H'
           try clear c1
           try clear p1
           try clear q1
           try clear hx1
           try clear c2
           try clear p2
           try clear c3
           try clear c4
           try clear p4
           try clear q4
           try clear hx4
           try clear hf4
           try clear c5
           try clear c5b0
           try clear c5b1
           try clear p5
           try clear q5
           try clear hx5
           try clear c6
           try clear c6b0
           try clear c6b1
           try clear p6
           try clear c7
           try clear c7b0
           try clear c7b1
           try clear c14
           try clear c14b0
           try clear c15
           try clear c15b0
           try clear c16
           try clear c16b0
           try clear p17
           try clear q17
           try clear hx17
           try clear hf17
           try clear c18
           try clear c18b0
           try clear c18b1
           try clear p19
           try clear q19
           try clear hx19
           try clear hf19
           try clear c24
           try clear c26
           try clear c26b0
           try clear c27
           try clear c27b0
           try clear c28
           try clear c28b0
           try clear c32
           try clear c32b0
           try clear c32b1
           try clear c33
           try clear c33b0
           try clear c34
           try clear c34b0
           try clear c37
           try clear c38
           try clear c38b0
           try clear c39
           try clear c39b0
           try clear c40
           try clear c40b0
           try clear c41
           try clear c41b0
           try clear c42
           try clear c42b0
           try clear p43
           try clear q43
           try clear hx43
           try clear hf43
           try clear c47
           try clear c47b0
           try clear p48
           try clear q48
           try clear hx48
           try clear hf48
           try clear c53
           try clear c53b0
           try clear c53b1
           try clear hcz31_0
           try clear hcz31_1
           try clear hcz31_2
           try clear hcz31_3
           try clear hcz35_0
           try clear hcz35_1
           try clear hcz35_2
           try clear hcz35_3
           try clear hcz36_0
           try clear hcz36_1
           try clear hcz36_2
           try clear hcz36_3
           try clear hcz44_0
           try clear hcz44_1
           try clear hcz44_2
           try clear hcz44_3
           try clear hcz49_0
           try clear hcz49_1
           try clear hcz49_2
           try clear hcz49_3
           try clear hcz52_0
           try clear hcz52_1
           try clear hcz52_2
           try clear hcz52_3
           try clear hfz31_0
           try clear hfz31_1
           try clear hfz31_2
           try clear hfz31_3
           try clear hfz35_0
           try clear hfz35_1
           try clear hfz35_2
           try clear hfz35_3
           try clear hfz36_0
           try clear hfz36_1
           try clear hfz36_2
           try clear hfz36_3
           try clear hfz44_0
           try clear hfz44_1
           try clear hfz44_2
           try clear hfz44_3
           try clear hfz49_0
           try clear hfz49_1
           try clear hfz49_2
           try clear hfz49_3
           try clear hfz52_0
           try clear hfz52_1
           try clear hfz52_2
           try clear hfz52_3
           try clear hx17_0
           try clear hx19_0
           try clear hx43_0
           try clear hx48_0
           try clear hx558_0
           try clear hx558_1
           try clear hx558_2
           try clear hx558_3
           try clear hx560_0
           try clear hx561_0
           try clear hx562_0
           try clear hx564_0
           try clear p1
           try clear p17
           try clear p19
           try clear p2
           try clear p4
           try clear p43
           try clear p48
           try clear p5
           try clear p558
           try clear p560
           try clear p561
           try clear p562
           try clear p564
           try clear p6
           try clear q1
           try clear q17
           try clear q19
           try clear q4
           try clear q43
           try clear q48
           try clear q5
           try clear q558
           try clear q560
           try clear q561
           try clear q562
           try clear q564
           obtain ⟨x14_3, x15_3, x92_3, rfl, rfl, HA, HK3, HO_9, HO_14, HB⟩ := hrel
           cases gk with
           | zero => exact absurd HA.out (by simp [impl_FastestWay.l3])
           | succ k3 =>
            have H := HA.out
            clear HA
            simp only [impl_FastestWay.l3] at H
            by_cases c54 : x92_3 < (l1.length : Int)
            ·rw [if_pos c54] at H
             have c54b0 : decide (x92_3 < (l1.length : Int)) = true := decide_eq_true c54
             clear c54
             by_cases c55 : 0 ≤ x92_3
             ·rw [if_pos c55] at H
              have c55b0 : decide (0 ≤ x92_3) = true := decide_eq_true c55
              clear c55
              by_cases c56 : x92_3 < (l1.length : Int)
              ·rw [if_pos c56] at H
               have c56b0 : decide (x92_3 < (l1.length : Int)) = true := decide_eq_true c56
               clear c56
               by_cases c57 : ((rd_T44 l1 x92_3).f0) = x15_3
               ·rw [if_pos c57] at H
                have c57b0 : (((rd_T44 l1 x92_3).f0) == x15_3) = true := beq_iff_eq.mpr c57
                have c57b1 : (((rd_T44 l1 x92_3).f0) != x15_3) = false := bne_eq_false_iff_eq.mpr c57
                clear c57
                by_cases c58 : 0 ≤ ((rd_T44 l1 x92_3).f1)
                ·rw [if_pos c58] at H
                 have c58b0 : decide (0 ≤ ((rd_T44 l1 x92_3).f1)) = true := decide_eq_true c58
                 clear c58
                 by_cases c59 : ((rd_T44 l1 x92_3).f1) < (x9_1.length : Int)
                 ·rw [if_pos c59] at H
                  have c59b0 : decide (((rd_T44 l1 x92_3).f1) < (x9_1.length : Int)) = true := decide_eq_true c59
                  clear c59
                  by_cases c60 : (rd x9_1 ((rd_T44 l1 x92_3).f1)) ≥ 0
                  ·rw [if_pos c60] at H
                   have c60b0 : decide (0 ≤ (rd x9_1 ((rd_T44 l1 x92_3).f1))) = true := decide_eq_true c60
                   clear c60
                   by_cases c61 : 0 ≤ x15_3
                   ·rw [if_pos c61] at H
                    have c61b0 : decide (0 ≤ x15_3) = true := decide_eq_true c61
                    clear c61
                    by_cases c62 : x15_3 < (x9_1.length : Int)
                    ·rw [if_pos c62] at H
                     have c62b0 : decide (x15_3 < (x9_1.length : Int)) = true := decide_eq_true c62
                     clear c62
                     by_cases c63 : (wrap64 (((rd_T44 l1 x92_3).f2) + (rd x9_1 ((rd_T44 l1 x92_3).f1)))) = (rd x9_1 x15_3)
                     ·rw [if_pos c63] at H
                      have c63b0 : ((wrap64 (((rd_T44 l1 x92_3).f2) + (rd x9_1 ((rd_T44 l1 x92_3).f1)))) == (rd x9_1 x15_3)) = true := beq_iff_eq.mpr c63
                      have c63b1 : ((wrap64 (((rd_T44 l1 x92_3).f2) + (rd x9_1 ((rd_T44 l1 x92_3).f1)))) != (rd x9_1 x15_3)) = false := bne_eq_false_iff_eq.mpr c63
                      clear c63
                      by_cases c64 : x14_3.length < 17592186044416
                      ·rw [if_pos c64] at H
                       have LMc64 := Aside0.mk c64
                       clear c64
                       obtain ⟨y571, hy571⟩ : ∃ y_ : List Int, y_ = (x14_3 ++ [x92_3]) := ⟨_, rfl⟩
                       replace H : (impl_FastestWay.l2 k3 l1 a2 x9_1 y571 ((rd_T44 l1 x92_3).f1)) = some (r1, r2) := by first | (rw [hy571]; with_reducible exact H) | (have H2_ := (Option.bind_some _ _).symm.trans H; rw [hy571]; with_reducible exact H2_) | (have H2_ := (Option.bind_some _ _).symm.trans H; with_reducible exact H2_) | with_reducible exact H | (rw [hy571]; exact H) | exact H
                       have Ny571 := Aside0.mk hy571
                       clear hy571
                       have H' := Aside0.mk H
                       clear H
                       have p566 : 0 ≤ (x92_3 : Int) := of_decide_eq_true (by first | (with_reducible assumption) | assumption)
                       have q566 : x92_3 < (l1.length : Int) := of_decide_eq_true (by first | (with_reducible assumption) | assumption)
                       obtain ⟨ad566, e566, hx566_0, hx566_1, hx566_2, hx566_3⟩ := at_T44 HR1.out x92_3 p566 q566
                       cases e566
                       replace hx566_0 := (HB.out.cell (World.block_lt_of_cell? w _ hx566_0)).trans hx566_0
                       replace hx566_1 := (HB.out.cell (World.block_lt_of_cell? w _ hx566_1)).trans hx566_1
                       replace hx566_2 := (HB.out.cell (World.block_lt_of_cell? w _ hx566_2)).trans hx566_2
                       replace hx566_3 := (HB.out.cell (World.block_lt_of_cell? w _ hx566_3)).trans hx566_3
                       replace p566 := eq_true p566
                       replace q566 := eq_true q566
                       go_wp2_with (first | ((with_reducible refine gate_dst (N := 17) rfl ?_); refine box_event ?hg (N := 17) ?hd (cs := #[.int .i64 0, .int .i64 0, .int .i64 0, .int .i64 0]) (t := 44) ?hr ?_; (case hd => rfl); (case hg => rfl); (case hr => first | (go_simp; done) | (go_simp; rfl)); intro gb567 hg w65 hbox hb; have n0_ := Aside0.mk (Kd.R_below (by (with_reducible repeat (first | apply Kd.R_alloc | apply Kd.R_drewN | apply Kd.R_drew)); exact HO_9.out) hb); have n1_ := Aside0.mk (Kd.R_below (by (with_reducible repeat (first | apply Kd.R_alloc | apply Kd.R_drewN | apply Kd.R_drew)); exact HO_14.out) hb); have n2_ := Aside0.mk (below_step (by repeat (first | (with_reducible first | exact HB.out | apply below_alloc | apply pw_below_drewN | apply below_drew1) | exact HB.out)) hb); have n3_ := Aside0.mk (hbox); have n4_ := Aside0.mk ((by rw [hg]; exact (below_size (by repeat (first | (with_reducible first | exact HB.out | apply below_alloc | apply pw_below_drewN | apply below_drew1) | exact HB.out))) : w.heap.size ≤ gb567)); have n5_ := Aside0.mk ((by rw [hg]; exact (below_size (by repeat (first | (with_reducible first | exact HB.out | apply below_alloc | apply pw_below_drewN | apply below_drew1) | exact HB.out))) : w.heap.size ≤ gb567)); clear HO_9; clear HO_14; clear HB; have HO_9 := n0_; have HO_14 := n1_; have HB := n2_; have BK567 := n3_; have GW567 := n4_; have GE567 := n5_; clear n0_ n1_ n2_ n3_ n4_ n5_; clear hb hbox hg; have hcz66_0 : w65.cell? ⟨gb567, 0, none⟩ = some (.int .i64 0) := (blk_cell BK567.out 0).trans rfl; have hcz66_1 : w65.cell? ⟨gb567, 1, none⟩ = some (.int .i64 0) := (blk_cell BK567.out 1).trans rfl; have hcz66_2 : w65.cell? ⟨gb567, 2, none⟩ = some (.int .i64 0) := (blk_cell BK567.out 2).trans rfl; have hcz66_3 : w65.cell? ⟨gb567, 3, none⟩ = some (.int .i64 0) := (blk_cell BK567.out 3).trans rfl; have hfz66_0 := blk_frozen BK567.out 0; have hfz66_1 := blk_frozen BK567.out 1; have hfz66_2 := blk_frozen BK567.out 2; have hfz66_3 := blk_frozen BK567.out 3; obtain ⟨Ao67, co67, eo67⟩ := Kd.R_slice HO_9.out; subst eo67; have p568 : 0 ≤ (((rd_T44 l1 x92_3).f1) : Int) := of_decide_eq_true (by first | (with_reducible assumption) | assumption); have q568 : ((rd_T44 l1 x92_3).f1) < (x9_1.length : Int) := of_decide_eq_true (by first | (with_reducible assumption) | assumption); obtain ⟨ad568, e568, hx568_0⟩ := Kd.at_int (Kd.R_reads' HO_9.out).2.2 ((rd_T44 l1 x92_3).f1) p568 q568; cases e568; have hn568_0 : ad568.block ≠ gb567 := Kd.own_blk (Kd.R_ne HO_9.out BK567.out (by decide)); have hn568_1 : ad568.block ≠ gb567 := Kd.own_blk (Kd.R_ne HO_9.out BK567.out (by decide)); have hn568_2 : ad568.block ≠ gb567 := Kd.own_blk (Kd.R_ne HO_9.out BK567.out (by decide)); have hn568_3 : ad568.block ≠ gb567 := Kd.own_blk (Kd.R_ne HO_9.out BK567.out (by decide)); replace hx568_0 := (cell_far (p := ⟨gb567, 0, none⟩) (by first | (rw [add_block]; exact hn568_0) | (show (Addr.add _ _).block ≠ _; rw [add_block]; exact hn568_0) | exact hn568_0) (.int .i64 ((rd_T44 l1 x92_3).f0))).trans hx568_0; replace hx568_0 := (cell_far (p := ⟨gb567, 1, none⟩) (by first | (rw [add_block]; exact hn568_1) | (show (Addr.add _ _).block ≠ _; rw [add_block]; exact hn568_1) | exact hn568_1) (.int .i64 ((rd_T44 l1 x92_3).f1))).trans hx568_0; replace hx568_0 := (cell_far (p := ⟨gb567, 2, none⟩) (by first | (rw [add_block]; exact hn568_2) | (show (Addr.add _ _).block ≠ _; rw [add_block]; exact hn568_2) | exact hn568_2) (.int .i64 ((rd_T44 l1 x92_3).f2))).trans hx568_0; replace hx568_0 := (cell_far (p := ⟨gb567, 3, none⟩) (by first | (rw [add_block]; exact hn568_3) | (show (Addr.add _ _).block ≠ _; rw [add_block]; exact hn568_3) | exact hn568_3) (.int .i64 ((rd_T44 l1 x92_3).f3))).trans hx568_0; (try have hy568_0 := fun (n_ : Nat) => (show ((((((w65.drewN n_).setCell ⟨gb567, 0, none⟩ (.int .i64 ((rd_T44 l1 x92_3).f0))).setCell ⟨gb567, 1, none⟩ (.int .i64 ((rd_T44 l1 x92_3).f1))).setCell ⟨gb567, 2, none⟩ (.int .i64 ((rd_T44 l1 x92_3).f2))).setCell ⟨gb567, 3, none⟩ (.int .i64 ((rd_T44 l1 x92_3).f3)))).cell? _ = some _ from hx568_0)); clear hn568_0; clear hn568_1; clear hn568_2; clear hn568_3; replace p568 := eq_true p568; replace q568 := eq_true q568; have p569 : 0 ≤ (((rd_T44 l1 x92_3).f1) : Int) := of_decide_eq_true (by first | (with_reducible assumption) | assumption); have q569 : ((rd_T44 l1 x92_3).f1) < (x9_1.length : Int) := of_decide_eq_true (by first | (with_reducible assumption) | assumption); obtain ⟨ad569, e569, hx569_0⟩ := Kd.at_int (Kd.R_reads' HO_9.out).2.2 ((rd_T44 l1 x92_3).f1) p569 q569; obtain rfl : ad568 = ad569 := (by injection e569); have hn569_0 : ad568.block ≠ gb567 := Kd.own_blk (Kd.R_ne HO_9.out BK567.out (by decide)); have hn569_1 : ad568.block ≠ gb567 := Kd.own_blk (Kd.R_ne HO_9.out BK567.out (by decide)); have hn569_2 : ad568.block ≠ gb567 := Kd.own_blk (Kd.R_ne HO_9.out BK567.out (by decide)); have hn569_3 : ad568.block ≠ gb567 := Kd.own_blk (Kd.R_ne HO_9.out BK567.out (by decide)); replace hx569_0 := (cell_far (p := ⟨gb567, 0, none⟩) (by first | (rw [add_block]; exact hn569_0) | (show (Addr.add _ _).block ≠ _; rw [add_block]; exact hn569_0) | exact hn569_0) (.int .i64 ((rd_T44 l1 x92_3).f0))).trans hx569_0; replace hx569_0 := (cell_far (p := ⟨gb567, 1, none⟩) (by first | (rw [add_block]; exact hn569_1) | (show (Addr.add _ _).block ≠ _; rw [add_block]; exact hn569_1) | exact hn569_1) (.int .i64 ((rd_T44 l1 x92_3).f1))).trans hx569_0; replace hx569_0 := (cell_far (p := ⟨gb567, 2, none⟩) (by first | (rw [add_block]; exact hn569_2) | (show (Addr.add _ _).block ≠ _; rw [add_block]; exact hn569_2) | exact hn569_2) (.int .i64 ((rd_T44 l1 x92_3).f2))).trans hx569_0; replace hx569_0 := (cell_far (p := ⟨gb567, 3, none⟩) (by first | (rw [add_block]; exact hn569_3) | (show (Addr.add _ _).block ≠ _; rw [add_block]; exact hn569_3) | exact hn569_3) (.int .i64 ((rd_T44 l1 x92_3).f3))).trans hx569_0; (try have hy569_0 := fun (n_ : Nat) => (show ((((((w65.drewN n_).setCell ⟨gb567, 0, none⟩ (.int .i64 ((rd_T44 l1 x92_3).f0))).setCell ⟨gb567, 1, none⟩ (.int .i64 ((rd_T44 l1 x92_3).f1))).setCell ⟨gb567, 2, none⟩ (.int .i64 ((rd_T44 l1 x92_3).f2))).setCell ⟨gb567, 3, none⟩ (.int .i64 ((rd_T44 l1 x92_3).f3)))).cell? _ = some _ from hx569_0)); clear hn569_0; clear hn569_1; clear hn569_2; clear hn569_3; replace p569 := eq_true p569; replace q569 := eq_true q569; have p570 : 0 ≤ (x15_3 : Int) := of_decide_eq_true (by first | (with_reducible assumption) | assumption); have q570 : x15_3 < (x9_1.length : Int) := of_decide_eq_true (by first | (with_reducible assumption) | assumption); obtain ⟨ad570, e570, hx570_0⟩ := Kd.at_int (Kd.R_reads' HO_9.out).2.2 x15_3 p570 q570; obtain rfl : ad568 = ad570 := (by injection e570); have hn570_0 : ad568.block ≠ gb567 := Kd.own_blk (Kd.R_ne HO_9.out BK567.out (by decide)); have hn570_1 : ad568.block ≠ gb567 := Kd.own_blk (Kd.R_ne HO_9.out BK567.out (by decide)); have hn570_2 : ad568.block ≠ gb567 := Kd.own_blk (Kd.R_ne HO_9.out BK567.out (by decide)); have hn570_3 : ad568.block ≠ gb567 := Kd.own_blk (Kd.R_ne HO_9.out BK567.out (by decide)); replace hx570_0 := (cell_far (p := ⟨gb567, 0, none⟩) (by first | (rw [add_block]; exact hn570_0) | (show (Addr.add _ _).block ≠ _; rw [add_block]; exact hn570_0) | exact hn570_0) (.int .i64 ((rd_T44 l1 x92_3).f0))).trans hx570_0; replace hx570_0 := (cell_far (p := ⟨gb567, 1, none⟩) (by first | (rw [add_block]; exact hn570_1) | (show (Addr.add _ _).block ≠ _; rw [add_block]; exact hn570_1) | exact hn570_1) (.int .i64 ((rd_T44 l1 x92_3).f1))).trans hx570_0; replace hx570_0 := (cell_far (p := ⟨gb567, 2, none⟩) (by first | (rw [add_block]; exact hn570_2) | (show (Addr.add _ _).block ≠ _; rw [add_block]; exact hn570_2) | exact hn570_2) (.int .i64 ((rd_T44 l1 x92_3).f2))).trans hx570_0; replace hx570_0 := (cell_far (p := ⟨gb567, 3, none⟩) (by first | (rw [add_block]; exact hn570_3) | (show (Addr.add _ _).block ≠ _; rw [add_block]; exact hn570_3) | exact hn570_3) (.int .i64 ((rd_T44 l1 x92_3).f3))).trans hx570_0; (try have hy570_0 := fun (n_ : Nat) => (show ((((((w65.drewN n_).setCell ⟨gb567, 0, none⟩ (.int .i64 ((rd_T44 l1 x92_3).f0))).setCell ⟨gb567, 1, none⟩ (.int .i64 ((rd_T44 l1 x92_3).f1))).setCell ⟨gb567, 2, none⟩ (.int .i64 ((rd_T44 l1 x92_3).f2))).setCell ⟨gb567, 3, none⟩ (.int .i64 ((rd_T44 l1 x92_3).f3)))).cell? _ = some _ from hx570_0)); clear hn570_0; clear hn570_1; clear hn570_2; clear hn570_3; replace p570 := eq_true p570; replace q570 := eq_true q570) | ((with_reducible refine gate_builtin (b := .append) (xs := #[.tmp 124, .tmp 126]) rfl ?_); at_builtin; refine Kd.R_append (Kd.int .i64) (w0 := w) w.heap.size rfl (.tmp 124) (.tmp 126) 30 2 (.int .i64 0) 8 rfl Try.underlying30 info2 rfl (by decide) (by omega) u14 x14_3 x92_3 [.int .i64 x92_3] (fun k_ => some k_ ≠ (.slice (some ad568) x9_1.length co67 : Value).ownBlock) (fun _ => False) rfl (by first | (go_simp; done) | (go_simp; rfl)) ?aP (fun _ hk => hk.elim) ?aF ?aO ?aB ?aS ?aL ?_; (case aP => exact rfl); (case aB => exact (by repeat (first | (with_reducible first | exact HB.out | apply below_alloc | apply pw_below_drewN | apply below_drew1 | refine below_set ?_ GE567.out) | exact HB.out))); (case aF => exact (fun k_ hk => Kd.fresh' (Kd.R_lt (by (with_reducible repeat (first | apply Kd.R_alloc | apply Kd.R_drewN | apply Kd.R_drew)); exact (Kd.R_mono (Kd.R_far (p := ⟨gb567, 3, none⟩) (Kd.R_far (p := ⟨gb567, 2, none⟩) (Kd.R_far (p := ⟨gb567, 1, none⟩) (Kd.R_far (p := ⟨gb567, 0, none⟩) (Kd.R_types HO_9.out BK567.out (by decide)) (fun _ hk => hk.2) (.int .i64 ((rd_T44 l1 x92_3).f0))) (fun _ hk => hk.2) (.int .i64 ((rd_T44 l1 x92_3).f1))) (fun _ hk => hk.2) (.int .i64 ((rd_T44 l1 x92_3).f2))) (fun _ hk => hk.2) (.int .i64 ((rd_T44 l1 x92_3).f3))) (fun _ h_ => h_.1)))) k_ hk)); (case aO => exact (by (with_reducible repeat (first | apply Kd.R_alloc | apply Kd.R_drewN | apply Kd.R_drew)); exact Kd.R_mono (Kd.R_far (p := ⟨gb567, 3, none⟩) (Kd.R_far (p := ⟨gb567, 2, none⟩) (Kd.R_far (p := ⟨gb567, 1, none⟩) (Kd.R_far (p := ⟨gb567, 0, none⟩) (Kd.R_types HO_14.out BK567.out (by decide)) (fun _ hk => hk.2) (.int .i64 ((rd_T44 l1 x92_3).f0))) (fun _ hk => hk.2) (.int .i64 ((rd_T44 l1 x92_3).f1))) (fun _ hk => hk.2) (.int .i64 ((rd_T44 l1 x92_3).f2))) (fun _ hk => hk.2) (.int .i64 ((rd_T44 l1 x92_3).f3))) (fun _ hk => hk.1))); (case aS => exact (below_size (by repeat (first | (with_reducible first | exact HB.out | apply below_alloc | apply pw_below_drewN | apply below_drew1 | refine below_set ?_ GE567.out) | exact HB.out)))); (case aL => have := LMc64.out; omega); intro v572 w68 ho hb hg hat; rw [← Ny571.out] at ho; have n0_ := Aside0.mk (Kd.R_after (ok := (fun _ => True)) (by (with_reducible repeat (first | apply Kd.R_alloc | apply Kd.R_drewN | apply Kd.R_drew)); exact Kd.R_mono (Kd.R_far (p := ⟨gb567, 3, none⟩) (Kd.R_far (p := ⟨gb567, 2, none⟩) (Kd.R_far (p := ⟨gb567, 1, none⟩) (Kd.R_far (p := ⟨gb567, 0, none⟩) (Kd.R_types HO_9.out BK567.out (by decide)) (fun _ hk => hk.2) (.int .i64 ((rd_T44 l1 x92_3).f0))) (fun _ hk => hk.2) (.int .i64 ((rd_T44 l1 x92_3).f1))) (fun _ hk => hk.2) (.int .i64 ((rd_T44 l1 x92_3).f2))) (fun _ hk => hk.2) (.int .i64 ((rd_T44 l1 x92_3).f3))) (fun _ hk => ⟨trivial, hk.1⟩)) hg hat); have n1_ := Aside0.mk (blk_grown (g := gb567) (o := .cells #[.int .i64 ((rd_T44 l1 x92_3).f0), .int .i64 ((rd_T44 l1 x92_3).f1), .int .i64 ((rd_T44 l1 x92_3).f2), .int .i64 ((rd_T44 l1 x92_3).f3)] 44 (0, 0)) (by (with_reducible repeat (first | refine blk_drewN ?_ _ | refine blk_drew ?_ | refine blk_alloc ?_ _)); refine blk_put (cs := #[.int .i64 ((rd_T44 l1 x92_3).f0), .int .i64 ((rd_T44 l1 x92_3).f1), .int .i64 ((rd_T44 l1 x92_3).f2), .int .i64 0]) ?_ 3 _ rfl; (with_reducible repeat (first | refine blk_drewN ?_ _ | refine blk_drew ?_ | refine blk_alloc ?_ _)); refine blk_put (cs := #[.int .i64 ((rd_T44 l1 x92_3).f0), .int .i64 ((rd_T44 l1 x92_3).f1), .int .i64 0, .int .i64 0]) ?_ 2 _ rfl; (with_reducible repeat (first | refine blk_drewN ?_ _ | refine blk_drew ?_ | refine blk_alloc ?_ _)); refine blk_put (cs := #[.int .i64 ((rd_T44 l1 x92_3).f0), .int .i64 0, .int .i64 0, .int .i64 0]) ?_ 1 _ rfl; (with_reducible repeat (first | refine blk_drewN ?_ _ | refine blk_drew ?_ | refine blk_alloc ?_ _)); refine blk_put (cs := #[.int .i64 0, .int .i64 0, .int .i64 0, .int .i64 0]) ?_ 0 _ rfl; (with_reducible repeat (first | refine blk_drewN ?_ _ | refine blk_drew ?_ | refine blk_alloc ?_ _)); exact BK567.out) hg (Kd.R_ne HO_14.out BK567.out (by decide))); have n2_ := Aside0.mk (hb); have n3_ := Aside0.mk (ho); clear HO_9; clear BK567; clear HB; clear HO_14; have HO_9 := n0_; have BK567 := n1_; have HB := n2_; have HO573 := n3_; clear n0_ n1_ n2_ n3_; clear ho hb hg hat; have hcz69_0 : w68.cell? ⟨gb567, 0, none⟩ = some (.int .i64 ((rd_T44 l1 x92_3).f0)) := (blk_cell BK567.out 0).trans rfl; have hcz69_1 : w68.cell? ⟨gb567, 1, none⟩ = some (.int .i64 ((rd_T44 l1 x92_3).f1)) := (blk_cell BK567.out 1).trans rfl; have hcz69_2 : w68.cell? ⟨gb567, 2, none⟩ = some (.int .i64 ((rd_T44 l1 x92_3).f2)) := (blk_cell BK567.out 2).trans rfl; have hcz69_3 : w68.cell? ⟨gb567, 3, none⟩ = some (.int .i64 ((rd_T44 l1 x92_3).f3)) := (blk_cell BK567.out 3).trans rfl; have hfz69_0 := blk_frozen BK567.out 0; have hfz69_1 := blk_frozen BK567.out 1; have hfz69_2 := blk_frozen BK567.out 2; have hfz69_3 := blk_frozen BK567.out 3))
                       repeat (go_quiet (first | ((with_reducible refine gate_dst (N := 17) rfl ?_); refine box_event ?hg (N := 17) ?hd (cs := #[.int .i64 0, .int .i64 0, .int .i64 0, .int .i64 0]) (t := 44) ?hr ?_; (case hd => rfl); (case hg => rfl); (case hr => first | (go_simp; done) | (go_simp; rfl)); intro gb567 hg w65 hbox hb; have n0_ := Aside0.mk (Kd.R_below (by (with_reducible repeat (first | apply Kd.R_alloc | apply Kd.R_drewN | apply Kd.R_drew)); exact HO_9.out) hb); have n1_ := Aside0.mk (Kd.R_below (by (with_reducible repeat (first | apply Kd.R_alloc | apply Kd.R_drewN | apply Kd.R_drew)); exact HO_14.out) hb); have n2_ := Aside0.mk (below_step (by repeat (first | (with_reducible first | exact HB.out | apply below_alloc | apply pw_below_drewN | apply below_drew1) | exact HB.out)) hb); have n3_ := Aside0.mk (hbox); have n4_ := Aside0.mk ((by rw [hg]; exact (below_size (by repeat (first | (with_reducible first | exact HB.out | apply below_alloc | apply pw_below_drewN | apply below_drew1) | exact HB.out))) : w.heap.size ≤ gb567)); have n5_ := Aside0.mk ((by rw [hg]; exact (below_size (by repeat (first | (with_reducible first | exact HB.out | apply below_alloc | apply pw_below_drewN | apply below_drew1) | exact HB.out))) : w.heap.size ≤ gb567)); clear HO_9; clear HO_14; clear HB; have HO_9 := n0_; have HO_14 := n1_; have HB := n2_; have BK567 := n3_; have GW567 := n4_; have GE567 := n5_; clear n0_ n1_ n2_ n3_ n4_ n5_; clear hb hbox hg; have hcz66_0 : w65.cell? ⟨gb567, 0, none⟩ = some (.int .i64 0) := (blk_cell BK567.out 0).trans rfl; have hcz66_1 : w65.cell? ⟨gb567, 1, none⟩ = some (.int .i64 0) := (blk_cell BK567.out 1).trans rfl; have hcz66_2 : w65.cell? ⟨gb567, 2, none⟩ = some (.int .i64 0) := (blk_cell BK567.out 2).trans rfl; have hcz66_3 : w65.cell? ⟨gb567, 3, none⟩ = some (.int .i64 0) := (blk_cell BK567.out 3).trans rfl; have hfz66_0 := blk_frozen BK567.out 0; have hfz66_1 := blk_frozen BK567.out 1; have hfz66_2 := blk_frozen BK567.out 2; have hfz66_3 := blk_frozen BK567.out 3; obtain ⟨Ao67, co67, eo67⟩ := Kd.R_slice HO_9.out; subst eo67; have p568 : 0 ≤ (((rd_T44 l1 x92_3).f1) : Int) := of_decide_eq_true (by first | (with_reducible assumption) | assumption); have q568 : ((rd_T44 l1 x92_3).f1) < (x9_1.length : Int) := of_decide_eq_true (by first | (with_reducible assumption) | assumption); obtain ⟨ad568, e568, hx568_0⟩ := Kd.at_int (Kd.R_reads' HO_9.out).2.2 ((rd_T44 l1 x92_3).f1) p568 q568; cases e568; have hn568_0 : ad568.block ≠ gb567 := Kd.own_blk (Kd.R_ne HO_9.out BK567.out (by decide)); have hn568_1 : ad568.block ≠ gb567 := Kd.own_blk (Kd.R_ne HO_9.out BK567.out (by decide)); have hn568_2 : ad568.block ≠ gb567 := Kd.own_blk (Kd.R_ne HO_9.out BK567.out (by decide)); have hn568_3 : ad568.block ≠ gb567 := Kd.own_blk (Kd.R_ne HO_9.out BK567.out (by decide)); replace hx568_0 := (cell_far (p := ⟨gb567, 0, none⟩) (by first | (rw [add_block]; exact hn568_0) | (show (Addr.add _ _).block ≠ _; rw [add_block]; exact hn568_0) | exact hn568_0) (.int .i64 ((rd_T44 l1 x92_3).f0))).trans hx568_0; replace hx568_0 := (cell_far (p := ⟨gb567, 1, none⟩) (by first | (rw [add_block]; exact hn568_1) | (show (Addr.add _ _).block ≠ _; rw [add_block]; exact hn568_1) | exact hn568_1) (.int .i64 ((rd_T44 l1 x92_3).f1))).trans hx568_0; replace hx568_0 := (cell_far (p := ⟨gb567, 2, none⟩) (by first | (rw [add_block]; exact hn568_2) | (show (Addr.add _ _).block ≠ _; rw [add_block]; exact hn568_2) | exact hn568_2) (.int .i64 ((rd_T44 l1 x92_3).f2))).trans hx568_0; replace hx568_0 := (cell_far (p := ⟨gb567, 3, none⟩) (by first | (rw [add_block]; exact hn568_3) | (show (Addr.add _ _).block ≠ _; rw [add_block]; exact hn568_3) | exact hn568_3) (.int .i64 ((rd_T44 l1 x92_3).f3))).trans hx568_0; (try have hy568_0 := fun (n_ : Nat) => (show ((((((w65.drewN n_).setCell ⟨gb567, 0, none⟩ (.int .i64 ((rd_T44 l1 x92_3).f0))).setCell ⟨gb567, 1, none⟩ (.int .i64 ((rd_T44 l1 x92_3).f1))).setCell ⟨gb567, 2, none⟩ (.int .i64 ((rd_T44 l1 x92_3).f2))).setCell ⟨gb567, 3, none⟩ (.int .i64 ((rd_T44 l1 x92_3).f3)))).cell? _ = some _ from hx568_0)); clear hn568_0; clear hn568_1; clear hn568_2; clear hn568_3; replace p568 := eq_true p568; replace q568 := eq_true q568; have p569 : 0 ≤ (((rd_T44 l1 x92_3).f1) : Int) := of_decide_eq_true (by first | (with_reducible assumption) | assumption); have q569 : ((rd_T44 l1 x92_3).f1) < (x9_1.length : Int) := of_decide_eq_true (by first | (with_reducible assumption) | assumption); obtain ⟨ad569, e569, hx569_0⟩ := Kd.at_int (Kd.R_reads' HO_9.out).2.2 ((rd_T44 l1 x92_3).f1) p569 q569; obtain rfl : ad568 = ad569 := (by injection e569); have hn569_0 : ad568.block ≠ gb567 := Kd.own_blk (Kd.R_ne HO_9.out BK567.out (by decide)); have hn569_1 : ad568.block ≠ gb567 := Kd.own_blk (Kd.R_ne HO_9.out BK567.out (by decide)); have hn569_2 : ad568.block ≠ gb567 := Kd.own_blk (Kd.R_ne HO_9.out BK567.out (by decide)); have hn569_3 : ad568.block ≠ gb567 := Kd.own_blk (Kd.R_ne HO_9.out BK567.out (by decide)); replace hx569_0 := (cell_far (p := ⟨gb567, 0, none⟩) (by first | (rw [add_block]; exact hn569_0) | (show (Addr.add _ _).block ≠ _; rw [add_block]; exact hn569_0) | exact hn569_0) (.int .i64 ((rd_T44 l1 x92_3).f0))).trans hx569_0; replace hx569_0 := (cell_far (p := ⟨gb567, 1, none⟩) (by first | (rw [add_block]; exact hn569_1) | (show (Addr.add _ _).block ≠ _; rw [add_block]; exact hn569_1) | exact hn569_1) (.int .i64 ((rd_T44 l1 x92_3).f1))).trans hx569_0; replace hx569_0 := (cell_far (p := ⟨gb567, 2, none⟩) (by first | (rw [add_block]; exact hn569_2) | (show (Addr.add _ _).block ≠ _; rw [add_block]; exact hn569_2) | exact hn569_2) (.int .i64 ((rd_T44 l1 x92_3).f2))).trans hx569_0; replace hx569_0 := (cell_far (p := ⟨gb567, 3, none⟩) (by first | (rw [add_block]; exact hn569_3) | (show (Addr.add _ _).block ≠ _; rw [add_block]; exact hn569_3) | exact hn569_3) (.int .i64 ((rd_T44 l1 x92_3).f3))).trans hx569_0; (try have hy569_0 := fun (n_ : Nat) => (show ((((((w65.drewN n_).setCell ⟨gb567, 0, none⟩ (.int .i64 ((rd_T44 l1 x92_3).f0))).setCell ⟨gb567, 1, none⟩ (.int .i64 ((rd_T44 l1 x92_3).f1))).setCell ⟨gb567, 2, none⟩ (.int .i64 ((rd_T44 l1 x92_3).f2))).setCell ⟨gb567, 3, none⟩ (.int .i64 ((rd_T44 l1 x92_3).f3)))).cell? _ = some _ from hx569_0)); clear hn569_0; clear hn569_1; clear hn569_2; clear hn569_3; replace p569 := eq_true p569; replace q569 := eq_true q569; have p570 : 0 ≤ (x15_3 : Int) := of_decide_eq_true (by first | (with_reducible assumption) | assumption); have q570 : x15_3 < (x9_1.length : Int) := of_decide_eq_true (by first | (with_reducible assumption) | assumption); obtain ⟨ad570, e570, hx570_0⟩ := Kd.at_int (Kd.R_reads' HO_9.out).2.2 x15_3 p570 q570; obtain rfl : ad568 = ad570 := (by injection e570); have hn570_0 : ad568.block ≠ gb567 := Kd.own_blk (Kd.R_ne HO_9.out BK567.out (by decide)); have hn570_1 : ad568.block ≠ gb567 := Kd.own_blk (Kd.R_ne HO_9.out BK567.out (by decide)); have hn570_2 : ad568.block ≠ gb567 := Kd.own_blk (Kd.R_ne HO_9.out BK567.out (by decide)); have hn570_3 : ad568.block ≠ gb567 := Kd.own_blk (Kd.R_ne HO_9.out BK567.out (by decide)); replace hx570_0 := (cell_far (p := ⟨gb567, 0, none⟩) (by first | (rw [add_block]; exact hn570_0) | (show (Addr.add _ _).block ≠ _; rw [add_block]; exact hn570_0) | exact hn570_0) (.int .i64 ((rd_T44 l1 x92_3).f0))).trans hx570_0; replace hx570_0 := (cell_far (p := ⟨gb567, 1, none⟩) (by first | (rw [add_block]; exact hn570_1) | (show (Addr.add _ _).block ≠ _; rw [add_block]; exact hn570_1) | exact hn570_1) (.int .i64 ((rd_T44 l1 x92_3).f1))).trans hx570_0; replace hx570_0 := (cell_far (p := ⟨gb567, 2, none⟩) (by first | (rw [add_block]; exact hn570_2) | (show (Addr.add _ _).block ≠ _; rw [add_block]; exact hn570_2) | exact hn570_2) (.int .i64 ((rd_T44 l1 x92_3).f2))).trans hx570_0; replace hx570_0 := (cell_far (p := ⟨gb567, 3, none⟩) (by first | (rw [add_block]; exact hn570_3) | (show (Addr.add _ _).block ≠ _; rw [add_block]; exact hn570_3) | exact hn570_3) (.int .i64 ((rd_T44 l1 x92_3).f3))).trans hx570_0; (try have hy570_0 := fun (n_ : Nat) => (show ((((((w65.drewN n_).setCell ⟨gb567, 0, none⟩ (.int .i64 ((rd_T44 l1 x92_3).f0))).setCell ⟨gb567, 1, none⟩ (.int .i64 ((rd_T44 l1 x92_3).f1))).setCell ⟨gb567, 2, none⟩ (.int .i64 ((rd_T44 l1 x92_3).f2))).setCell ⟨gb567, 3, none⟩ (.int .i64 ((rd_T44 l1 x92_3).f3)))).cell? _ = some _ from hx570_0)); clear hn570_0; clear hn570_1; clear hn570_2; clear hn570_3; replace p570 := eq_true p570; replace q570 := eq_true q570) | ((with_reducible refine gate_builtin (b := .append) (xs := #[.tmp 124, .tmp 126]) rfl ?_); at_builtin; refine Kd.R_append (Kd.int .i64) (w0 := w) w.heap.size rfl (.tmp 124) (.tmp 126) 30 2 (.int .i64 0) 8 rfl Try.underlying30 info2 rfl (by decide) (by omega) u14 x14_3 x92_3 [.int .i64 x92_3] (fun k_ => some k_ ≠ (.slice (some ad568) x9_1.length co67 : Value).ownBlock) (fun _ => False) rfl (by first | (go_simp; done) | (go_simp; rfl)) ?aP (fun _ hk => hk.elim) ?aF ?aO ?aB ?aS ?aL ?_; (case aP => exact rfl); (case aB => exact (by repeat (first | (with_reducible first | exact HB.out | apply below_alloc | apply pw_below_drewN | apply below_drew1 | refine below_set ?_ GE567.out) | exact HB.out))); (case aF => exact (fun k_ hk => Kd.fresh' (Kd.R_lt (by (with_reducible repeat (first | apply Kd.R_alloc | apply Kd.R_drewN | apply Kd.R_drew)); exact (Kd.R_mono (Kd.R_far (p := ⟨gb567, 3, none⟩) (Kd.R_far (p := ⟨gb567, 2, none⟩) (Kd.R_far (p := ⟨gb567, 1, none⟩) (Kd.R_far (p := ⟨gb567, 0, none⟩) (Kd.R_types HO_9.out BK567.out (by decide)) (fun _ hk => hk.2) (.int .i64 ((rd_T44 l1 x92_3).f0))) (fun _ hk => hk.2) (.int .i64 ((rd_T44 l1 x92_3).f1))) (fun _ hk => hk.2) (.int .i64 ((rd_T44 l1 x92_3).f2))) (fun _ hk => hk.2) (.int .i64 ((rd_T44 l1 x92_3).f3))) (fun _ h_ => h_.1)))) k_ hk)); (case aO => exact (by (with_reducible repeat (first | apply Kd.R_alloc | apply Kd.R_drewN | apply Kd.R_drew)); exact Kd.R_mono (Kd.R_far (p := ⟨gb567, 3, none⟩) (Kd.R_far (p := ⟨gb567, 2, none⟩) (Kd.R_far (p := ⟨gb567, 1, none⟩) (Kd.R_far (p := ⟨gb567, 0, none⟩) (Kd.R_types HO_14.out BK567.out (by decide)) (fun _ hk => hk.2) (.int .i64 ((rd_T44 l1 x92_3).f0))) (fun _ hk => hk.2) (.int .i64 ((rd_T44 l1 x92_3).f1))) (fun _ hk => hk.2) (.int .i64 ((rd_T44 l1 x92_3).f2))) (fun _ hk => hk.2) (.int .i64 ((rd_T44 l1 x92_3).f3))) (fun _ hk => hk.1))); (case aS => exact (below_size (by repeat (first | (with_reducible first | exact HB.out | apply below_alloc | apply pw_below_drewN | apply below_drew1 | refine below_set ?_ GE567.out) | exact HB.out)))); (case aL => have := LMc64.out; omega); intro v572 w68 ho hb hg hat; rw [← Ny571.out] at ho; have n0_ := Aside0.mk (Kd.R_after (ok := (fun _ => True)) (by (with_reducible repeat (first | apply Kd.R_alloc | apply Kd.R_drewN | apply Kd.R_drew)); exact Kd.R_mono (Kd.R_far (p := ⟨gb567, 3, none⟩) (Kd.R_far (p := ⟨gb567, 2, none⟩) (Kd.R_far (p := ⟨gb567, 1, none⟩) (Kd.R_far (p := ⟨gb567, 0, none⟩) (Kd.R_types HO_9.out BK567.out (by decide)) (fun _ hk => hk.2) (.int .i64 ((rd_T44 l1 x92_3).f0))) (fun _ hk => hk.2) (.int .i64 ((rd_T44 l1 x92_3).f1))) (fun _ hk => hk.2) (.int .i64 ((rd_T44 l1 x92_3).f2))) (fun _ hk => hk.2) (.int .i64 ((rd_T44 l1 x92_3).f3))) (fun _ hk => ⟨trivial, hk.1⟩)) hg hat); have n1_ := Aside0.mk (blk_grown (g := gb567) (o := .cells #[.int .i64 ((rd_T44 l1 x92_3).f0), .int .i64 ((rd_T44 l1 x92_3).f1), .int .i64 ((rd_T44 l1 x92_3).f2), .int .i64 ((rd_T44 l1 x92_3).f3)] 44 (0, 0)) (by (with_reducible repeat (first | refine blk_drewN ?_ _ | refine blk_drew ?_ | refine blk_alloc ?_ _)); refine blk_put (cs := #[.int .i64 ((rd_T44 l1 x92_3).f0), .int .i64 ((rd_T44 l1 x92_3).f1), .int .i64 ((rd_T44 l1 x92_3).f2), .int .i64 0]) ?_ 3 _ rfl; (with_reducible repeat (first | refine blk_drewN ?_ _ | refine blk_drew ?_ | refine blk_alloc ?_ _)); refine blk_put (cs := #[.int .i64 ((rd_T44 l1 x92_3).f0), .int .i64 ((rd_T44 l1 x92_3).f1), .int .i64 0, .int .i64 0]) ?_ 2 _ rfl; (with_reducible repeat (first | refine blk_drewN ?_ _ | refine blk_drew ?_ | refine blk_alloc ?_ _)); refine blk_put (cs := #[.int .i64 ((rd_T44 l1 x92_3).f0), .int .i64 0, .int .i64 0, .int .i64 0]) ?_ 1 _ rfl; (with_reducible repeat (first | refine blk_drewN ?_ _ | refine blk_drew ?_ | refine blk_alloc ?_ _)); refine blk_put (cs := #[.int .i64 0, .int .i64 0, .int .i64 0, .int .i64 0]) ?_ 0 _ rfl; (with_reducible repeat (first | refine blk_drewN ?_ _ | refine blk_drew ?_ | refine blk_alloc ?_ _)); exact BK567.out) hg (Kd.R_ne HO_14.out BK567.out (by decide))); have n2_ := Aside0.mk (hb); have n3_ := Aside0.mk (ho); clear HO_9; clear BK567; clear HB; clear HO_14; have HO_9 := n0_; have BK567 := n1_; have HB := n2_; have HO573 := n3_; clear n0_ n1_ n2_ n3_; clear ho hb hg hat; have hcz69_0 : w68.cell? ⟨gb567, 0, none⟩ = some (.int .i64 ((rd_T44 l1 x92_3).f0)) := (blk_cell BK567.out 0).trans rfl; have hcz69_1 : w68.cell? ⟨gb567, 1, none⟩ = some (.int .i64 ((rd_T44 l1 x92_3).f1)) := (blk_cell BK567.out 1).trans rfl; have hcz69_2 : w68.cell? ⟨gb567, 2, none⟩ = some (.int .i64 ((rd_T44 l1 x92_3).f2)) := (blk_cell BK567.out 2).trans rfl; have hcz69_3 : w68.cell? ⟨gb567, 3, none⟩ = some (.int .i64 ((rd_T44 l1 x92_3).f3)) := (blk_cell BK567.out 3).trans rfl; have hfz69_0 := blk_frozen BK567.out 0; have hfz69_1 := blk_frozen BK567.out 1; have hfz69_2 := blk_frozen BK567.out 2; have hfz69_3 := blk_frozen BK567.out 3)); try go_wp2_with (first | ((with_reducible refine gate_dst (N := 17) rfl ?_); refine box_event ?hg (N := 17) ?hd (cs := #[.int .i64 0, .int .i64 0, .int .i64 0, .int .i64 0]) (t := 44) ?hr ?_; (case hd => rfl); (case hg => rfl); (case hr => first | (go_simp; done) | (go_simp; rfl)); intro gb567 hg w65 hbox hb; have n0_ := Aside0.mk (Kd.R_below (by (with_reducible repeat (first | apply Kd.R_alloc | apply Kd.R_drewN | apply Kd.R_drew)); exact HO_9.out) hb); have n1_ := Aside0.mk (Kd.R_below (by (with_reducible repeat (first | apply Kd.R_alloc | apply Kd.R_drewN | apply Kd.R_drew)); exact HO_14.out) hb); have n2_ := Aside0.mk (below_step (by repeat (first | (with_reducible first | exact HB.out | apply below_alloc | apply pw_below_drewN | apply below_drew1) | exact HB.out)) hb); have n3_ := Aside0.mk (hbox); have n4_ := Aside0.mk ((by rw [hg]; exact (below_size (by repeat (first | (with_reducible first | exact HB.out | apply below_alloc | apply pw_below_drewN | apply below_drew1) | exact HB.out))) : w.heap.size ≤ gb567)); have n5_ := Aside0.mk ((by rw [hg]; exact (below_size (by repeat (first | (with_reducible first | exact HB.out | apply below_alloc | apply pw_below_drewN | apply below_drew1) | exact HB.out))) : w.heap.size ≤ gb567)); clear HO_9; clear HO_14; clear HB; have HO_9 := n0_; have HO_14 := n1_; have HB := n2_; have BK567 := n3_; have GW567 := n4_; have GE567 := n5_; clear n0_ n1_ n2_ n3_ n4_ n5_; clear hb hbox hg; have hcz66_0 : w65.cell? ⟨gb567, 0, none⟩ = some (.int .i64 0) := (blk_cell BK567.out 0).trans rfl; have hcz66_1 : w65.cell? ⟨gb567, 1, none⟩ = some (.int .i64 0) := (blk_cell BK567.out 1).trans rfl; have hcz66_2 : w65.cell? ⟨gb567, 2, none⟩ = some (.int .i64 0) := (blk_cell BK567.out 2).trans rfl; have hcz66_3 : w65.cell? ⟨gb567, 3, none⟩ = some (.int .i64 0) := (blk_cell BK567.out 3).trans rfl; have hfz66_0 := blk_frozen BK567.out 0; have hfz66_1 := blk_frozen BK567.out 1; have hfz66_2 := blk_frozen BK567.out 2; have hfz66_3 := blk_frozen BK567.out 3; obtain ⟨Ao67, co67, eo67⟩ := Kd.R_slice HO_9.out; subst eo67; have p568 : 0 ≤ (((rd_T44 l1 x92_3).f1) : Int) := of_decide_eq_true (by first | (with_reducible assumption) | assumption); have q568 : ((rd_T44 l1 x92_3).f1) < (x9_1.length : Int) := of_decide_eq_true (by first | (with_reducible assumption) | assumption); obtain ⟨ad568, e568, hx568_0⟩ := Kd.at_int (Kd.R_reads' HO_9.out).2.2 ((rd_T44 l1 x92_3).f1) p568 q568; cases e568; have hn568_0 : ad568.block ≠ gb567 := Kd.own_blk (Kd.R_ne HO_9.out BK567.out (by decide)); have hn568_1 : ad568.block ≠ gb567 := Kd.own_blk (Kd.R_ne HO_9.out BK567.out (by decide)); have hn568_2 : ad568.block ≠ gb567 := Kd.own_blk (Kd.R_ne HO_9.out BK567.out (by decide)); have hn568_3 : ad568.block ≠ gb567 := Kd.own_blk (Kd.R_ne HO_9.out BK567.out (by decide)); replace hx568_0 := (cell_far (p := ⟨gb567, 0, none⟩) (by first | (rw [add_block]; exact hn568_0) | (show (Addr.add _ _).block ≠ _; rw [add_block]; exact hn568_0) | exact hn568_0) (.int .i64 ((rd_T44 l1 x92_3).f0))).trans hx568_0; replace hx568_0 := (cell_far (p := ⟨gb567, 1, none⟩) (by first | (rw [add_block]; exact hn568_1) | (show (Addr.add _ _).block ≠ _; rw [add_block]; exact hn568_1) | exact hn568_1) (.int .i64 ((rd_T44 l1 x92_3).f1))).trans hx568_0; replace hx568_0 := (cell_far (p := ⟨gb567, 2, none⟩) (by first | (rw [add_block]; exact hn568_2) | (show (Addr.add _ _).block ≠ _; rw [add_block]; exact hn568_2) | exact hn568_2) (.int .i64 ((rd_T44 l1 x92_3).f2))).trans hx568_0; replace hx568_0 := (cell_far (p := ⟨gb567, 3, none⟩) (by first | (rw [add_block]; exact hn568_3) | (show (Addr.add _ _).block ≠ _; rw [add_block]; exact hn568_3) | exact hn568_3) (.int .i64 ((rd_T44 l1 x92_3).f3))).trans hx568_0; (try have hy568_0 := fun (n_ : Nat) => (show ((((((w65.drewN n_).setCell ⟨gb567, 0, none⟩ (.int .i64 ((rd_T44 l1 x92_3).f0))).setCell ⟨gb567, 1, none⟩ (.int .i64 ((rd_T44 l1 x92_3).f1))).setCell ⟨gb567, 2, none⟩ (.int .i64 ((rd_T44 l1 x92_3).f2))).setCell ⟨gb567, 3, none⟩ (.int .i64 ((rd_T44 l1 x92_3).f3)))).cell? _ = some _ from hx568_0)); clear hn568_0; clear hn568_1; clear hn568_2; clear hn568_3; replace p568 := eq_true p568; replace q568 := eq_true q568; have p569 : 0 ≤ (((rd_T44 l1 x92_3).f1) : Int) := of_decide_eq_true (by first | (with_reducible assumption) | assumption); have q569 : ((rd_T44 l1 x92_3).f1) < (x9_1.length : Int) := of_decide_eq_true (by first | (with_reducible assumption) | assumption); obtain ⟨ad569, e569, hx569_0⟩ := Kd.at_int (Kd.R_reads' HO_9.out).2.2 ((rd_T44 l1 x92_3).f1) p569 q569; obtain rfl : ad568 = ad569 := (by injection e569); have hn569_0 : ad568.block ≠ gb567 := Kd.own_blk (Kd.R_ne HO_9.out BK567.out (by decide)); have hn569_1 : ad568.block ≠ gb567 := Kd.own_blk (Kd.R_ne HO_9.out BK567.out (by decide)); have hn569_2 : ad568.block ≠ gb567 := Kd.own_blk (Kd.R_ne HO_9.out BK567.out (by decide)); have hn569_3 : ad568.block ≠ gb567 := Kd.own_blk (Kd.R_ne HO_9.out BK567.out (by decide)); replace hx569_0 := (cell_far (p := ⟨gb567, 0, none⟩) (by first | (rw [add_block]; exact hn569_0) | (show (Addr.add _ _).block ≠ _; rw [add_block]; exact hn569_0) | exact hn569_0) (.int .i64 ((rd_T44 l1 x92_3).f0))).trans hx569_0; replace hx569_0 := (cell_far (p := ⟨gb567, 1, none⟩) (by first | (rw [add_block]; exact hn569_1) | (show (Addr.add _ _).block ≠ _; rw [add_block]; exact hn569_1) | exact hn569_1) (.int .i64 ((rd_T44 l1 x92_3).f1))).trans hx569_0; replace hx569_0 := (cell_far (p := ⟨gb567, 2, none⟩) (by first | (rw [add_block]; exact hn569_2) | (show (Addr.add _ _).block ≠ _; rw [add_block]; exact hn569_2) | exact hn569_2) (.int .i64 ((rd_T44 l1 x92_3).f2))).trans hx569_0; replace hx569_0 := (cell_far (p := ⟨gb567, 3, none⟩) (by first | (rw [add_block]; exact hn569_3) | (show (Addr.add _ _).block ≠ _; rw [add_block]; exact hn569_3) | exact hn569_3) (.int .i64 ((rd_T44 l1 x92_3).f3))).trans hx569_0; (try have hy569_0 := fun (n_ : Nat) => (show ((((((w65.drewN n_).setCell ⟨gb567, 0, none⟩ (.int .i64 ((rd_T44 l1 x92_3).f0))).setCell ⟨gb567, 1, none⟩ (.int .i64 ((rd_T44 l1 x92_3).f1))).setCell ⟨gb567, 2, none⟩ (.int .i64 ((rd_T44 l1 x92_3).f2))).setCell ⟨gb567, 3, none⟩ (.int .i64 ((rd_T44 l1 x92_3).f3)))).cell? _ = some _ from hx569_0)); clear hn569_0; clear hn569_1; clear hn569_2; clear hn569_3; replace p569 := eq_true p569; replace q569 := eq_true q569; have p570 : 0 ≤ (x15_3 : Int) := of_decide_eq_true (by first | (with_reducible assumption) | assumption); have q570 : x15_3 < (x9_1.length : Int) := of_decide_eq_true (by first | (with_reducible assumption) | assumption); obtain ⟨ad570, e570, hx570_0⟩ := Kd.at_int (Kd.R_reads' HO_9.out).2.2 x15_3 p570 q570; obtain rfl : ad568 = ad570 := (by injection e570); have hn570_0 : ad568.block ≠ gb567 := Kd.own_blk (Kd.R_ne HO_9.out BK567.out (by decide)); have hn570_1 : ad568.block ≠ gb567 := Kd.own_blk (Kd.R_ne HO_9.out BK567.out (by decide)); have hn570_2 : ad568.block ≠ gb567 := Kd.own_blk (Kd.R_ne HO_9.out BK567.out (by decide)); have hn570_3 : ad568.block ≠ gb567 := Kd.own_blk (Kd.R_ne HO_9.out BK567.out (by decide)); replace hx570_0 := (cell_far (p := ⟨gb567, 0, none⟩) (by first | (rw [add_block]; exact hn570_0) | (show (Addr.add _ _).block ≠ _; rw [add_block]; exact hn570_0) | exact hn570_0) (.int .i64 ((rd_T44 l1 x92_3).f0))).trans hx570_0; replace hx570_0 := (cell_far (p := ⟨gb567, 1, none⟩) (by first | (rw [add_block]; exact hn570_1) | (show (Addr.add _ _).block ≠ _; rw [add_block]; exact hn570_1) | exact hn570_1) (.int .i64 ((rd_T44 l1 x92_3).f1))).trans hx570_0; replace hx570_0 := (cell_far (p := ⟨gb567, 2, none⟩) (by first | (rw [add_block]; exact hn570_2) | (show (Addr.add _ _).block ≠ _; rw [add_block]; exact hn570_2) | exact hn570_2) (.int .i64 ((rd_T44 l1 x92_3).f2))).trans hx570_0; replace hx570_0 := (cell_far (p := ⟨gb567, 3, none⟩) (by first | (rw [add_block]; exact hn570_3) | (show (Addr.add _ _).block ≠ _; rw [add_block]; exact hn570_3) | exact hn570_3) (.int .i64 ((rd_T44 l1 x92_3).f3))).trans hx570_0; (try have hy570_0 := fun (n_ : Nat) => (show ((((((w65.drewN n_).setCell ⟨gb567, 0, none⟩ (.int .i64 ((rd_T44 l1 x92_3).f0))).setCell ⟨gb567, 1, none⟩ (.int .i64 ((rd_T44 l1 x92_3).f1))).setCell ⟨gb567, 2, none⟩ (.int .i64 ((rd_T44 l1 x92_3).f2))).setCell ⟨gb567, 3, none⟩ (.int .i64 ((rd_T44 l1 x92_3).f3)))).cell? _ = some _ from hx570_0)); clear hn570_0; clear hn570_1; clear hn570_2; clear hn570_3; replace p570 := eq_true p570; replace q570 := eq_true q570) | ((with_reducible refine gate_builtin (b := .append) (xs := #[.tmp 124, .tmp 126]) rfl ?_); at_builtin; refine Kd.R_append (Kd.int .i64) (w0 := w) w.heap.size rfl (.tmp 124) (.tmp 126) 30 2 (.int .i64 0) 8 rfl Try.underlying30 info2 rfl (by decide) (by omega) u14 x14_3 x92_3 [.int .i64 x92_3] (fun k_ => some k_ ≠ (.slice (some ad568) x9_1.length co67 : Value).ownBlock) (fun _ => False) rfl (by first | (go_simp; done) | (go_simp; rfl)) ?aP (fun _ hk => hk.elim) ?aF ?aO ?aB ?aS ?aL ?_; (case aP => exact rfl); (case aB => exact (by repeat (first | (with_reducible first | exact HB.out | apply below_alloc | apply pw_below_drewN | apply below_drew1 | refine below_set ?_ GE567.out) | exact HB.out))); (case aF => exact (fun k_ hk => Kd.fresh' (Kd.R_lt (by (with_reducible repeat (first | apply Kd.R_alloc | apply Kd.R_drewN | apply Kd.R_drew)); exact (Kd.R_mono (Kd.R_far (p := ⟨gb567, 3, none⟩) (Kd.R_far (p := ⟨gb567, 2, none⟩) (Kd.R_far (p := ⟨gb567, 1, none⟩) (Kd.R_far (p := ⟨gb567, 0, none⟩) (Kd.R_types HO_9.out BK567.out (by decide)) (fun _ hk => hk.2) (.int .i64 ((rd_T44 l1 x92_3).f0))) (fun _ hk => hk.2) (.int .i64 ((rd_T44 l1 x92_3).f1))) (fun _ hk => hk.2) (.int .i64 ((rd_T44 l1 x92_3).f2))) (fun _ hk => hk.2) (.int .i64 ((rd_T44 l1 x92_3).f3))) (fun _ h_ => h_.1)))) k_ hk)); (case aO => exact (by (with_reducible repeat (first | apply Kd.R_alloc | apply Kd.R_drewN | apply Kd.R_drew)); exact Kd.R_mono (Kd.R_far (p := ⟨gb567, 3, none⟩) (Kd.R_far (p := ⟨gb567, 2, none⟩) (Kd.R_far (p := ⟨gb567, 1, none⟩) (Kd.R_far (p := ⟨gb567, 0, none⟩) (Kd.R_types HO_14.out BK567.out (by decide)) (fun _ hk => hk.2) (.int .i64 ((rd_T44 l1 x92_3).f0))) (fun _ hk => hk.2) (.int .i64 ((rd_T44 l1 x92_3).f1))) (fun _ hk => hk.2) (.int .i64 ((rd_T44 l1 x92_3).f2))) (fun _ hk => hk.2) (.int .i64 ((rd_T44 l1 x92_3).f3))) (fun _ hk => hk.1))); (case aS => exact (below_size (by repeat (first | (with_reducible first | exact HB.out | apply below_alloc | apply pw_below_drewN | apply below_drew1 | refine below_set ?_ GE567.out) | exact HB.out)))); (case aL => have := LMc64.out; omega); intro v572 w68 ho hb hg hat; rw [← Ny571.out] at ho; have n0_ := Aside0.mk (Kd.R_after (ok := (fun _ => True)) (by (with_reducible repeat (first | apply Kd.R_alloc | apply Kd.R_drewN | apply Kd.R_drew)); exact Kd.R_mono (Kd.R_far (p := ⟨gb567, 3, none⟩) (Kd.R_far (p := ⟨gb567, 2, none⟩) (Kd.R_far (p := ⟨gb567, 1, none⟩) (Kd.R_far (p := ⟨gb567, 0, none⟩) (Kd.R_types HO_9.out BK567.out (by decide)) (fun _ hk => hk.2) (.int .i64 ((rd_T44 l1 x92_3).f0))) (fun _ hk => hk.2) (.int .i64 ((rd_T44 l1 x92_3).f1))) (fun _ hk => hk.2) (.int .i64 ((rd_T44 l1 x92_3).f2))) (fun _ hk => hk.2) (.int .i64 ((rd_T44 l1 x92_3).f3))) (fun _ hk => ⟨trivial, hk.1⟩)) hg hat); have n1_ := Aside0.mk (blk_grown (g := gb567) (o := .cells #[.int .i64 ((rd_T44 l1 x92_3).f0), .int .i64 ((rd_T44 l1 x92_3).f1), .int .i64 ((rd_T44 l1 x92_3).f2), .int .i64 ((rd_T44 l1 x92_3).f3)] 44 (0, 0)) (by (with_reducible repeat (first | refine blk_drewN ?_ _ | refine blk_drew ?_ | refine blk_alloc ?_ _)); refine blk_put (cs := #[.int .i64 ((rd_T44 l1 x92_3).f0), .int .i64 ((rd_T44 l1 x92_3).f1), .int .i64 ((rd_T44 l1 x92_3).f2), .int .i64 0]) ?_ 3 _ rfl; (with_reducible repeat (first | refine blk_drewN ?_ _ | refine blk_drew ?_ | refine blk_alloc ?_ _)); refine blk_put (cs := #[.int .i64 ((rd_T44 l1 x92_3).f0), .int .i64 ((rd_T44 l1 x92_3).f1), .int .i64 0, .int .i64 0]) ?_ 2 _ rfl; (with_reducible repeat (first | refine blk_drewN ?_ _ | refine blk_drew ?_ | refine blk_alloc ?_ _)); refine blk_put (cs := #[.int .i64 ((rd_T44 l1 x92_3).f0), .int .i64 0, .int .i64 0, .int .i64 0]) ?_ 1 _ rfl; (with_reducible repeat (first | refine blk_drewN ?_ _ | refine blk_drew ?_ | refine blk_alloc ?_ _)); refine blk_put (cs := #[.int .i64 0, .int .i64 0, .int .i64 0, .int .i64 0]) ?_ 0 _ rfl; (with_reducible repeat (first | refine blk_drewN ?_ _ | refine blk_drew ?_ | refine blk_alloc ?_ _)); exact BK567.out) hg (Kd.R_ne HO_14.out BK567.out (by decide))); have n2_ := Aside0.mk (hb); have n3_ := Aside0.mk (ho); clear HO_9; clear BK567; clear HB; clear HO_14; have HO_9 := n0_; have BK567 := n1_; have HB := n2_; have HO573 := n3_; clear n0_ n1_ n2_ n3_; clear ho hb hg hat; have hcz69_0 : w68.cell? ⟨gb567, 0, none⟩ = some (.int .i64 ((rd_T44 l1 x92_3).f0)) := (blk_cell BK567.out 0).trans rfl; have hcz69_1 : w68.cell? ⟨gb567, 1, none⟩ = some (.int .i64 ((rd_T44 l1 x92_3).f1)) := (blk_cell BK567.out 1).trans rfl; have hcz69_2 : w68.cell? ⟨gb567, 2, none⟩ = some (.int .i64 ((rd_T44 l1 x92_3).f2)) := (blk_cell BK567.out 2).trans rfl; have hcz69_3 : w68.cell? ⟨gb567, 3, none⟩ = some (.int .i64 ((rd_T44 l1 x92_3).f3)) := (blk_cell BK567.out 3).trans rfl; have hfz69_0 := blk_frozen BK567.out 0; have hfz69_1 := blk_frozen BK567.out 1; have hfz69_2 := blk_frozen BK567.out 2; have hfz69_3 := blk_frozen BK567.out 3)))
                       go_roundg k3
                       case measure => have := HK1.out; have := HK2.out; have := HK3.out; omega
                       case rel => exact ⟨(y571), ((rd_T44 l1 x92_3).f1), (by first | rfl | (simp; done) | (simp [*]; done)), H', ⟨by have := HK1.out; have := HK2.out; have := HK3.out; omega⟩, ⟨by (with_reducible repeat (first | apply Kd.R_alloc | apply Kd.R_drewN | apply Kd.R_drew)); exact Kd.R_mono HO_9.out (fun _ hk => hk.2)⟩, ⟨by (with_reducible repeat (first | apply Kd.R_alloc | apply Kd.R_drewN | apply Kd.R_drew)); exact HO573.out⟩, ⟨by repeat (first | (with_reducible first | exact HB.out | apply below_alloc | apply pw_below_drewN | apply below_drew1 | refine below_set ?_ GE567.out | refine below_set ?_ GB17.out) | exact HB.out)⟩⟩
                      ·rw [if_neg c64] at H
                       exact absurd H (by simp)
                     ·rw [if_neg c63] at H
                      have c63b0 : ((wrap64 (((rd_T44 l1 x92_3).f2) + (rd x9_1 ((rd_T44 l1 x92_3).f1)))) == (rd x9_1 x15_3)) = false := beq_eq_false_iff_ne.mpr c63
                      have c63b1 : ((wrap64 (((rd_T44 l1 x92_3).f2) + (rd x9_1 ((rd_T44 l1 x92_3).f1)))) != (rd x9_1 x15_3)) = true := bne_iff_ne.mpr c63
                      have H' := Aside0.mk H
                      clear H
                      have p566 : 0 ≤ (x92_3 : Int) := of_decide_eq_true (by first | (with_reducible assumption) | assumption)
                      have q566 : x92_3 < (l1.length : Int) := of_decide_eq_true (by first | (with_reducible assumption) | assumption)
                      obtain ⟨ad566, e566, hx566_0, hx566_1, hx566_2, hx566_3⟩ := at_T44 HR1.out x92_3 p566 q566
                      cases e566
                      replace hx566_0 := (HB.out.cell (World.block_lt_of_cell? w _ hx566_0)).trans hx566_0
                      replace hx566_1 := (HB.out.cell (World.block_lt_of_cell? w _ hx566_1)).trans hx566_1
                      replace hx566_2 := (HB.out.cell (World.block_lt_of_cell? w _ hx566_2)).trans hx566_2
                      replace hx566_3 := (HB.out.cell (World.block_lt_of_cell? w _ hx566_3)).trans hx566_3
                      replace p566 := eq_true p566
                      replace q566 := eq_true q566
                      go_wp2_with (first | ((with_reducible refine gate_dst (N := 17) rfl ?_); refine box_event ?hg (N := 17) ?hd (cs := #[.int .i64 0, .int .i64 0, .int .i64 0, .int .i64 0]) (t := 44) ?hr ?_; (case hd => rfl); (case hg => rfl); (case hr => first | (go_simp; done) | (go_simp; rfl)); intro gb567 hg w70 hbox hb; have n0_ := Aside0.mk (Kd.R_below (by (with_reducible repeat (first | apply Kd.R_alloc | apply Kd.R_drewN | apply Kd.R_drew)); exact HO_9.out) hb); have n1_ := Aside0.mk (Kd.R_below (by (with_reducible repeat (first | apply Kd.R_alloc | apply Kd.R_drewN | apply Kd.R_drew)); exact HO_14.out) hb); have n2_ := Aside0.mk (below_step (by repeat (first | (with_reducible first | exact HB.out | apply below_alloc | apply pw_below_drewN | apply below_drew1) | exact HB.out)) hb); have n3_ := Aside0.mk (hbox); have n4_ := Aside0.mk ((by rw [hg]; exact (below_size (by repeat (first | (with_reducible first | exact HB.out | apply below_alloc | apply pw_below_drewN | apply below_drew1) | exact HB.out))) : w.heap.size ≤ gb567)); have n5_ := Aside0.mk ((by rw [hg]; exact (below_size (by repeat (first | (with_reducible first | exact HB.out | apply below_alloc | apply pw_below_drewN | apply below_drew1) | exact HB.out))) : w.heap.size ≤ gb567)); clear HO_9; clear HO_14; clear HB; have HO_9 := n0_; have HO_14 := n1_; have HB := n2_; have BK567 := n3_; have GW567 := n4_; have GE567 := n5_; clear n0_ n1_ n2_ n3_ n4_ n5_; clear hb hbox hg; have hcz71_0 : w70.cell? ⟨gb567, 0, none⟩ = some (.int .i64 0) := (blk_cell BK567.out 0).trans rfl; have hcz71_1 : w70.cell? ⟨gb567, 1, none⟩ = some (.int .i64 0) := (blk_cell BK567.out 1).trans rfl; have hcz71_2 : w70.cell? ⟨gb567, 2, none⟩ = some (.int .i64 0) := (blk_cell BK567.out 2).trans rfl; have hcz71_3 : w70.cell? ⟨gb567, 3, none⟩ = some (.int .i64 0) := (blk_cell BK567.out 3).trans rfl; have hfz71_0 := blk_frozen BK567.out 0; have hfz71_1 := blk_frozen BK567.out 1; have hfz71_2 := blk_frozen BK567.out 2; have hfz71_3 := blk_frozen BK567.out 3; obtain ⟨Ao72, co72, eo72⟩ := Kd.R_slice HO_9.out; subst eo72; have p568 : 0 ≤ (((rd_T44 l1 x92_3).f1) : Int) := of_decide_eq_true (by first | (with_reducible assumption) | assumption); have q568 : ((rd_T44 l1 x92_3).f1) < (x9_1.length : Int) := of_decide_eq_true (by first | (with_reducible assumption) | assumption); obtain ⟨ad568, e568, hx568_0⟩ := Kd.at_int (Kd.R_reads' HO_9.out).2.2 ((rd_T44 l1 x92_3).f1) p568 q568; cases e568; have hn568_0 : ad568.block ≠ gb567 := Kd.own_blk (Kd.R_ne HO_9.out BK567.out (by decide)); have hn568_1 : ad568.block ≠ gb567 := Kd.own_blk (Kd.R_ne HO_9.out BK567.out (by decide)); have hn568_2 : ad568.block ≠ gb567 := Kd.own_blk (Kd.R_ne HO_9.out BK567.out (by decide)); have hn568_3 : ad568.block ≠ gb567 := Kd.own_blk (Kd.R_ne HO_9.out BK567.out (by decide)); replace hx568_0 := (cell_far (p := ⟨gb567, 0, none⟩) (by first | (rw [add_block]; exact hn568_0) | (show (Addr.add _ _).block ≠ _; rw [add_block]; exact hn568_0) | exact hn568_0) (.int .i64 ((rd_T44 l1 x92_3).f0))).trans hx568_0; replace hx568_0 := (cell_far (p := ⟨gb567, 1, none⟩) (by first | (rw [add_block]; exact hn568_1) | (show (Addr.add _ _).block ≠ _; rw [add_block]; exact hn568_1) | exact hn568_1) (.int .i64 ((rd_T44 l1 x92_3).f1))).trans hx568_0; replace hx568_0 := (cell_far (p := ⟨gb567, 2, none⟩) (by first | (rw [add_block]; exact hn568_2) | (show (Addr.add _ _).block ≠ _; rw [add_block]; exact hn568_2) | exact hn568_2) (.int .i64 ((rd_T44 l1 x92_3).f2))).trans hx568_0; replace hx568_0 := (cell_far (p := ⟨gb567, 3, none⟩) (by first | (rw [add_block]; exact hn568_3) | (show (Addr.add _ _).block ≠ _; rw [add_block]; exact hn568_3) | exact hn568_3) (.int .i64 ((rd_T44 l1 x92_3).f3))).trans hx568_0; (try have hy568_0 := fun (n_ : Nat) => (show ((((((w70.drewN n_).setCell ⟨gb567, 0, none⟩ (.int .i64 ((rd_T44 l1 x92_3).f0))).setCell ⟨gb567, 1, none⟩ (.int .i64 ((rd_T44 l1 x92_3).f1))).setCell ⟨gb567, 2, none⟩ (.int .i64 ((rd_T44 l1 x92_3).f2))).setCell ⟨gb567, 3, none⟩ (.int .i64 ((rd_T44 l1 x92_3).f3)))).cell? _ = some _ from hx568_0)); clear hn568_0; clear hn568_1; clear hn568_2; clear hn568_3; replace p568 := eq_true p568; replace q568 := eq_true q568; have p569 : 0 ≤ (((rd_T44 l1 x92_3).f1) : Int) := of_decide_eq_true (by first | (with_reducible assumption) | assumption); have q569 : ((rd_T44 l1 x92_3).f1) < (x9_1.length : Int) := of_decide_eq_true (by first | (with_reducible assumption) | assumption); obtain ⟨ad569, e569, hx569_0⟩ := Kd.at_int (Kd.R_reads' HO_9.out).2.2 ((rd_T44 l1 x92_3).f1) p569 q569; obtain rfl : ad568 = ad569 := (by injection e569); have hn569_0 : ad568.block ≠ gb567 := Kd.own_blk (Kd.R_ne HO_9.out BK567.out (by decide)); have hn569_1 : ad568.block ≠ gb567 := Kd.own_blk (Kd.R_ne HO_9.out BK567.out (by decide)); have hn569_2 : ad568.block ≠ gb567 := Kd.own_blk (Kd.R_ne HO_9.out BK567.out (by decide)); have hn569_3 : ad568.block ≠ gb567 := Kd.own_blk (Kd.R_ne HO_9.out BK567.out (by decide)); replace hx569_0 := (cell_far (p := ⟨gb567, 0, none⟩) (by first | (rw [add_block]; exact hn569_0) | (show (Addr.add _ _).block ≠ _; rw [add_block]; exact hn569_0) | exact hn569_0) (.int .i64 ((rd_T44 l1 x92_3).f0))).trans hx569_0; replace hx569_0 := (cell_far (p := ⟨gb567, 1, none⟩) (by first | (rw [add_block]; exact hn569_1) | (show (Addr.add _ _).block ≠ _; rw [add_block]; exact hn569_1) | exact hn569_1) (.int .i64 ((rd_T44 l1 x92_3).f1))).trans hx569_0; replace hx569_0 := (cell_far (p := ⟨gb567, 2, none⟩) (by first | (rw [add_block]; exact hn569_2) | (show (Addr.add _ _).block ≠ _; rw [add_block]; exact hn569_2) | exact hn569_2) (.int .i64 ((rd_T44 l1 x92_3).f2))).trans hx569_0; replace hx569_0 := (cell_far (p := ⟨gb567, 3, none⟩) (by first | (rw [add_block]; exact hn569_3) | (show (Addr.add _ _).block ≠ _; rw [add_block]; exact hn569_3) | exact hn569_3) (.int .i64 ((rd_T44 l1 x92_3).f3))).trans hx569_0; (try have hy569_0 := fun (n_ : Nat) => (show ((((((w70.drewN n_).setCell ⟨gb567, 0, none⟩ (.int .i64 ((rd_T44 l1 x92_3).f0))).setCell ⟨gb567, 1, none⟩ (.int .i64 ((rd_T44 l1 x92_3).f1))).setCell ⟨gb567, 2, none⟩ (.int .i64 ((rd_T44 l1 x92_3).f2))).setCell ⟨gb567, 3, none⟩ (.int .i64 ((rd_T44 l1 x92_3).f3)))).cell? _ = some _ from hx569_0)); clear hn569_0; clear hn569_1; clear hn569_2; clear hn569_3; replace p569 := eq_true p569; replace q569 := eq_true q569; have p570 : 0 ≤ (x15_3 : Int) := of_decide_eq_true (by first | (with_reducible assumption) | assumption); have q570 : x15_3 < (x9_1.length : Int) := of_decide_eq_true (by first | (with_reducible assumption) | assumption); obtain ⟨ad570, e570, hx570_0⟩ := Kd.at_int (Kd.R_reads' HO_9.out).2.2 x15_3 p570 q570; obtain rfl : ad568 = ad570 := (by injection e570); have hn570_0 : ad568.block ≠ gb567 := Kd.own_blk (Kd.R_ne HO_9.out BK567.out (by decide)); have hn570_1 : ad568.block ≠ gb567 := Kd.own_blk (Kd.R_ne HO_9.out BK567.out (by decide)); have hn570_2 : ad568.block ≠ gb567 := Kd.own_blk (Kd.R_ne HO_9.out BK567.out (by decide)); have hn570_3 : ad568.block ≠ gb567 := Kd.own_blk (Kd.R_ne HO_9.out BK567.out (by decide)); replace hx570_0 := (cell_far (p := ⟨gb567, 0, none⟩) (by first | (rw [add_block]; exact hn570_0) | (show (Addr.add _ _).block ≠ _; rw [add_block]; exact hn570_0) | exact hn570_0) (.int .i64 ((rd_T44 l1 x92_3).f0))).trans hx570_0; replace hx570_0 := (cell_far (p := ⟨gb567, 1, none⟩) (by first | (rw [add_block]; exact hn570_1) | (show (Addr.add _ _).block ≠ _; rw [add_block]; exact hn570_1) | exact hn570_1) (.int .i64 ((rd_T44 l1 x92_3).f1))).trans hx570_0; replace hx570_0 := (cell_far (p := ⟨gb567, 2, none⟩) (by first | (rw [add_block]; exact hn570_2) | (show (Addr.add _ _).block ≠ _; rw [add_block]; exact hn570_2) | exact hn570_2) (.int .i64 ((rd_T44 l1 x92_3).f2))).trans hx570_0; replace hx570_0 := (cell_far (p := ⟨gb567, 3, none⟩) (by first | (rw [add_block]; exact hn570_3) | (show (Addr.add _ _).block ≠ _; rw [add_block]; exact hn570_3) | exact hn570_3) (.int .i64 ((rd_T44 l1 x92_3).f3))).trans hx570_0; (try have hy570_0 := fun (n_ : Nat) => (show ((((((w70.drewN n_).setCell ⟨gb567, 0, none⟩ (.int .i64 ((rd_T44 l1 x92_3).f0))).setCell ⟨gb567, 1, none⟩ (.int .i64 ((rd_T44 l1 x92_3).f1))).setCell ⟨gb567, 2, none⟩ (.int .i64 ((rd_T44 l1 x92_3).f2))).setCell ⟨gb567, 3, none⟩ (.int .i64 ((rd_T44 l1 x92_3).f3)))).cell? _ = some _ from hx570_0)); clear hn570_0; clear hn570_1; clear hn570_2; clear hn570_3; replace p570 := eq_true p570; replace q570 := eq_true q570))
                      repeat (go_quiet (first | ((with_reducible refine gate_dst (N := 17) rfl ?_); refine box_event ?hg (N := 17) ?hd (cs := #[.int .i64 0, .int .i64 0, .int .i64 0, .int .i64 0]) (t := 44) ?hr ?_; (case hd => rfl); (case hg => rfl); (case hr => first | (go_simp; done) | (go_simp; rfl)); intro gb567 hg w70 hbox hb; have n0_ := Aside0.mk (Kd.R_below (by (with_reducible repeat (first | apply Kd.R_alloc | apply Kd.R_drewN | apply Kd.R_drew)); exact HO_9.out) hb); have n1_ := Aside0.mk (Kd.R_below (by (with_reducible repeat (first | apply Kd.R_alloc | apply Kd.R_drewN | apply Kd.R_drew)); exact HO_14.out) hb); have n2_ := Aside0.mk (below_step (by repeat (first | (with_reducible first | exact HB.out | apply below_alloc | apply pw_below_drewN | apply below_drew1) | exact HB.out)) hb); have n3_ := Aside0.mk (hbox); have n4_ := Aside0.mk ((by rw [hg]; exact (below_size (by repeat (first | (with_reducible first | exact HB.out | apply below_alloc | apply pw_below_drewN | apply below_drew1) | exact HB.out))) : w.heap.size ≤ gb567)); have n5_ := Aside0.mk ((by rw [hg]; exact (below_size (by repeat (first | (with_reducible first | exact HB.out | apply below_alloc | apply pw_below_drewN | apply below_drew1) | exact HB.out))) : w.heap.size ≤ gb567)); clear HO_9; clear HO_14; clear HB; have HO_9 := n0_; have HO_14 := n1_; have HB := n2_; have BK567 := n3_; have GW567 := n4_; have GE567 := n5_; clear n0_ n1_ n2_ n3_ n4_ n5_; clear hb hbox hg; have hcz71_0 : w70.cell? ⟨gb567, 0, none⟩ = some (.int .i64 0) := (blk_cell BK567.out 0).trans rfl; have hcz71_1 : w70.cell? ⟨gb567, 1, none⟩ = some (.int .i64 0) := (blk_cell BK567.out 1).trans rfl; have hcz71_2 : w70.cell? ⟨gb567, 2, none⟩ = some (.int .i64 0) := (blk_cell BK567.out 2).trans rfl; have hcz71_3 : w70.cell? ⟨gb567, 3, none⟩ = some (.int .i64 0) := (blk_cell BK567.out 3).trans rfl; have hfz71_0 := blk_frozen BK567.out 0; have hfz71_1 := blk_frozen BK567.out 1; have hfz71_2 := blk_frozen BK567.out 2; have hfz71_3 := blk_frozen BK567.out 3; obtain ⟨Ao72, co72, eo72⟩ := Kd.R_slice HO_9.out; subst eo72; have p568 : 0 ≤ (((rd_T44 l1 x92_3).f1) : Int) := of_decide_eq_true (by first | (with_reducible assumption) | assumption); have q568 : ((rd_T44 l1 x92_3).f1) < (x9_1.length : Int) := of_decide_eq_true (by first | (with_reducible assumption) | assumption); obtain ⟨ad568, e568, hx568_0⟩ := Kd.at_int (Kd.R_reads' HO_9.out).2.2 ((rd_T44 l1 x92_3).f1) p568 q568; cases e568; have hn568_0 : ad568.block ≠ gb567 := Kd.own_blk (Kd.R_ne HO_9.out BK567.out (by decide)); have hn568_1 : ad568.block ≠ gb567 := Kd.own_blk (Kd.R_ne HO_9.out BK567.out (by decide)); have hn568_2 : ad568.block ≠ gb567 := Kd.own_blk (Kd.R_ne HO_9.out BK567.out (by decide)); have hn568_3 : ad568.block ≠ gb567 := Kd.own_blk (Kd.R_ne HO_9.out BK567.out (by decide)); replace hx568_0 := (cell_far (p := ⟨gb567, 0, none⟩) (by first | (rw [add_block]; exact hn568_0) | (show (Addr.add _ _).block ≠ _; rw [add_block]; exact hn568_0) | exact hn568_0) (.int .i64 ((rd_T44 l1 x92_3).f0))).trans hx568_0; replace hx568_0 := (cell_far (p := ⟨gb567, 1, none⟩) (by first | (rw [add_block]; exact hn568_1) | (show (Addr.add _ _).block ≠ _; rw [add_block]; exact hn568_1) | exact hn568_1) (.int .i64 ((rd_T44 l1 x92_3).f1))).trans hx568_0; replace hx568_0 := (cell_far (p := ⟨gb567, 2, none⟩) (by first | (rw [add_block]; exact hn568_2) | (show (Addr.add _ _).block ≠ _; rw [add_block]; exact hn568_2) | exact hn568_2) (.int .i64 ((rd_T44 l1 x92_3).f2))).trans hx568_0; replace hx568_0 := (cell_far (p := ⟨gb567, 3, none⟩) (by first | (rw [add_block]; exact hn568_3) | (show (Addr.add _ _).block ≠ _; rw [add_block]; exact hn568_3) | exact hn568_3) (.int .i64 ((rd_T44 l1 x92_3).f3))).trans hx568_0; (try have hy568_0 := fun (n_ : Nat) => (show ((((((w70.drewN n_).setCell ⟨gb567, 0, none⟩ (.int .i64 ((rd_T44 l1 x92_3).f0))).setCell ⟨gb567, 1, none⟩ (.int .i64 ((rd_T44 l1 x92_3).f1))).setCell ⟨gb567, 2, none⟩ (.int .i64 ((rd_T44 l1 x92_3).f2))).setCell ⟨gb567, 3, none⟩ (.int .i64 ((rd_T44 l1 x92_3).f3)))).cell? _ = some _ from hx568_0)); clear hn568_0; clear hn568_1; clear hn568_2; clear hn568_3; replace p568 := eq_true p568; replace q568 := eq_true q568; have p569 : 0 ≤ (((rd_T44 l1 x92_3).f1) : Int) := of_decide_eq_true (by first | (with_reducible assumption) | assumption); have q569 : ((rd_T44 l1 x92_3).f1) < (x9_1.length : Int) := of_decide_eq_true (by first | (with_reducible assumption) | assumption); obtain ⟨ad569, e569, hx569_0⟩ := Kd.at_int (Kd.R_reads' HO_9.out).2.2 ((rd_T44 l1 x92_3).f1) p569 q569; obtain rfl : ad568 = ad569 := (by injection e569); have hn569_0 : ad568.block ≠ gb567 := Kd.own_blk (Kd.R_ne HO_9.out BK567.out (by decide)); have hn569_1 : ad568.block ≠ gb567 := Kd.own_blk (Kd.R_ne HO_9.out BK567.out (by decide)); have hn569_2 : ad568.block ≠ gb567 := Kd.own_blk (Kd.R_ne HO_9.out BK567.out (by decide)); have hn569_3 : ad568.block ≠ gb567 := Kd.own_blk (Kd.R_ne HO_9.out BK567.out (by decide)); replace hx569_0 := (cell_far (p := ⟨gb567, 0, none⟩) (by first | (rw [add_block]; exact hn569_0) | (show (Addr.add _ _).block ≠ _; rw [add_block]; exact hn569_0) | exact hn569_0) (.int .i64 ((rd_T44 l1 x92_3).f0))).trans hx569_0; replace hx569_0 := (cell_far (p := ⟨gb567, 1, none⟩) (by first | (rw [add_block]; exact hn569_1) | (show (Addr.add _ _).block ≠ _; rw [add_block]; exact hn569_1) | exact hn569_1) (.int .i64 ((rd_T44 l1 x92_3).f1))).trans hx569_0; replace hx569_0 := (cell_far (p := ⟨gb567, 2, none⟩) (by first | (rw [add_block]; exact hn569_2) | (show (Addr.add _ _).block ≠ _; rw [add_block]; exact hn569_2) | exact hn569_2) (.int .i64 ((rd_T44 l1 x92_3).f2))).trans hx569_0; replace hx569_0 := (cell_far (p := ⟨gb567, 3, none⟩) (by first | (rw [add_block]; exact hn569_3) | (show (Addr.add _ _).block ≠ _; rw [add_block]; exact hn569_3) | exact hn569_3) (.int .i64 ((rd_T44 l1 x92_3).f3))).trans hx569_0; (try have hy569_0 := fun (n_ : Nat) => (show ((((((w70.drewN n_).setCell ⟨gb567, 0, none⟩ (.int .i64 ((rd_T44 l1 x92_3).f0))).setCell ⟨gb567, 1, none⟩ (.int .i64 ((rd_T44 l1 x92_3).f1))).setCell ⟨gb567, 2, none⟩ (.int .i64 ((rd_T44 l1 x92_3).f2))).setCell ⟨gb567, 3, none⟩ (.int .i64 ((rd_T44 l1 x92_3).f3)))).cell? _ = some _ from hx569_0)); clear hn569_0; clear hn569_1; clear hn569_2; clear hn569_3; replace p569 := eq_true p569; replace q569 := eq_true q569; have p570 : 0 ≤ (x15_3 : Int) := of_decide_eq_true (by first | (with_reducible assumption) | assumption); have q570 : x15_3 < (x9_1.length : Int) := of_decide_eq_true (by first | (with_reducible assumption) | assumption); obtain ⟨ad570, e570, hx570_0⟩ := Kd.at_int (Kd.R_reads' HO_9.out).2.2 x15_3 p570 q570; obtain rfl : ad568 = ad570 := (by injection e570); have hn570_0 : ad568.block ≠ gb567 := Kd.own_blk (Kd.R_ne HO_9.out BK567.out (by decide)); have hn570_1 : ad568.block ≠ gb567 := Kd.own_blk (Kd.R_ne HO_9.out BK567.out (by decide)); have hn570_2 : ad568.block ≠ gb567 := Kd.own_blk (Kd.R_ne HO_9.out BK567.out (by decide)); have hn570_3 : ad568.block ≠ gb567 := Kd.own_blk (Kd.R_ne HO_9.out BK567.out (by decide)); replace hx570_0 := (cell_far (p := ⟨gb567, 0, none⟩) (by first | (rw [add_block]; exact hn570_0) | (show (Addr.add _ _).block ≠ _; rw [add_block]; exact hn570_0) | exact hn570_0) (.int .i64 ((rd_T44 l1 x92_3).f0))).trans hx570_0; replace hx570_0 := (cell_far (p := ⟨gb567, 1, none⟩) (by first | (rw [add_block]; exact hn570_1) | (show (Addr.add _ _).block ≠ _; rw [add_block]; exact hn570_1) | exact hn570_1) (.int .i64 ((rd_T44 l1 x92_3).f1))).trans hx570_0; replace hx570_0 := (cell_far (p := ⟨gb567, 2, none⟩) (by first | (rw [add_block]; exact hn570_2) | (show (Addr.add _ _).block ≠ _; rw [add_block]; exact hn570_2) | exact hn570_2) (.int .i64 ((rd_T44 l1 x92_3).f2))).trans hx570_0; replace hx570_0 := (cell_far (p := ⟨gb567, 3, none⟩) (by first | (rw [add_block]; exact hn570_3) | (show (Addr.add _ _).block ≠ _; rw [add_block]; exact hn570_3) | exact hn570_3) (.int .i64 ((rd_T44 l1 x92_3).f3))).trans hx570_0; (try have hy570_0 := fun (n_ : Nat) => (show ((((((w70.drewN n_).setCell ⟨gb567, 0, none⟩ (.int .i64 ((rd_T44 l1 x92_3).f0))).setCell ⟨gb567, 1, none⟩ (.int .i64 ((rd_T44 l1 x92_3).f1))).setCell ⟨gb567, 2, none⟩ (.int .i64 ((rd_T44 l1 x92_3).f2))).setCell ⟨gb567, 3, none⟩ (.int .i64 ((rd_T44 l1 x92_3).f3)))).cell? _ = some _ from hx570_0)); clear hn570_0; clear hn570_1; clear hn570_2; clear hn570_3; replace p570 := eq_true p570; replace q570 := eq_true q570)); try go_wp2_with (first | ((with_reducible refine gate_dst (N := 17) rfl ?_); refine box_event ?hg (N := 17) ?hd (cs := #[.int .i64 0, .int .i64 0, .int .i64 0, .int .i64 0]) (t := 44) ?hr ?_; (case hd => rfl); (case hg => rfl); (case hr => first | (go_simp; done) | (go_simp; rfl)); intro gb567 hg w70 hbox hb; have n0_ := Aside0.mk (Kd.R_below (by (with_reducible repeat (first | apply Kd.R_alloc | apply Kd.R_drewN | apply Kd.R_drew)); exact HO_9.out) hb); have n1_ := Aside0.mk (Kd.R_below (by (with_reducible repeat (first | apply Kd.R_alloc | apply Kd.R_drewN | apply Kd.R_drew)); exact HO_14.out) hb); have n2_ := Aside0.mk (below_step (by repeat (first | (with_reducible first | exact HB.out | apply below_alloc | apply pw_below_drewN | apply below_drew1) | exact HB.out)) hb); have n3_ := Aside0.mk (hbox); have n4_ := Aside0.mk ((by rw [hg]; exact (below_size (by repeat (first | (with_reducible first | exact HB.out | apply below_alloc | apply pw_below_drewN | apply below_drew1) | exact HB.out))) : w.heap.size ≤ gb567)); have n5_ := Aside0.mk ((by rw [hg]; exact (below_size (by repeat (first | (with_reducible first | exact HB.out | apply below_alloc | apply pw_below_drewN | apply below_drew1) | exact HB.out))) : w.heap.size ≤ gb567)); clear HO_9; clear HO_14; clear HB; have HO_9 := n0_; have HO_14 := n1_; have HB := n2_; have BK567 := n3_; have GW567 := n4_; have GE567 := n5_; clear n0_ n1_ n2_ n3_ n4_ n5_; clear hb hbox hg; have hcz71_0 : w70.cell? ⟨gb567, 0, none⟩ = some (.int .i64 0) := (blk_cell BK567.out 0).trans rfl; have hcz71_1 : w70.cell? ⟨gb567, 1, none⟩ = some (.int .i64 0) := (blk_cell BK567.out 1).trans rfl; have hcz71_2 : w70.cell? ⟨gb567, 2, none⟩ = some (.int .i64 0) := (blk_cell BK567.out 2).trans rfl; have hcz71_3 : w70.cell? ⟨gb567, 3, none⟩ = some (.int .i64 0) := (blk_cell BK567.out 3).trans rfl; have hfz71_0 := blk_frozen BK567.out 0; have hfz71_1 := blk_frozen BK567.out 1; have hfz71_2 := blk_frozen BK567.out 2; have hfz71_3 := blk_frozen BK567.out 3; obtain ⟨Ao72, co72, eo72⟩ := Kd.R_slice HO_9.out; subst eo72; have p568 : 0 ≤ (((rd_T44 l1 x92_3).f1) : Int) := of_decide_eq_true (by first | (with_reducible assumption) | assumption); have q568 : ((rd_T44 l1 x92_3).f1) < (x9_1.length : Int) := of_decide_eq_true (by first | (with_reducible assumption) | assumption); obtain ⟨ad568, e568, hx568_0⟩ := Kd.at_int (Kd.R_reads' HO_9.out).2.2 ((rd_T44 l1 x92_3).f1) p568 q568; cases e568; have hn568_0 : ad568.block ≠ gb567 := Kd.own_blk (Kd.R_ne HO_9.out BK567.out (by decide)); have hn568_1 : ad568.block ≠ gb567 := Kd.own_blk (Kd.R_ne HO_9.out BK567.out (by decide)); have hn568_2 : ad568.block ≠ gb567 := Kd.own_blk (Kd.R_ne HO_9.out BK567.out (by decide)); have hn568_3 : ad568.block ≠ gb567 := Kd.own_blk (Kd.R_ne HO_9.out BK567.out (by decide)); replace hx568_0 := (cell_far (p := ⟨gb567, 0, none⟩) (by first | (rw [add_block]; exact hn568_0) | (show (Addr.add _ _).block ≠ _; rw [add_block]; exact hn568_0) | exact hn568_0) (.int .i64 ((rd_T44 l1 x92_3).f0))).trans hx568_0; replace hx568_0 := (cell_far (p := ⟨gb567, 1, none⟩) (by first | (rw [add_block]; exact hn568_1) | (show (Addr.add _ _).block ≠ _; rw [add_block]; exact hn568_1) | exact hn568_1) (.int .i64 ((rd_T44 l1 x92_3).f1))).trans hx568_0; replace hx568_0 := (cell_far (p := ⟨gb567, 2, none⟩) (by first | (rw [add_block]; exact hn568_2) | (show (Addr.add _ _).block ≠ _; rw [add_block]; exact hn568_2) | exact hn568_2) (.int .i64 ((rd_T44 l1 x92_3).f2))).trans hx568_0; replace hx568_0 := (cell_far (p := ⟨gb567, 3, none⟩) (by first | (rw [add_block]; exact hn568_3) | (show (Addr.add _ _).block ≠ _; rw [add_block]; exact hn568_3) | exact hn568_3) (.int .i64 ((rd_T44 l1 x92_3).f3))).trans hx568_0; (try have hy568_0 := fun (n_ : Nat) => (show ((((((w70.drewN n_).setCell ⟨gb567, 0, none⟩ (.int .i64 ((rd_T44 l1 x92_3).f0))).setCell ⟨gb567, 1, none⟩ (.int .i64 ((rd_T44 l1 x92_3).f1))).setCell ⟨gb567, 2, none⟩ (.int .i64 ((rd_T44 l1 x92_3).f2))).setCell ⟨gb567, 3, none⟩ (.int .i64 ((rd_T44 l1 x92_3).f3)))).cell? _ = some _ from hx568_0)); clear hn568_0; clear hn568_1; clear hn568_2; clear hn568_3; replace p568 := eq_true p568; replace q568 := eq_true q568; have p569 : 0 ≤ (((rd_T44 l1 x92_3).f1) : Int) := of_decide_eq_true (by first | (with_reducible assumption) | assumption); have q569 : ((rd_T44 l1 x92_3).f1) < (x9_1.length : Int) := of_decide_eq_true (by first | (with_reducible assumption) | assumption); obtain ⟨ad569, e569, hx569_0⟩ := Kd.at_int (Kd.R_reads' HO_9.out).2.2 ((rd_T44 l1 x92_3).f1) p569 q569; obtain rfl : ad568 = ad569 := (by injection e569); have hn569_0 : ad568.block ≠ gb567 := Kd.own_blk (Kd.R_ne HO_9.out BK567.out (by decide)); have hn569_1 : ad568.block ≠ gb567 := Kd.own_blk (Kd.R_ne HO_9.out BK567.out (by decide)); have hn569_2 : ad568.block ≠ gb567 := Kd.own_blk (Kd.R_ne HO_9.out BK567.out (by decide)); have hn569_3 : ad568.block ≠ gb567 := Kd.own_blk (Kd.R_ne HO_9.out BK567.out (by decide)); replace hx569_0 := (cell_far (p := ⟨gb567, 0, none⟩) (by first | (rw [add_block]; exact hn569_0) | (show (Addr.add _ _).block ≠ _; rw [add_block]; exact hn569_0) | exact hn569_0) (.int .i64 ((rd_T44 l1 x92_3).f0))).trans hx569_0; replace hx569_0 := (cell_far (p := ⟨gb567, 1, none⟩) (by first | (rw [add_block]; exact hn569_1) | (show (Addr.add _ _).block ≠ _; rw [add_block]; exact hn569_1) | exact hn569_1) (.int .i64 ((rd_T44 l1 x92_3).f1))).trans hx569_0; replace hx569_0 := (cell_far (p := ⟨gb567, 2, none⟩) (by first | (rw [add_block]; exact hn569_2) | (show (Addr.add _ _).block ≠ _; rw [add_block]; exact hn569_2) | exact hn569_2) (.int .i64 ((rd_T44 l1 x92_3).f2))).trans hx569_0; replace hx569_0 := (cell_far (p := ⟨gb567, 3, none⟩) (by first | (rw [add_block]; exact hn569_3) | (show (Addr.add _ _).block ≠ _; rw [add_block]; exact hn569_3) | exact hn569_3) (.int .i64 ((rd_T44 l1 x92_3).f3))).trans hx569_0; (try have hy569_0 := fun (n_ : Nat) => (show ((((((w70.drewN n_).setCell ⟨gb567, 0, none⟩ (.int .i64 ((rd_T44 l1 x92_3).f0))).setCell ⟨gb567, 1, none⟩ (.int .i64 ((rd_T44 l1 x92_3).f1))).setCell ⟨gb567, 2, none⟩ (.int .i64 ((rd_T44 l1 x92_3).f2))).setCell ⟨gb567, 3, none⟩ (.int .i64 ((rd_T44 l1 x92_3).f3)))).cell? _ = some _ from hx569_0)); clear hn569_0; clear hn569_1; clear hn569_2; clear hn569_3; replace p569 := eq_true p569; replace q569 := eq_true q569; have p570 : 0 ≤ (x15_3 : Int) := of_decide_eq_true (by first | (with_reducible assumption) | assumption); have q570 : x15_3 < (x9_1.length : Int) := of_decide_eq_true (by first | (with_reducible assumption) | assumption); obtain ⟨ad570, e570, hx570_0⟩ := Kd.at_int (Kd.R_reads' HO_9.out).2.2 x15_3 p570 q570; obtain rfl : ad568 = ad570 := (by injection e570); have hn570_0 : ad568.block ≠ gb567 := Kd.own_blk (Kd.R_ne HO_9.out BK567.out (by decide)); have hn570_1 : ad568.block ≠ gb567 := Kd.own_blk (Kd.R_ne HO_9.out BK567.out (by decide)); have hn570_2 : ad568.block ≠ gb567 := Kd.own_blk (Kd.R_ne HO_9.out BK567.out (by decide)); have hn570_3 : ad568.block ≠ gb567 := Kd.own_blk (Kd.R_ne HO_9.out BK567.out (by decide)); replace hx570_0 := (cell_far (p := ⟨gb567, 0, none⟩) (by first | (rw [add_block]; exact hn570_0) | (show (Addr.add _ _).block ≠ _; rw [add_block]; exact hn570_0) | exact hn570_0) (.int .i64 ((rd_T44 l1 x92_3).f0))).trans hx570_0; replace hx570_0 := (cell_far (p := ⟨gb567, 1, none⟩) (by first | (rw [add_block]; exact hn570_1) | (show (Addr.add _ _).block ≠ _; rw [add_block]; exact hn570_1) | exact hn570_1) (.int .i64 ((rd_T44 l1 x92_3).f1))).trans hx570_0; replace hx570_0 := (cell_far (p := ⟨gb567, 2, none⟩) (by first | (rw [add_block]; exact hn570_2) | (show (Addr.add _ _).block ≠ _; rw [add_block]; exact hn570_2) | exact hn570_2) (.int .i64 ((rd_T44 l1 x92_3).f2))).trans hx570_0; replace hx570_0 := (cell_far (p := ⟨gb567, 3, none⟩) (by first | (rw [add_block]; exact hn570_3) | (show (Addr.add _ _).block ≠ _; rw [add_block]; exact hn570_3) | exact hn570_3) (.int .i64 ((rd_T44 l1 x92_3).f3))).trans hx570_0; (try have hy570_0 := fun (n_ : Nat) => (show ((((((w70.drewN n_).setCell ⟨gb567, 0, none⟩ (.int .i64 ((rd_T44 l1 x92_3).f0))).setCell ⟨gb567, 1, none⟩ (.int .i64 ((rd_T44 l1 x92_3).f1))).setCell ⟨gb567, 2, none⟩ (.int .i64 ((rd_T44 l1 x92_3).f2))).setCell ⟨gb567, 3, none⟩ (.int .i64 ((rd_T44 l1 x92_3).f3)))).cell? _ = some _ from hx570_0)); clear hn570_0; clear hn570_1; clear hn570_2; clear hn570_3; replace p570 := eq_true p570; replace q570 := eq_true q570)))
                      go_roundg k3
                      case measure => have := HK1.out; have := HK2.out; have := HK3.out; omega
                      case rel => exact ⟨(x14_3), (x15_3), (wrap64 (x92_3 + 1)), (by first | rfl | (simp; done) | (simp [*]; done)), (by first | rfl | (simp; done) | (simp [*]; done)), H', ⟨by have := HK1.out; have := HK2.out; have := HK3.out; omega⟩, ⟨by (with_reducible repeat (first | apply Kd.R_alloc | apply Kd.R_drewN | apply Kd.R_drew)); exact Kd.R_mono (Kd.R_far (p := ⟨gb567, 3, none⟩) (Kd.R_far (p := ⟨gb567, 2, none⟩) (Kd.R_far (p := ⟨gb567, 1, none⟩) (Kd.R_far (p := ⟨gb567, 0, none⟩) (Kd.R_types HO_9.out BK567.out (by decide)) (fun _ hk => hk.2) (.int .i64 ((rd_T44 l1 x92_3).f0))) (fun _ hk => hk.2) (.int .i64 ((rd_T44 l1 x92_3).f1))) (fun _ hk => hk.2) (.int .i64 ((rd_T44 l1 x92_3).f2))) (fun _ hk => hk.2) (.int .i64 ((rd_T44 l1 x92_3).f3))) (fun _ hk => hk.1)⟩, ⟨by (with_reducible repeat (first | apply Kd.R_alloc | apply Kd.R_drewN | apply Kd.R_drew)); exact Kd.R_mono (Kd.R_far (p := ⟨gb567, 3, none⟩) (Kd.R_far (p := ⟨gb567, 2, none⟩) (Kd.R_far (p := ⟨gb567, 1, none⟩) (Kd.R_far (p := ⟨gb567, 0, none⟩) (Kd.R_types HO_14.out BK567.out (by decide)) (fun _ hk => hk.2) (.int .i64 ((rd_T44 l1 x92_3).f0))) (fun _ hk => hk.2) (.int .i64 ((rd_T44 l1 x92_3).f1))) (fun _ hk => hk.2) (.int .i64 ((rd_T44 l1 x92_3).f2))) (fun _ hk => hk.2) (.int .i64 ((rd_T44 l1 x92_3).f3))) (fun _ hk => hk.1)⟩, ⟨by repeat (first | (with_reducible first | exact HB.out | apply below_alloc | apply pw_below_drewN | apply below_drew1 | refine below_set ?_ GE567.out) | exact HB.out)⟩⟩
                    ·rw [if_neg c62] at H
                     exact absurd H (by simp)
                   ·rw [if_neg c61] at H
                    exact absurd H (by simp)
                  ·rw [if_neg c60] at H
                   have c60b0 : decide (0 ≤ (rd x9_1 ((rd_T44 l1 x92_3).f1))) = false := decide_eq_false c60
                   clear c60
                   have H' := Aside0.mk H
                   clear H
                   have p566 : 0 ≤ (x92_3 : Int) := of_decide_eq_true (by first | (with_reducible assumption) | assumption)
                   have q566 : x92_3 < (l1.length : Int) := of_decide_eq_true (by first | (with_reducible assumption) | assumption)
                   obtain ⟨ad566, e566, hx566_0, hx566_1, hx566_2, hx566_3⟩ := at_T44 HR1.out x92_3 p566 q566
                   cases e566
                   replace hx566_0 := (HB.out.cell (World.block_lt_of_cell? w _ hx566_0)).trans hx566_0
                   replace hx566_1 := (HB.out.cell (World.block_lt_of_cell? w _ hx566_1)).trans hx566_1
                   replace hx566_2 := (HB.out.cell (World.block_lt_of_cell? w _ hx566_2)).trans hx566_2
                   replace hx566_3 := (HB.out.cell (World.block_lt_of_cell? w _ hx566_3)).trans hx566_3
                   replace p566 := eq_true p566
                   replace q566 := eq_true q566
                   go_wp2_with (first | ((with_reducible refine gate_dst (N := 17) rfl ?_); refine box_event ?hg (N := 17) ?hd (cs := #[.int .i64 0, .int .i64 0, .int .i64 0, .int .i64 0]) (t := 44) ?hr ?_; (case hd => rfl); (case hg => rfl); (case hr => first | (go_simp; done) | (go_simp; rfl)); intro gb567 hg w73 hbox hb; have n0_ := Aside0.mk (Kd.R_below (by (with_reducible repeat (first | apply Kd.R_alloc | apply Kd.R_drewN | apply Kd.R_drew)); exact HO_9.out) hb); have n1_ := Aside0.mk (Kd.R_below (by (with_reducible repeat (first | apply Kd.R_alloc | apply Kd.R_drewN | apply Kd.R_drew)); exact HO_14.out) hb); have n2_ := Aside0.mk (below_step (by repeat (first | (with_reducible first | exact HB.out | apply below_alloc | apply pw_below_drewN | apply below_drew1) | exact HB.out)) hb); have n3_ := Aside0.mk (hbox); have n4_ := Aside0.mk ((by rw [hg]; exact (below_size (by repeat (first | (with_reducible first | exact HB.out | apply below_alloc | apply pw_below_drewN | apply below_drew1) | exact HB.out))) : w.heap.size ≤ gb567)); have n5_ := Aside0.mk ((by rw [hg]; exact (below_size (by repeat (first | (with_reducible first | exact HB.out | apply below_alloc | apply pw_below_drewN | apply below_drew1) | exact HB.out))) : w.heap.size ≤ gb567)); clear HO_9; clear HO_14; clear HB; have HO_9 := n0_; have HO_14 := n1_; have HB := n2_; have BK567 := n3_; have GW567 := n4_; have GE567 := n5_; clear n0_ n1_ n2_ n3_ n4_ n5_; clear hb hbox hg; have hcz74_0 : w73.cell? ⟨gb567, 0, none⟩ = some (.int .i64 0) := (blk_cell BK567.out 0).trans rfl; have hcz74_1 : w73.cell? ⟨gb567, 1, none⟩ = some (.int .i64 0) := (blk_cell BK567.out 1).trans rfl; have hcz74_2 : w73.cell? ⟨gb567, 2, none⟩ = some (.int .i64 0) := (blk_cell BK567.out 2).trans rfl; have hcz74_3 : w73.cell? ⟨gb567, 3, none⟩ = some (.int .i64 0) := (blk_cell BK567.out 3).trans rfl; have hfz74_0 := blk_frozen BK567.out 0; have hfz74_1 := blk_frozen BK567.out 1; have hfz74_2 := blk_frozen BK567.out 2; have hfz74_3 := blk_frozen BK567.out 3; obtain ⟨Ao75, co75, eo75⟩ := Kd.R_slice HO_9.out; subst eo75; have p568 : 0 ≤ (((rd_T44 l1 x92_3).f1) : Int) := of_decide_eq_true (by first | (with_reducible assumption) | assumption); have q568 : ((rd_T44 l1 x92_3).f1) < (x9_1.length : Int) := of_decide_eq_true (by first | (with_reducible assumption) | assumption); obtain ⟨ad568, e568, hx568_0⟩ := Kd.at_int (Kd.R_reads' HO_9.out).2.2 ((rd_T44 l1 x92_3).f1) p568 q568; cases e568; have hn568_0 : ad568.block ≠ gb567 := Kd.own_blk (Kd.R_ne HO_9.out BK567.out (by decide)); have hn568_1 : ad568.block ≠ gb567 := Kd.own_blk (Kd.R_ne HO_9.out BK567.out (by decide)); have hn568_2 : ad568.block ≠ gb567 := Kd.own_blk (Kd.R_ne HO_9.out BK567.out (by decide)); have hn568_3 : ad568.block ≠ gb567 := Kd.own_blk (Kd.R_ne HO_9.out BK567.out (by decide)); replace hx568_0 := (cell_far (p := ⟨gb567, 0, none⟩) (by first | (rw [add_block]; exact hn568_0) | (show (Addr.add _ _).block ≠ _; rw [add_block]; exact hn568_0) | exact hn568_0) (.int .i64 ((rd_T44 l1 x92_3).f0))).trans hx568_0; replace hx568_0 := (cell_far (p := ⟨gb567, 1, none⟩) (by first | (rw [add_block]; exact hn568_1) | (show (Addr.add _ _).block ≠ _; rw [add_block]; exact hn568_1) | exact hn568_1) (.int .i64 ((rd_T44 l1 x92_3).f1))).trans hx568_0; replace hx568_0 := (cell_far (p := ⟨gb567, 2, none⟩) (by first | (rw [add_block]; exact hn568_2) | (show (Addr.add _ _).block ≠ _; rw [add_block]; exact hn568_2) | exact hn568_2) (.int .i64 ((rd_T44 l1 x92_3).f2))).trans hx568_0; replace hx568_0 := (cell_far (p := ⟨gb567, 3, none⟩) (by first | (rw [add_block]; exact hn568_3) | (show (Addr.add _ _).block ≠ _; rw [add_block]; exact hn568_3) | exact hn568_3) (.int .i64 ((rd_T44 l1 x92_3).f3))).trans hx568_0; (try have hy568_0 := fun (n_ : Nat) => (show ((((((w73.drewN n_).setCell ⟨gb567, 0, none⟩ (.int .i64 ((rd_T44 l1 x92_3).f0))).setCell ⟨gb567, 1, none⟩ (.int .i64 ((rd_T44 l1 x92_3).f1))).setCell ⟨gb567, 2, none⟩ (.int .i64 ((rd_T44 l1 x92_3).f2))).setCell ⟨gb567, 3, none⟩ (.int .i64 ((rd_T44 l1 x92_3).f3)))).cell? _ = some _ from hx568_0)); clear hn568_0; clear hn568_1; clear hn568_2; clear hn568_3; replace p568 := eq_true p568; replace q568 := eq_true q568))
                   repeat (go_quiet (first | ((with_reducible refine gate_dst (N := 17) rfl ?_); refine box_event ?hg (N := 17) ?hd (cs := #[.int .i64 0, .int .i64 0, .int .i64 0, .int .i64 0]) (t := 44) ?hr ?_; (case hd => rfl); (case hg => rfl); (case hr => first | (go_simp; done) | (go_simp; rfl)); intro gb567 hg w73 hbox hb; have n0_ := Aside0.mk (Kd.R_below (by (with_reducible repeat (first | apply Kd.R_alloc | apply Kd.R_drewN | apply Kd.R_drew)); exact HO_9.out) hb); have n1_ := Aside0.mk (Kd.R_below (by (with_reducible repeat (first | apply Kd.R_alloc | apply Kd.R_drewN | apply Kd.R_drew)); exact HO_14.out) hb); have n2_ := Aside0.mk (below_step (by repeat (first | (with_reducible first | exact HB.out | apply below_alloc | apply pw_below_drewN | apply below_drew1) | exact HB.out)) hb); have n3_ := Aside0.mk (hbox); have n4_ := Aside0.mk ((by rw [hg]; exact (below_size (by repeat (first | (with_reducible first | exact HB.out | apply below_alloc | apply pw_below_drewN | apply below_drew1) | exact HB.out))) : w.heap.size ≤ gb567)); have n5_ := Aside0.mk ((by rw [hg]; exact (below_size (by repeat (first | (with_reducible first | exact HB.out | apply below_alloc | apply pw_below_drewN | apply below_drew1) | exact HB.out))) : w.heap.size ≤ gb567)); clear HO_9; clear HO_14; clear HB; have HO_9 := n0_; have HO_14 := n1_; have HB := n2_; have BK567 := n3_; have GW567 := n4_; have GE567 := n5_; clear n0_ n1_ n2_ n3_ n4_ n5_; clear hb hbox hg; have hcz74_0 : w73.cell? ⟨gb567, 0, none⟩ = some (.int .i64 0) := (blk_cell BK567.out 0).trans rfl; have hcz74_1 : w73.cell? ⟨gb567, 1, none⟩ = some (.int .i64 0) := (blk_cell BK567.out 1).trans rfl; have hcz74_2 : w73.cell? ⟨gb567, 2, none⟩ = some (.int .i64 0) := (blk_cell BK567.out 2).trans rfl; have hcz74_3 : w73.cell? ⟨gb567, 3, none⟩ = some (.int .i64 0) := (blk_cell BK567.out 3).trans rfl; have hfz74_0 := blk_frozen BK567.out 0; have hfz74_1 := blk_frozen BK567.out 1; have hfz74_2 := blk_frozen BK567.out 2; have hfz74_3 := blk_frozen BK567.out 3; obtain ⟨Ao75, co75, eo75⟩ := Kd.R_slice HO_9.out; subst eo75; have p568 : 0 ≤ (((rd_T44 l1 x92_3).f1) : Int) := of_decide_eq_true (by first | (with_reducible assumption) | assumption); have q568 : ((rd_T44 l1 x92_3).f1) < (x9_1.length : Int) := of_decide_eq_true (by first | (with_reducible assumption) | assumption); obtain ⟨ad568, e568, hx568_0⟩ := Kd.at_int (Kd.R_reads' HO_9.out).2.2 ((rd_T44 l1 x92_3).f1) p568 q568; cases e568; have hn568_0 : ad568.block ≠ gb567 := Kd.own_blk (Kd.R_ne HO_9.out BK567.out (by decide)); have hn568_1 : ad568.block ≠ gb567 := Kd.own_blk (Kd.R_ne HO_9.out BK567.out (by decide)); have hn568_2 : ad568.block ≠ gb567 := Kd.own_blk (Kd.R_ne HO_9.out BK567.out (by decide)); have hn568_3 : ad568.block ≠ gb567 := Kd.own_blk (Kd.R_ne HO_9.out BK567.out (by decide)); replace hx568_0 := (cell_far (p := ⟨gb567, 0, none⟩) (by first | (rw [add_block]; exact hn568_0) | (show (Addr.add _ _).block ≠ _; rw [add_block]; exact hn568_0) | exact hn568_0) (.int .i64 ((rd_T44 l1 x92_3).f0))).trans hx568_0; replace hx568_0 := (cell_far (p := ⟨gb567, 1, none⟩) (by first | (rw [add_block]; exact hn568_1) | (show (Addr.add _ _).block ≠ _; rw [add_block]; exact hn568_1) | exact hn568_1) (.int .i64 ((rd_T44 l1 x92_3).f1))).trans hx568_0; replace hx568_0 := (cell_far (p := ⟨gb567, 2, none⟩) (by first | (rw [add_block]; exact hn568_2) | (show (Addr.add _ _).block ≠ _; rw [add_block]; exact hn568_2) | exact hn568_2) (.int .i64 ((rd_T44 l1 x92_3).f2))).trans hx568_0; replace hx568_0 := (cell_far (p := ⟨gb567, 3, none⟩) (by first | (rw [add_block]; exact hn568_3) | (show (Addr.add _ _).block ≠ _; rw [add_block]; exact hn568_3) | exact hn568_3) (.int .i64 ((rd_T44 l1 x92_3).f3))).trans hx568_0; (try have hy568_0 := fun (n_ : Nat) => (show ((((((w73.drewN n_).setCell ⟨gb567, 0, none⟩ (.int .i64 ((rd_T44 l1 x92_3).f0))).setCell ⟨gb567, 1, none⟩ (.int .i64 ((rd_T44 l1 x92_3).f1))).setCell ⟨gb567, 2, none⟩ (.int .i64 ((rd_T44 l1 x92_3).f2))).setCell ⟨gb567, 3, none⟩ (.int .i64 ((rd_T44 l1 x92_3).f3)))).cell? _ = some _ from hx568_0)); clear hn568_0; clear hn568_1; clear hn568_2; clear hn568_3; replace p568 := eq_true p568; replace q568 := eq_true q568)); try go_wp2_with (first | ((with_reducible refine gate_dst (N := 17) rfl ?_); refine box_event ?hg (N := 17) ?hd (cs := #[.int .i64 0, .int .i64 0, .int .i64 0, .int .i64 0]) (t := 44) ?hr ?_; (case hd => rfl); (case hg => rfl); (case hr => first | (go_simp; done) | (go_simp; rfl)); intro gb567 hg w73 hbox hb; have n0_ := Aside0.mk (Kd.R_below (by (with_reducible repeat (first | apply Kd.R_alloc | apply Kd.R_drewN | apply Kd.R_drew)); exact HO_9.out) hb); have n1_ := Aside0.mk (Kd.R_below (by (with_reducible repeat (first | apply Kd.R_alloc | apply Kd.R_drewN | apply Kd.R_drew)); exact HO_14.out) hb); have n2_ := Aside0.mk (below_step (by repeat (first | (with_reducible first | exact HB.out | apply below_alloc | apply pw_below_drewN | apply below_drew1) | exact HB.out)) hb); have n3_ := Aside0.mk (hbox); have n4_ := Aside0.mk ((by rw [hg]; exact (below_size (by repeat (first | (with_reducible first | exact HB.out | apply below_alloc | apply pw_below_drewN | apply below_drew1) | exact HB.out))) : w.heap.size ≤ gb567)); have n5_ := Aside0.mk ((by rw [hg]; exact (below_size (by repeat (first | (with_reducible first | exact HB.out | apply below_alloc | apply pw_below_drewN | apply below_drew1) | exact HB.out))) : w.heap.size ≤ gb567)); clear HO_9; clear HO_14; clear HB; have HO_9 := n0_; have HO_14 := n1_; have HB := n2_; have BK567 := n3_; have GW567 := n4_; have GE567 := n5_; clear n0_ n1_ n2_ n3_ n4_ n5_; clear hb hbox hg; have hcz74_0 : w73.cell? ⟨gb567, 0, none⟩ = some (.int .i64 0) := (blk_cell BK567.out 0).trans rfl; have hcz74_1 : w73.cell? ⟨gb567, 1, none⟩ = some (.int .i64 0) := (blk_cell BK567.out 1).trans rfl; have hcz74_2 : w73.cell? ⟨gb567, 2, none⟩ = some (.int .i64 0) := (blk_cell BK567.out 2).trans rfl; have hcz74_3 : w73.cell? ⟨gb567, 3, none⟩ = some (.int .i64 0) := (blk_cell BK567.out 3).trans rfl; have hfz74_0 := blk_frozen BK567.out 0; have hfz74_1 := blk_frozen BK567.out 1; have hfz74_2 := blk_frozen BK567.out 2; have hfz74_3 := blk_frozen BK567.out 3; obtain ⟨Ao75, co75, eo75⟩ := Kd.R_slice HO_9.out; subst eo75; have p568 : 0 ≤ (((rd_T44 l1 x92_3).f1) : Int) := of_decide_eq_true (by first | (with_reducible assumption) | assumption); have q568 : ((rd_T44 l1 x92_3).f1) < (x9_1.length : Int) := of_decide_eq_true (by first | (with_reducible assumption) | assumption); obtain ⟨ad568, e568, hx568_0⟩ := Kd.at_int (Kd.R_reads' HO_9.out).2.2 ((rd_T44 l1 x92_3).f1) p568 q568; cases e568; have hn568_0 : ad568.block ≠ gb567 := Kd.own_blk (Kd.R_ne HO_9.out BK567.out (by decide)); have hn568_1 : ad568.block ≠ gb567 := Kd.own_blk (Kd.R_ne HO_9.out BK567.out (by decide)); have hn568_2 : ad568.block ≠ gb567 := Kd.own_blk (Kd.R_ne HO_9.out BK567.out (by decide)); have hn568_3 : ad568.block ≠ gb567 := Kd.own_blk (Kd.R_ne HO_9.out BK567.out (by decide)); replace hx568_0 := (cell_far (p := ⟨gb567, 0, none⟩) (by first | (rw [add_block]; exact hn568_0) | (show (Addr.add _ _).block ≠ _; rw [add_block]; exact hn568_0) | exact hn568_0) (.int .i64 ((rd_T44 l1 x92_3).f0))).trans hx568_0; replace hx568_0 := (cell_far (p := ⟨gb567, 1, none⟩) (by first | (rw [add_block]; exact hn568_1) | (show (Addr.add _ _).block ≠ _; rw [add_block]; exact hn568_1) | exact hn568_1) (.int .i64 ((rd_T44 l1 x92_3).f1))).trans hx568_0; replace hx568_0 := (cell_far (p := ⟨gb567, 2, none⟩) (by first | (rw [add_block]; exact hn568_2) | (show (Addr.add _ _).block ≠ _; rw [add_block]; exact hn568_2) | exact hn568_2) (.int .i64 ((rd_T44 l1 x92_3).f2))).trans hx568_0; replace hx568_0 := (cell_far (p := ⟨gb567, 3, none⟩) (by first | (rw [add_block]; exact hn568_3) | (show (Addr.add _ _).block ≠ _; rw [add_block]; exact hn568_3) | exact hn568_3) (.int .i64 ((rd_T44 l1 x92_3).f3))).trans hx568_0; (try have hy568_0 := fun (n_ : Nat) => (show ((((((w73.drewN n_).setCell ⟨gb567, 0, none⟩ (.int .i64 ((rd_T44 l1 x92_3).f0))).setCell ⟨gb567, 1, none⟩ (.int .i64 ((rd_T44 l1 x92_3).f1))).setCell ⟨gb567, 2, none⟩ (.int .i64 ((rd_T44 l1 x92_3).f2))).setCell ⟨gb567, 3, none⟩ (.int .i64 ((rd_T44 l1 x92_3).f3)))).cell? _ = some _ from hx568_0)); clear hn568_0; clear hn568_1; clear hn568_2; clear hn568_3; replace p568 := eq_true p568; replace q568 := eq_true q568)))
                   go_roundg k3
                   case measure => have := HK1.out; have := HK2.out; have := HK3.out; omega
                   case rel => exact ⟨(x14_3), (x15_3), (wrap64 (x92_3 + 1)), (by first | rfl | (simp; done) | (simp [*]; done)), (by first | rfl | (simp; done) | (simp [*]; done)), H', ⟨by have := HK1.out; have := HK2.out; have := HK3.out; omega⟩, ⟨by (with_reducible repeat (first | apply Kd.R_alloc | apply Kd.R_drewN | apply Kd.R_drew)); exact Kd.R_mono (Kd.R_far (p := ⟨gb567, 3, none⟩) (Kd.R_far (p := ⟨gb567, 2, none⟩) (Kd.R_far (p := ⟨gb567, 1, none⟩) (Kd.R_far (p := ⟨gb567, 0, none⟩) (Kd.R_types HO_9.out BK567.out (by decide)) (fun _ hk => hk.2) (.int .i64 ((rd_T44 l1 x92_3).f0))) (fun _ hk => hk.2) (.int .i64 ((rd_T44 l1 x92_3).f1))) (fun _ hk => hk.2) (.int .i64 ((rd_T44 l1 x92_3).f2))) (fun _ hk => hk.2) (.int .i64 ((rd_T44 l1 x92_3).f3))) (fun _ hk => hk.1)⟩, ⟨by (with_reducible repeat (first | apply Kd.R_alloc | apply Kd.R_drewN | apply Kd.R_drew)); exact Kd.R_mono (Kd.R_far (p := ⟨gb567, 3, none⟩) (Kd.R_far (p := ⟨gb567, 2, none⟩) (Kd.R_far (p := ⟨gb567, 1, none⟩) (Kd.R_far (p := ⟨gb567, 0, none⟩) (Kd.R_types HO_14.out BK567.out (by decide)) (fun _ hk => hk.2) (.int .i64 ((rd_T44 l1 x92_3).f0))) (fun _ hk => hk.2) (.int .i64 ((rd_T44 l1 x92_3).f1))) (fun _ hk => hk.2) (.int .i64 ((rd_T44 l1 x92_3).f2))) (fun _ hk => hk.2) (.int .i64 ((rd_T44 l1 x92_3).f3))) (fun _ hk => hk.1)⟩, ⟨by repeat (first | (with_reducible first | exact HB.out | apply below_alloc | apply pw_below_drewN | apply below_drew1 | refine below_set ?_ GE567.out) | exact HB.out)⟩⟩
                 ·rw [if_neg c59] at H
                  exact absurd H (by simp)
                ·rw [if_neg c58] at H
                 exact absurd H (by simp)
               ·rw [if_neg c57] at H
                have c57b0 : (((rd_T44 l1 x92_3).f0) == x15_3) = false := beq_eq_false_iff_ne.mpr c57
                have c57b1 : (((rd_T44 l1 x92_3).f0) != x15_3) = true := bne_iff_ne.mpr c57
                have H' := Aside0.mk H
                clear H
                have p566 : 0 ≤ (x92_3 : Int) := of_decide_eq_true (by first | (with_reducible assumption) | assumption)
                have q566 : x92_3 < (l1.length : Int) := of_decide_eq_true (by first | (with_reducible assumption) | assumption)
                obtain ⟨ad566, e566, hx566_0, hx566_1, hx566_2, hx566_3⟩ := at_T44 HR1.out x92_3 p566 q566
                cases e566
                replace hx566_0 := (HB.out.cell (World.block_lt_of_cell? w _ hx566_0)).trans hx566_0
                replace hx566_1 := (HB.out.cell (World.block_lt_of_cell? w _ hx566_1)).trans hx566_1
                replace hx566_2 := (HB.out.cell (World.block_lt_of_cell? w _ hx566_2)).trans hx566_2
                replace hx566_3 := (HB.out.cell (World.block_lt_of_cell? w _ hx566_3)).trans hx566_3
                replace p566 := eq_true p566
                replace q566 := eq_true q566
                go_wp2_with (first | ((with_reducible refine gate_dst (N := 17) rfl ?_); refine box_event ?hg (N := 17) ?hd (cs := #[.int .i64 0, .int .i64 0, .int .i64 0, .int .i64 0]) (t := 44) ?hr ?_; (case hd => rfl); (case hg => rfl); (case hr => first | (go_simp; done) | (go_simp; rfl)); intro gb567 hg w76 hbox hb; have n0_ := Aside0.mk (Kd.R_below (by (with_reducible repeat (first | apply Kd.R_alloc | apply Kd.R_drewN | apply Kd.R_drew)); exact HO_9.out) hb); have n1_ := Aside0.mk (Kd.R_below (by (with_reducible repeat (first | apply Kd.R_alloc | apply Kd.R_drewN | apply Kd.R_drew)); exact HO_14.out) hb); have n2_ := Aside0.mk (below_step (by repeat (first | (with_reducible first | exact HB.out | apply below_alloc | apply pw_below_drewN | apply below_drew1) | exact HB.out)) hb); have n3_ := Aside0.mk (hbox); have n4_ := Aside0.mk ((by rw [hg]; exact (below_size (by repeat (first | (with_reducible first | exact HB.out | apply below_alloc | apply pw_below_drewN | apply below_drew1) | exact HB.out))) : w.heap.size ≤ gb567)); have n5_ := Aside0.mk ((by rw [hg]; exact (below_size (by repeat (first | (with_reducible first | exact HB.out | apply below_alloc | apply pw_below_drewN | apply below_drew1) | exact HB.out))) : w.heap.size ≤ gb567)); clear HO_9; clear HO_14; clear HB; have HO_9 := n0_; have HO_14 := n1_; have HB := n2_; have BK567 := n3_; have GW567 := n4_; have GE567 := n5_; clear n0_ n1_ n2_ n3_ n4_ n5_; clear hb hbox hg; have hcz77_0 : w76.cell? ⟨gb567, 0, none⟩ = some (.int .i64 0) := (blk_cell BK567.out 0).trans rfl; have hcz77_1 : w76.cell? ⟨gb567, 1, none⟩ = some (.int .i64 0) := (blk_cell BK567.out 1).trans rfl; have hcz77_2 : w76.cell? ⟨gb567, 2, none⟩ = some (.int .i64 0) := (blk_cell BK567.out 2).trans rfl; have hcz77_3 : w76.cell? ⟨gb567, 3, none⟩ = some (.int .i64 0) := (blk_cell BK567.out 3).trans rfl; have hfz77_0 := blk_frozen BK567.out 0; have hfz77_1 := blk_frozen BK567.out 1; have hfz77_2 := blk_frozen BK567.out 2; have hfz77_3 := blk_frozen BK567.out 3))
                repeat (go_quiet (first | ((with_reducible refine gate_dst (N := 17) rfl ?_); refine box_event ?hg (N := 17) ?hd (cs := #[.int .i64 0, .int .i64 0, .int .i64 0, .int .i64 0]) (t := 44) ?hr ?_; (case hd => rfl); (case hg => rfl); (case hr => first | (go_simp; done) | (go_simp; rfl)); intro gb567 hg w76 hbox hb; have n0_ := Aside0.mk (Kd.R_below (by (with_reducible repeat (first | apply Kd.R_alloc | apply Kd.R_drewN | apply Kd.R_drew)); exact HO_9.out) hb); have n1_ := Aside0.mk (Kd.R_below (by (with_reducible repeat (first | apply Kd.R_alloc | apply Kd.R_drewN | apply Kd.R_drew)); exact HO_14.out) hb); have n2_ := Aside0.mk (below_step (by repeat (first | (with_reducible first | exact HB.out | apply below_alloc | apply pw_below_drewN | apply below_drew1) | exact HB.out)) hb); have n3_ := Aside0.mk (hbox); have n4_ := Aside0.mk ((by rw [hg]; exact (below_size (by repeat (first | (with_reducible first | exact HB.out | apply below_alloc | apply pw_below_drewN | apply below_drew1) | exact HB.out))) : w.heap.size ≤ gb567)); have n5_ := Aside0.mk ((by rw [hg]; exact (below_size (by repeat (first | (with_reducible first | exact HB.out | apply below_alloc | apply pw_below_drewN | apply below_drew1) | exact HB.out))) : w.heap.size ≤ gb567)); clear HO_9; clear HO_14; clear HB; have HO_9 := n0_; have HO_14 := n1_; have HB := n2_; have BK567 := n3_; have GW567 := n4_; have GE567 := n5_; clear n0_ n1_ n2_ n3_ n4_ n5_; clear hb hbox hg; have hcz77_0 : w76.cell? ⟨gb567, 0, none⟩ = some (.int .i64 0) := (blk_cell BK567.out 0).trans rfl; have hcz77_1 : w76.cell? ⟨gb567, 1, none⟩ = some (.int .i64 0) := (blk_cell BK567.out 1).trans rfl; have hcz77_2 : w76.cell? ⟨gb567, 2, none⟩ = some (.int .i64 0) := (blk_cell BK567.out 2).trans rfl; have hcz77_3 : w76.cell? ⟨gb567, 3, none⟩ = some (.int .i64 0) := (blk_cell BK567.out 3).trans rfl; have hfz77_0 := blk_frozen BK567.out 0; have hfz77_1 := blk_frozen BK567.out 1; have hfz77_2 := blk_frozen BK567.out 2; have hfz77_3 := blk_frozen BK567.out 3)); try go_wp2_with (first | ((with_reducible refine gate_dst (N := 17) rfl ?_); refine box_event ?hg (N := 17) ?hd (cs := #[.int .i64 0, .int .i64 0, .int .i64 0, .int .i64 0]) (t := 44) ?hr ?_; (case hd => rfl); (case hg => rfl); (case hr => first | (go_simp; done) | (go_simp; rfl)); intro gb567 hg w76 hbox hb; have n0_ := Aside0.mk (Kd.R_below (by (with_reducible repeat (first | apply Kd.R_alloc | apply Kd.R_drewN | apply Kd.R_drew)); exact HO_9.out) hb); have n1_ := Aside0.mk (Kd.R_below (by (with_reducible repeat (first | apply Kd.R_alloc | apply Kd.R_drewN | apply Kd.R_drew)); exact HO_14.out) hb); have n2_ := Aside0.mk (below_step (by repeat (first | (with_reducible first | exact HB.out | apply below_alloc | apply pw_below_drewN | apply below_drew1) | exact HB.out)) hb); have n3_ := Aside0.mk (hbox); have n4_ := Aside0.mk ((by rw [hg]; exact (below_size (by repeat (first | (with_reducible first | exact HB.out | apply below_alloc | apply pw_below_drewN | apply below_drew1) | exact HB.out))) : w.heap.size ≤ gb567)); have n5_ := Aside0.mk ((by rw [hg]; exact (below_size (by repeat (first | (with_reducible first | exact HB.out | apply below_alloc | apply pw_below_drewN | apply below_drew1) | exact HB.out))) : w.heap.size ≤ gb567)); clear HO_9; clear HO_14; clear HB; have HO_9 := n0_; have HO_14 := n1_; have HB := n2_; have BK567 := n3_; have GW567 := n4_; have GE567 := n5_; clear n0_ n1_ n2_ n3_ n4_ n5_; clear hb hbox hg; have hcz77_0 : w76.cell? ⟨gb567, 0, none⟩ = some (.int .i64 0) := (blk_cell BK567.out 0).trans rfl; have hcz77_1 : w76.cell? ⟨gb567, 1, none⟩ = some (.int .i64 0) := (blk_cell BK567.out 1).trans rfl; have hcz77_2 : w76.cell? ⟨gb567, 2, none⟩ = some (.int .i64 0) := (blk_cell BK567.out 2).trans rfl; have hcz77_3 : w76.cell? ⟨gb567, 3, none⟩ = some (.int .i64 0) := (blk_cell BK567.out 3).trans rfl; have hfz77_0 := blk_frozen BK567.out 0; have hfz77_1 := blk_frozen BK567.out 1; have hfz77_2 := blk_frozen BK567.out 2; have hfz77_3 := blk_frozen BK567.out 3)))
                go_roundg k3
                case measure => have := HK1.out; have := HK2.out; have := HK3.out; omega
                case rel => exact ⟨(x14_3), (x15_3), (wrap64 (x92_3 + 1)), (by first | rfl | (simp; done) | (simp [*]; done)), (by first | rfl | (simp; done) | (simp [*]; done)), H', ⟨by have := HK1.out; have := HK2.out; have := HK3.out; omega⟩, ⟨by (with_reducible repeat (first | apply Kd.R_alloc | apply Kd.R_drewN | apply Kd.R_drew)); exact Kd.R_mono (Kd.R_far (p := ⟨gb567, 3, none⟩) (Kd.R_far (p := ⟨gb567, 2, none⟩) (Kd.R_far (p := ⟨gb567, 1, none⟩) (Kd.R_far (p := ⟨gb567, 0, none⟩) (Kd.R_types HO_9.out BK567.out (by decide)) (fun _ hk => hk.2) (.int .i64 ((rd_T44 l1 x92_3).f0))) (fun _ hk => hk.2) (.int .i64 ((rd_T44 l1 x92_3).f1))) (fun _ hk => hk.2) (.int .i64 ((rd_T44 l1 x92_3).f2))) (fun _ hk => hk.2) (.int .i64 ((rd_T44 l1 x92_3).f3))) (fun _ hk => hk.1)⟩, ⟨by (with_reducible repeat (first | apply Kd.R_alloc | apply Kd.R_drewN | apply Kd.R_drew)); exact Kd.R_mono (Kd.R_far (p := ⟨gb567, 3, none⟩) (Kd.R_far (p := ⟨gb567, 2, none⟩) (Kd.R_far (p := ⟨gb567, 1, none⟩) (Kd.R_far (p := ⟨gb567, 0, none⟩) (Kd.R_types HO_14.out BK567.out (by decide)) (fun _ hk => hk.2) (.int .i64 ((rd_T44 l1 x92_3).f0))) (fun _ hk => hk.2) (.int .i64 ((rd_T44 l1 x92_3).f1))) (fun _ hk => hk.2) (.int .i64 ((rd_T44 l1 x92_3).f2))) (fun _ hk => hk.2) (.int .i64 ((rd_T44 l1 x92_3).f3))) (fun _ hk => hk.1)⟩, ⟨by repeat (first | (with_reducible first | exact HB.out | apply below_alloc | apply pw_below_drewN | apply below_drew1 | refine below_set ?_ GE567.out) | exact HB.out)⟩⟩
              ·rw [if_neg c56] at H
               exact absurd H (by simp)
             ·rw [if_neg c55] at H
              exact absurd H (by simp)
            ·rw [if_neg c54] at H
             have c54b0 : decide (x92_3 < (l1.length : Int)) = false := decide_eq_false c54
             clear c54
             have H' := Aside0.mk H
             clear H
             go_wp2
             repeat (go_quiet (fail); try go_wp2)
             go_roundg k3
             case measure => have := HK1.out; have := HK2.out; have := HK3.out; omega
             case rel => exact ⟨(x14_3), (x15_3), (by first | rfl | (simp; done) | (simp [*]; done)), H', ⟨by have := HK1.out; have := HK2.out; have := HK3.out; omega⟩, ⟨by (with_reducible repeat (first | apply Kd.R_alloc | apply Kd.R_drewN | apply Kd.R_drew)); exact HO_9.out⟩, ⟨by (with_reducible repeat (first | apply Kd.R_alloc | apply Kd.R_drewN | apply Kd.R_drew)); exact HO_14.out⟩, ⟨by repeat (first | (with_reducible first | exact HB.out | apply below_alloc | apply pw_below_drewN | apply below_drew1) | exact HB.out)⟩⟩
   ·rw [if_neg c7] at H
    exact absurd H (by simp)
  ·rw [if_neg c6] at H
   exact absurd H (by simp)
 ·rw [if_neg c5] at H
  have c5b0 : (t552 == 0) = false := beq_eq_false_iff_ne.mpr c5
  have c5b1 : (t552 != 0) = true := bne_iff_ne.mpr c5
  simp only [Option.some.injEq, Prod.mk.injEq] at H
  obtain ⟨rfl, rfl⟩ := H
  go_enter Try.func24, Try.ntmps24
  go_wp2_with (first | ((with_reducible refine gate_dst (N := 21) rfl ?_); refine Kd.R_lit (Kd.int .i64) _ 2 ?hg (N := 21) ?hd (xs := ([a2] : List Int)) (inner := [.int .i64 a2]) (ok := fun _ => True) (okp := fun _ => True) ?hr ?hp (fun _ hk => hk) trivial (Below.refl _ _) (Nat.le_refl _) (by simp) ?_; (case hd => rfl); (case hg => rfl); (case hr => first | (go_simp; done) | (go_simp; rfl)); (case hp => exact (Reps.one (show Kd.M (Kd.int .i64) _ _ _ a2 [.int .i64 a2] from rfl) (Reps.none _ _))); intro v550 w78 ho79 hb hg_ hnew_; clear hg_ hnew_; (first | rw [← Ny549.out] at ho79 | (simp only [Int.reduceToNat] at ho79; rw [← Ny549.out] at ho79)); have n0_ := Aside0.mk (Kd.R_lower ho79 (below_size (by repeat (first | (with_reducible first | exact HB.out | apply below_alloc | apply pw_below_drewN | apply below_drew1) | exact HB.out)))); have n1_ := Aside0.mk (below_step (by repeat (first | (with_reducible first | exact HB.out | apply below_alloc | apply pw_below_drewN | apply below_drew1) | exact HB.out)) hb); clear HB; have HO551 := n0_; have HB := n1_; clear n0_ n1_; clear hb ho79; obtain ⟨Ao80, co80, eo80⟩ := Kd.R_slice HO551.out; subst eo80) | (go_at_call 30; (with_reducible refine (impl_nodeAsked.calls k a0 _ _ l1 _ _ y549 t552 _ ?side1 ?side2 ?side3 ?side4 A4.out).mono ?_); (case side1 => repeat (first | exact (Kd.C_below HR1.out HB.out) | (with_reducible refine Kd.C_alloc ?_ _) | (with_reducible refine Kd.C_drewN ?_ _) | (with_reducible refine Kd.C_drew ?_))); (case side2 => exact HC1.out); (case side3 => repeat (first | exact (Kd.R_reads' HO551.out).2.2 | (with_reducible refine Kd.C_alloc ?_ _) | (with_reducible refine Kd.C_drewN ?_ _) | (with_reducible refine Kd.C_drew ?_))); (case side4 => exact (Kd.R_reads' HO551.out).2.1); rintro e w81 ⟨rfl, hb⟩; have n0_ := Aside0.mk (Kd.R_below (by (with_reducible repeat (first | apply Kd.R_alloc | apply Kd.R_drewN | apply Kd.R_drew)); exact HO551.out) hb); have n1_ := Aside0.mk (below_step (by repeat (first | (with_reducible first | exact HB.out | apply below_alloc | apply pw_below_drewN | apply below_drew1) | exact HB.out)) hb); clear HO551; clear HB; have HO551 := n0_; have HB := n1_; clear n0_ n1_; (try clear hb); (try clear hb2); (try clear hk); (try clear hi)))
  repeat (go_quiet (first | ((with_reducible refine gate_dst (N := 21) rfl ?_); refine Kd.R_lit (Kd.int .i64) _ 2 ?hg (N := 21) ?hd (xs := ([a2] : List Int)) (inner := [.int .i64 a2]) (ok := fun _ => True) (okp := fun _ => True) ?hr ?hp (fun _ hk => hk) trivial (Below.refl _ _) (Nat.le_refl _) (by simp) ?_; (case hd => rfl); (case hg => rfl); (case hr => first | (go_simp; done) | (go_simp; rfl)); (case hp => exact (Reps.one (show Kd.M (Kd.int .i64) _ _ _ a2 [.int .i64 a2] from rfl) (Reps.none _ _))); intro v550 w78 ho79 hb hg_ hnew_; clear hg_ hnew_; (first | rw [← Ny549.out] at ho79 | (simp only [Int.reduceToNat] at ho79; rw [← Ny549.out] at ho79)); have n0_ := Aside0.mk (Kd.R_lower ho79 (below_size (by repeat (first | (with_reducible first | exact HB.out | apply below_alloc | apply pw_below_drewN | apply below_drew1) | exact HB.out)))); have n1_ := Aside0.mk (below_step (by repeat (first | (with_reducible first | exact HB.out | apply below_alloc | apply pw_below_drewN | apply below_drew1) | exact HB.out)) hb); clear HB; have HO551 := n0_; have HB := n1_; clear n0_ n1_; clear hb ho79; obtain ⟨Ao80, co80, eo80⟩ := Kd.R_slice HO551.out; subst eo80) | (go_at_call 30; (with_reducible refine (impl_nodeAsked.calls k a0 _ _ l1 _ _ y549 t552 _ ?side1 ?side2 ?side3 ?side4 A4.out).mono ?_); (case side1 => repeat (first | exact (Kd.C_below HR1.out HB.out) | (with_reducible refine Kd.C_alloc ?_ _) | (with_reducible refine Kd.C_drewN ?_ _) | (with_reducible refine Kd.C_drew ?_))); (case side2 => exact HC1.out); (case side3 => repeat (first | exact (Kd.R_reads' HO551.out).2.2 | (with_reducible refine Kd.C_alloc ?_ _) | (with_reducible refine Kd.C_drewN ?_ _) | (with_reducible refine Kd.C_drew ?_))); (case side4 => exact (Kd.R_reads' HO551.out).2.1); rintro e w81 ⟨rfl, hb⟩; have n0_ := Aside0.mk (Kd.R_below (by (with_reducible repeat (first | apply Kd.R_alloc | apply Kd.R_drewN | apply Kd.R_drew)); exact HO551.out) hb); have n1_ := Aside0.mk (below_step (by repeat (first | (with_reducible first | exact HB.out | apply below_alloc | apply pw_below_drewN | apply below_drew1) | exact HB.out)) hb); clear HO551; clear HB; have HO551 := n0_; have HB := n1_; clear n0_ n1_; (try clear hb); (try clear hb2); (try clear hk); (try clear hi))); try go_wp2_with (first | ((with_reducible refine gate_dst (N := 21) rfl ?_); refine Kd.R_lit (Kd.int .i64) _ 2 ?hg (N := 21) ?hd (xs := ([a2] : List Int)) (inner := [.int .i64 a2]) (ok := fun _ => True) (okp := fun _ => True) ?hr ?hp (fun _ hk => hk) trivial (Below.refl _ _) (Nat.le_refl _) (by simp) ?_; (case hd => rfl); (case hg => rfl); (case hr => first | (go_simp; done) | (go_simp; rfl)); (case hp => exact (Reps.one (show Kd.M (Kd.int .i64) _ _ _ a2 [.int .i64 a2] from rfl) (Reps.none _ _))); intro v550 w78 ho79 hb hg_ hnew_; clear hg_ hnew_; (first | rw [← Ny549.out] at ho79 | (simp only [Int.reduceToNat] at ho79; rw [← Ny549.out] at ho79)); have n0_ := Aside0.mk (Kd.R_lower ho79 (below_size (by repeat (first | (with_reducible first | exact HB.out | apply below_alloc | apply pw_below_drewN | apply below_drew1) | exact HB.out)))); have n1_ := Aside0.mk (below_step (by repeat (first | (with_reducible first | exact HB.out | apply below_alloc | apply pw_below_drewN | apply below_drew1) | exact HB.out)) hb); clear HB; have HO551 := n0_; have HB := n1_; clear n0_ n1_; clear hb ho79; obtain ⟨Ao80, co80, eo80⟩ := Kd.R_slice HO551.out; subst eo80) | (go_at_call 30; (with_reducible refine (impl_nodeAsked.calls k a0 _ _ l1 _ _ y549 t552 _ ?side1 ?side2 ?side3 ?side4 A4.out).mono ?_); (case side1 => repeat (first | exact (Kd.C_below HR1.out HB.out) | (with_reducible refine Kd.C_alloc ?_ _) | (with_reducible refine Kd.C_drewN ?_ _) | (with_reducible refine Kd.C_drew ?_))); (case side2 => exact HC1.out); (case side3 => repeat (first | exact (Kd.R_reads' HO551.out).2.2 | (with_reducible refine Kd.C_alloc ?_ _) | (with_reducible refine Kd.C_drewN ?_ _) | (with_reducible refine Kd.C_drew ?_))); (case side4 => exact (Kd.R_reads' HO551.out).2.1); rintro e w81 ⟨rfl, hb⟩; have n0_ := Aside0.mk (Kd.R_below (by (with_reducible repeat (first | apply Kd.R_alloc | apply Kd.R_drewN | apply Kd.R_drew)); exact HO551.out) hb); have n1_ := Aside0.mk (below_step (by repeat (first | (with_reducible first | exact HB.out | apply below_alloc | apply pw_below_drewN | apply below_drew1) | exact HB.out)) hb); clear HO551; clear HB; have HO551 := n0_; have HB := n1_; clear n0_ n1_; (try clear hb); (try clear hb2); (try clear hk); (try clear hi))))
  go_ret2
  exact ⟨_, by first | rfl | (simp [errW_none, errW_some] <;> rfl) | (simp [*, errW_none, errW_some] <;> rfl), by first | exact Kd.R_nil _ _ _ _ _ | exact Kd.N_nil _ _ _ _ _ | exact Kd.V_nil _ _ _ _ _ | exact Kd.Q_nil _ _ _ _ _ | exact Kd.S_nil _ _ _ _ _, by repeat (first | (with_reducible first | exact HB.out | apply below_alloc | apply pw_below_drewN | apply below_drew1) | exact HB.out)⟩
end Go.Proofs.Ytipgcjonidlloaa.F
namespace Go.Proofs.Ytipgcjonidlloaa.F
open Go.RowKit Go.Proofs.YtipgcjonidlloaaW.PrintWords Go.Proofs.YtipgcjonidlloaaW.PrintLast Go.Proofs.YtipgcjonidlloaaW.PrintMore
attribute [local go_sem] max2_int min2_int max_two min_two max_three min_three max_four min_four   -- for this text's walks alone
set_option linter.unusedVariables false
set_option linter.unusedSimpArgs false
def laws_eqInt64S.l0 : Nat → List Int → List Int → Int → Option (Bool)
 | 0, _, _, _ => none
 | k + 1, x0, x1, x5 => if x5 < (x0.length : Int) then (if 0 ≤ x5 then (if x5 < (x1.length : Int) then (if (rd x0 x5) = (rd x1 x5) then (laws_eqInt64S.l0 k x0 x1 (wrap64 (x5 + 1))) else (some false)) else (none)) else (none)) else (some true)
def laws_eqInt64S.f (k : Nat) (l0 : List Int) (l1 : List Int) : Option (Bool) := if (l0.length : Int) = (l1.length : Int) then (laws_eqInt64S.l0 k l0 l1 0) else (some false)
theorem laws_eqInt64S.mono_l : ∀ k, (∀ y0 y1 y2, LeO (laws_eqInt64S.l0 k y0 y1 y2) (laws_eqInt64S.l0 (k + 1) y0 y1 y2))
 | 0 => fun _ _ _ r h => by simp [laws_eqInt64S.l0] at h
 | k + 1 => by
  have ih0 := laws_eqInt64S.mono_l k
  ·intro y0 y1 y2
   unfold laws_eqInt64S.l0
   repeat' first
   | (with_reducible exact ih0 _ _ _)
   | (with_reducible exact LeO.refl _)
   | (with_reducible exact LeO.none _)
   | (with_reducible refine LeO.ite ?_ ?_)
   | (with_reducible refine LeO.bind ?_ (fun _ => ?_))
   | exact ih0 _ _ _
   | exact LeO.none _
   | refine LeO.ite ?_ ?_
   | refine LeO.bind ?_ (fun _ => ?_)
theorem laws_eqInt64S.mono : ∀ a0 a1 k, LeO (laws_eqInt64S.f k a0 a1) (laws_eqInt64S.f (k + 1) a0 a1) := by
 intro a0 a1 k
 have ih0 := laws_eqInt64S.mono_l k
 unfold laws_eqInt64S.f
 repeat' first
   | (with_reducible exact ih0 _ _ _)
   | (with_reducible exact LeO.refl _)
   | (with_reducible exact LeO.none _)
   | (with_reducible refine LeO.ite ?_ ?_)
   | (with_reducible refine LeO.bind ?_ (fun _ => ?_))
   | exact ih0 _ _ _
   | exact LeO.none _
   | refine LeO.ite ?_ ?_
   | refine LeO.bind ?_ (fun _ => ?_)
set_option maxHeartbeats 8000000 in
set_option maxRecDepth 100000 in
theorem laws_eqInt64S.calls (k : Nat) (A0 : Option Addr) (c0 : Nat) (l0 : List Int) (A1 : Option Addr) (c1 : Nat) (l1 : List Int) (r : Bool) (w : World) (hr0 : Kd.C (Kd.int .i64) w A0 l0.length l0) (hc0 : l0.length ≤ c0) (hr1 : Kd.C (Kd.int .i64) w A1 l1.length l1) (hc1 : l1.length ≤ c1) (h : laws_eqInt64S.f k l0 l1 = some r) :
  Calls Try.prog 15 #[.slice A0 l0.length c0, .slice A1 l1.length c1] w fun e w' => e = .returned (.bool r) ∧ Drawn0 w w' := by
 have HR0 := Aside0.mk hr0
 have HC0 := Aside0.mk hc0
 clear hr0 hc0
 have HR1 := Aside0.mk hr1
 have HC1 := Aside0.mk hc1
 clear hr1 hc1
 have H : (if (l0.length : Int) = (l1.length : Int) then (laws_eqInt64S.l0 k l0 l1 0) else (some false)) = some r := h
 clear h
 by_cases c3 : (l0.length : Int) = (l1.length : Int)
 ·rw [if_pos c3] at H
  have c3b0 : ((l0.length : Int) == (l1.length : Int)) = true := beq_iff_eq.mpr c3
  have c3b1 : ((l0.length : Int) != (l1.length : Int)) = false := bne_eq_false_iff_eq.mpr c3
  have c3b2 : (l0.length == l1.length) = true := by first | simpa using c3 | (simp at c3 ⊢; omega)
  clear c3
  have H' := Aside0.mk H
  clear H
  go_enter Try.func15, Try.ntmps15
  go_wp2
  repeat (go_quiet (fail); try go_wp2)
  go_loopg [5] k (fun kq v5 w' => ∃ (x5_1 : Int), v5 = .int .i64 x5_1 ∧ Aside0 (laws_eqInt64S.l0 kq l0 l1 x5_1 = some r) ∧ Aside0 (kq ≤ k) ∧ Drawn0 w w')
  case atStart => exact ⟨(0), (by first | rfl | (simp; done) | (simp [*]; done)), H', ⟨Nat.le_refl _⟩, by repeat (first | exact Drawn0.refl _ | apply Drawn0.step)⟩
  case round =>
   clear H'
   try clear c1
   try clear p2
   try clear c3
   try clear c3b0
   try clear c3b1
   try clear c3b2
   obtain ⟨x5_1, rfl, HA, HK1, ⟨m1, rfl⟩⟩ := hrel
   cases gk with
   | zero => exact absurd HA.out (by simp [laws_eqInt64S.l0])
   | succ k1 =>
    have H := HA.out
    clear HA
    simp only [laws_eqInt64S.l0] at H
    by_cases c4 : x5_1 < (l0.length : Int)
    ·rw [if_pos c4] at H
     have c4b0 : decide (x5_1 < (l0.length : Int)) = true := decide_eq_true c4
     clear c4
     by_cases c5 : 0 ≤ x5_1
     ·rw [if_pos c5] at H
      have c5b0 : decide (0 ≤ x5_1) = true := decide_eq_true c5
      clear c5
      by_cases c6 : x5_1 < (l1.length : Int)
      ·rw [if_pos c6] at H
       have c6b0 : decide (x5_1 < (l1.length : Int)) = true := decide_eq_true c6
       clear c6
       by_cases c7 : (rd l0 x5_1) = (rd l1 x5_1)
       ·rw [if_pos c7] at H
        have c7b0 : ((rd l0 x5_1) == (rd l1 x5_1)) = true := beq_iff_eq.mpr c7
        have c7b1 : ((rd l0 x5_1) != (rd l1 x5_1)) = false := bne_eq_false_iff_eq.mpr c7
        clear c7
        have H' := Aside0.mk H
        clear H
        have p302 : 0 ≤ (x5_1 : Int) := of_decide_eq_true (by first | (with_reducible assumption) | assumption)
        have q302 : x5_1 < (l0.length : Int) := of_decide_eq_true (by first | (with_reducible assumption) | assumption)
        obtain ⟨ad302, e302, hx302_0⟩ := Kd.at_int HR0.out x5_1 p302 q302
        cases e302
        replace p302 := eq_true p302
        replace q302 := eq_true q302
        have p303 : 0 ≤ (x5_1 : Int) := of_decide_eq_true (by first | (with_reducible assumption) | assumption)
        have q303 : x5_1 < (l1.length : Int) := of_decide_eq_true (by first | (with_reducible assumption) | assumption)
        obtain ⟨ad303, e303, hx303_0⟩ := Kd.at_int HR1.out x5_1 p303 q303
        cases e303
        replace p303 := eq_true p303
        replace q303 := eq_true q303
        go_wp2
        repeat (go_quiet (fail); try go_wp2)
        go_roundg k1
        case measure => have := HK1.out; omega
        case rel => exact ⟨(wrap64 (x5_1 + 1)), (by first | rfl | (simp; done) | (simp [*]; done)), H', ⟨by have := HK1.out; omega⟩, by repeat (first | exact Drawn0.refl _ | apply Drawn0.step)⟩
       ·rw [if_neg c7] at H
        have c7b0 : ((rd l0 x5_1) == (rd l1 x5_1)) = false := beq_eq_false_iff_ne.mpr c7
        have c7b1 : ((rd l0 x5_1) != (rd l1 x5_1)) = true := bne_iff_ne.mpr c7
        obtain rfl := Option.some.inj H
        have p302 : 0 ≤ (x5_1 : Int) := of_decide_eq_true (by first | (with_reducible assumption) | assumption)
        have q302 : x5_1 < (l0.length : Int) := of_decide_eq_true (by first | (with_reducible assumption) | assumption)
        obtain ⟨ad302, e302, hx302_0⟩ := Kd.at_int HR0.out x5_1 p302 q302
        cases e302
        replace p302 := eq_true p302
        replace q302 := eq_true q302
        have p303 : 0 ≤ (x5_1 : Int) := of_decide_eq_true (by first | (with_reducible assumption) | assumption)
        have q303 : x5_1 < (l1.length : Int) := of_decide_eq_true (by first | (with_reducible assumption) | assumption)
        obtain ⟨ad303, e303, hx303_0⟩ := Kd.at_int HR1.out x5_1 p303 q303
        cases e303
        replace p303 := eq_true p303
        replace q303 := eq_true q303
        go_wp2
        repeat (go_quiet (fail); try go_wp2)
        go_ret
        exact ⟨by first | rfl | (simp; done) | (simp [*]; done), by repeat (first | exact Drawn0.refl _ | apply Drawn0.step)⟩
      ·rw [if_neg c6] at H
       exact absurd H (by simp)
     ·rw [if_neg c5] at H
      exact absurd H (by simp)
    ·rw [if_neg c4] at H
     have c4b0 : decide (x5_1 < (l0.length : Int)) = false := decide_eq_false c4
     clear c4
     obtain rfl := Option.some.inj H
     go_wp2
     repeat (go_quiet (fail); try go_wp2)
     go_ret
     exact ⟨by first | rfl | (simp; done) | (simp [*]; done), by repeat (first | exact Drawn0.refl _ | apply Drawn0.step)⟩
 ·rw [if_neg c3] at H
  have c3b0 : ((l0.length : Int) == (l1.length : Int)) = false := beq_eq_false_iff_ne.mpr c3
  have c3b1 : ((l0.length : Int) != (l1.length : Int)) = true := bne_iff_ne.mpr c3
  have c3b2 : (l0.length == l1.length) = false := by first | simpa using c3 | (simp at c3 ⊢; omega)
  obtain rfl := Option.some.inj H
  go_enter Try.func15, Try.ntmps15
  go_wp2
  repeat (go_quiet (fail); try go_wp2)
  go_ret
  exact ⟨by first | rfl | (simp; done) | (simp [*]; done), by repeat (first | exact Drawn0.refl _ | apply Drawn0.step)⟩
def laws_markInt64S.l0 : Nat → List Int → Int → Int → Option (Int × List Int)
 | 0, _, _, _ => none
 | k + 1, x0, x1, x5 => if x5 < (x0.length : Int) then (if 0 ≤ x5 then (laws_markInt64S.l0 k (x0.set (x5 : Int).toNat x1) (wrap64 (x1 + 1)) (wrap64 (x5 + 1))) else (none)) else (some (x1, x0))
def laws_markInt64S.f (k : Nat) (l0 : List Int) (a1 : Int) : Option (Int × List Int) := laws_markInt64S.l0 k l0 a1 0
theorem laws_markInt64S.mono_l : ∀ k, (∀ y0 y1 y2, LeO (laws_markInt64S.l0 k y0 y1 y2) (laws_markInt64S.l0 (k + 1) y0 y1 y2))
 | 0 => fun _ _ _ r h => by simp [laws_markInt64S.l0] at h
 | k + 1 => by
  have ih0 := laws_markInt64S.mono_l k
  ·intro y0 y1 y2
   unfold laws_markInt64S.l0
   repeat' first
   | (with_reducible exact ih0 _ _ _)
   | (with_reducible exact LeO.refl _)
   | (with_reducible exact LeO.none _)
   | (with_reducible refine LeO.ite ?_ ?_)
   | (with_reducible refine LeO.bind ?_ (fun _ => ?_))
   | exact ih0 _ _ _
   | exact LeO.none _
   | refine LeO.ite ?_ ?_
   | refine LeO.bind ?_ (fun _ => ?_)
theorem laws_markInt64S.mono : ∀ a0 a1 k, LeO (laws_markInt64S.f k a0 a1) (laws_markInt64S.f (k + 1) a0 a1) := by
 intro a0 a1 k
 have ih0 := laws_markInt64S.mono_l k
 unfold laws_markInt64S.f
 repeat' first
   | (with_reducible exact ih0 _ _ _)
   | (with_reducible exact LeO.refl _)
   | (with_reducible exact LeO.none _)
   | (with_reducible refine LeO.ite ?_ ?_)
   | (with_reducible refine LeO.bind ?_ (fun _ => ?_))
   | exact ih0 _ _ _
   | exact LeO.none _
   | refine LeO.ite ?_ ?_
   | refine LeO.bind ?_ (fun _ => ?_)
set_option maxHeartbeats 8000000 in
set_option maxRecDepth 100000 in
theorem laws_markInt64S.calls (k : Nat) (P0_ : Nat → Prop) (u9000_ : Value) (l0 : List Int) (a1 : Int) (r1 : Int) (r2 : List Int) (w0 w : World) (hB : Below w0.heap.size w0 w) (ho0 : Kd.R (Kd.int .i64) 2 w w0.heap.size P0_ u9000_ l0) (h : laws_markInt64S.f k l0 a1 = some (r1, r2)) :
  Calls Try.prog 17 #[u9000_, .int .i64 a1] w fun e w' => e = .returned (.int .i64 r1) ∧ Kd.R (Kd.int .i64) 2 w' w0.heap.size (fun k_ => (P0_ k_ ∨ w.heap.size ≤ k_)) u9000_ r2 ∧ Below w0.heap.size w0 w' ∧ Kept w w' (fun k_ => P0_ k_) := by
 have HO0 := Aside0.mk (show Kd.R (Kd.int .i64) 2 w w0.heap.size (fun k_ => (P0_ k_ ∨ w.heap.size ≤ k_)) u9000_ l0 from Kd.R_mono ho0 (fun k_ hk => (.inl hk)))
 have HK := Aside0.mk (Kept.refl w (fun k_ => P0_ k_))
 have HW0 := Aside0.mk hB.size
 have HB := Aside0.mk hB
 clear hB
 have H : (laws_markInt64S.l0 k l0 a1 0) = some (r1, r2) := h
 clear h
 have H' := Aside0.mk H
 clear H
 go_enter Try.func17, Try.ntmps17
 go_wp2
 go_loopg [1, 5] k (fun kq v1 v5 w' => ∃ (x0_1 : List Int) (x1_1 : Int) (x5_1 : Int), v1 = .int .i64 x1_1 ∧ v5 = .int .i64 x5_1 ∧ Aside0 (laws_markInt64S.l0 kq x0_1 x1_1 x5_1 = some (r1, r2)) ∧ Aside0 (kq ≤ k) ∧ Aside0 (Kd.R (Kd.int .i64) 2 w' w0.heap.size (fun k_ => (P0_ k_ ∨ w.heap.size ≤ k_)) u9000_ x0_1) ∧ Aside0 (Kept w w' (fun k_ => P0_ k_)) ∧ Aside0 (Below w0.heap.size w0 w'))
 case atStart => exact ⟨(l0), (a1), (0), (by first | rfl | (simp; done) | (simp [*]; done)), (by first | rfl | (simp; done) | (simp [*]; done)), H', ⟨Nat.le_refl _⟩, ⟨by (with_reducible repeat (first | apply Kd.R_alloc | apply Kd.R_drewN | apply Kd.R_drew)); exact HO0.out⟩, ⟨by repeat (first | (with_reducible first | exact HK.out | apply Kept.alloc | apply Kept.drewN | apply Kept.drew) | exact HK.out)⟩, ⟨by repeat (first | (with_reducible first | exact HB.out | apply below_alloc | apply pw_below_drewN | apply below_drew1) | exact HB.out)⟩⟩
 case round =>
  clear H'
  try clear c1
  try clear p2
  obtain ⟨x0_1, x1_1, x5_1, rfl, rfl, HA, HK1, HO_0, HK, HB⟩ := hrel
  cases gk with
  | zero => exact absurd HA.out (by simp [laws_markInt64S.l0])
  | succ k1 =>
   have H := HA.out
   clear HA
   simp only [laws_markInt64S.l0] at H
   by_cases c3 : x5_1 < (x0_1.length : Int)
   ·rw [if_pos c3] at H
    have c3b0 : decide (x5_1 < (x0_1.length : Int)) = true := decide_eq_true c3
    clear c3
    by_cases c4 : 0 ≤ x5_1
    ·rw [if_pos c4] at H
     have c4b0 : decide (0 ≤ x5_1) = true := decide_eq_true c4
     clear c4
     obtain ⟨y308, hy308⟩ : ∃ y_ : List Int, y_ = (x0_1.set (x5_1 : Int).toNat x1_1) := ⟨_, rfl⟩
     replace H : (laws_markInt64S.l0 k1 y308 (wrap64 (x1_1 + 1)) (wrap64 (x5_1 + 1))) = some (r1, r2) := by first | (rw [hy308]; with_reducible exact H) | (have H2_ := (Option.bind_some _ _).symm.trans H; rw [hy308]; with_reducible exact H2_) | (have H2_ := (Option.bind_some _ _).symm.trans H; with_reducible exact H2_) | with_reducible exact H | (rw [hy308]; exact H) | exact H
     have Ny308 := Aside0.mk hy308
     clear hy308
     have H' := Aside0.mk H
     clear H
     obtain ⟨Ao6, co6, eo6⟩ := Kd.R_slice HO_0.out
     subst eo6
     have p5 : 0 ≤ (x5_1 : Int) := of_decide_eq_true (by first | (with_reducible assumption) | assumption)
     have q5 : (x5_1 : Int) < ((x0_1.length : Int) : Int) := of_decide_eq_true (by first | (with_reducible assumption) | assumption)
     obtain ⟨go5, co5, eo5, gb5, gl5, cl5, HG5⟩ := Kd.R_form HO_0.out (by omega)
     (first | cases eo5 | (injection eo5 with ea_ en_ ec_; (first | subst ea_ | (injection ea_ with ea_; subst ea_)); subst ec_; clear en_))
     have GB5 := Aside0.mk gb5
     have GG5 := Aside0.mk HG5
     clear gb5 gl5 HG5
     have HMgo5 := Aside0.mk (show (P0_ go5 ∨ w.heap.size ≤ go5) from (HO_0.out.1 _ rfl))
     obtain ⟨hx5_0, hf5_0⟩ := Kd.R_celln 0 HO_0.out (x5_1 : Int) p5 q5
     replace p5 := eq_true p5
     replace q5 := eq_true q5
     have HP7 := Kd.R_putg HO_0.out (x5_1 : Int) x1_1
     go_wp2_with (first | ((with_reducible refine gate_store (t := 2) (p := 15) rfl ?_); refine store_event (t := 2) (p := 15) (v := ?vo_w8) (w1 := (wr.setCell ⟨go5, (x5_1 : Int).toNat, none⟩ (.int .i64 x1_1))) ?hg ?ho ?hn ?hr ?_; (case ho => rfl); (case hg => rfl); (case hn => rfl); (case hr => first | (go_simp; done) | (go_simp; rfl)); intro w8 hw; have hg : wr.grownBy w8 (some go5) := (by rw [hw]; exact HP7.2); have hp_ : Kd.R (Kd.int .i64) 2 w8 w0.heap.size (fun k_ => (P0_ k_ ∨ w.heap.size ≤ k_)) (.slice (some ⟨go5, 0, none⟩) x0_1.length co6) y308 := (by rw [hw, Ny308.out]; exact HP7.1); clear HP7; have n0_ := Aside0.mk (hp_); have n1_ := Aside0.mk ((by rw [hw]; exact below_set (HB.out) GB5.out : Below w0.heap.size w0 w8)); have n2_ := Aside0.mk (Kept.of_grown (S := (fun k_ => P0_ k_)) hg (by repeat (first | (with_reducible first | exact HK.out | apply Kept.alloc | apply Kept.drewN | apply Kept.drew) | exact HK.out)) (fun k_ e_ => (HO_0.out.1 k_ e_))); clear HO_0; clear HB; clear HK; have HO_0 := n0_; have HB := n1_; have HK := n2_; clear n0_ n1_ n2_; clear hg hw hp_))
     go_roundg k1
     case measure => have := HK1.out; omega
     case rel => exact ⟨(y308), (wrap64 (x1_1 + 1)), (wrap64 (x5_1 + 1)), (by first | rfl | (simp; done) | (simp [*]; done)), (by first | rfl | (simp; done) | (simp [*]; done)), H', ⟨by have := HK1.out; omega⟩, ⟨by (with_reducible repeat (first | apply Kd.R_alloc | apply Kd.R_drewN | apply Kd.R_drew)); exact HO_0.out⟩, ⟨by repeat (first | (with_reducible first | exact HK.out | apply Kept.alloc | apply Kept.drewN | apply Kept.drew) | exact HK.out)⟩, ⟨by repeat (first | (with_reducible first | exact HB.out | apply below_alloc | apply pw_below_drewN | apply below_drew1) | exact HB.out)⟩⟩
    ·rw [if_neg c4] at H
     exact absurd H (by simp)
   ·rw [if_neg c3] at H
    have c3b0 : decide (x5_1 < (x0_1.length : Int)) = false := decide_eq_false c3
    clear c3
    simp only [Option.some.injEq, Prod.mk.injEq] at H
    obtain ⟨rfl, rfl⟩ := H
    obtain ⟨Ao9, co9, eo9⟩ := Kd.R_slice HO_0.out
    subst eo9
    go_wp2
    go_ret
    exact ⟨by first | rfl | (simp [errW_none, errW_some] <;> rfl) | (simp [*, errW_none, errW_some] <;> rfl), by (with_reducible repeat (first | apply Kd.R_alloc | apply Kd.R_drewN | apply Kd.R_drew)); exact HO_0.out, by repeat (first | (with_reducible first | exact HB.out | apply below_alloc | apply pw_below_drewN | apply below_drew1) | exact HB.out), by repeat (first | (with_reducible first | exact HK.out | apply Kept.alloc | apply Kept.drewN | apply Kept.drew) | exact HK.out)⟩
def laws_heldInt64S.l0 : Nat → List Int → Int → Int → Option (Int)
 | 0, _, _, _ => none
 | k + 1, x0, x1, x5 => if x5 < (x0.length : Int) then (if 0 ≤ x5 then (if (rd x0 x5) = x1 then (laws_heldInt64S.l0 k x0 (wrap64 (x1 + 1)) (wrap64 (x5 + 1))) else (some (-1))) else (none)) else (some x1)
def laws_heldInt64S.f (k : Nat) (l0 : List Int) (a1 : Int) : Option (Int) := laws_heldInt64S.l0 k l0 a1 0
theorem laws_heldInt64S.mono_l : ∀ k, (∀ y0 y1 y2, LeO (laws_heldInt64S.l0 k y0 y1 y2) (laws_heldInt64S.l0 (k + 1) y0 y1 y2))
 | 0 => fun _ _ _ r h => by simp [laws_heldInt64S.l0] at h
 | k + 1 => by
  have ih0 := laws_heldInt64S.mono_l k
  ·intro y0 y1 y2
   unfold laws_heldInt64S.l0
   repeat' first
   | (with_reducible exact ih0 _ _ _)
   | (with_reducible exact LeO.refl _)
   | (with_reducible exact LeO.none _)
   | (with_reducible refine LeO.ite ?_ ?_)
   | (with_reducible refine LeO.bind ?_ (fun _ => ?_))
   | exact ih0 _ _ _
   | exact LeO.none _
   | refine LeO.ite ?_ ?_
   | refine LeO.bind ?_ (fun _ => ?_)
theorem laws_heldInt64S.mono : ∀ a0 a1 k, LeO (laws_heldInt64S.f k a0 a1) (laws_heldInt64S.f (k + 1) a0 a1) := by
 intro a0 a1 k
 have ih0 := laws_heldInt64S.mono_l k
 unfold laws_heldInt64S.f
 repeat' first
   | (with_reducible exact ih0 _ _ _)
   | (with_reducible exact LeO.refl _)
   | (with_reducible exact LeO.none _)
   | (with_reducible refine LeO.ite ?_ ?_)
   | (with_reducible refine LeO.bind ?_ (fun _ => ?_))
   | exact ih0 _ _ _
   | exact LeO.none _
   | refine LeO.ite ?_ ?_
   | refine LeO.bind ?_ (fun _ => ?_)
set_option maxHeartbeats 8000000 in
set_option maxRecDepth 100000 in
theorem laws_heldInt64S.calls (k : Nat) (A0 : Option Addr) (c0 : Nat) (l0 : List Int) (a1 : Int) (r : Int) (w : World) (hr0 : Kd.C (Kd.int .i64) w A0 l0.length l0) (hc0 : l0.length ≤ c0) (h : laws_heldInt64S.f k l0 a1 = some r) :
  Calls Try.prog 18 #[.slice A0 l0.length c0, .int .i64 a1] w fun e w' => e = .returned (.int .i64 r) ∧ Drawn0 w w' := by
 have HR0 := Aside0.mk hr0
 have HC0 := Aside0.mk hc0
 clear hr0 hc0
 have H : (laws_heldInt64S.l0 k l0 a1 0) = some r := h
 clear h
 have H' := Aside0.mk H
 clear H
 go_enter Try.func18, Try.ntmps18
 go_wp2
 go_loopg [1, 5] k (fun kq v1 v5 w' => ∃ (x1_1 : Int) (x5_1 : Int), v1 = .int .i64 x1_1 ∧ v5 = .int .i64 x5_1 ∧ Aside0 (laws_heldInt64S.l0 kq l0 x1_1 x5_1 = some r) ∧ Aside0 (kq ≤ k) ∧ Drawn0 w w')
 case atStart => exact ⟨(a1), (0), (by first | rfl | (simp; done) | (simp [*]; done)), (by first | rfl | (simp; done) | (simp [*]; done)), H', ⟨Nat.le_refl _⟩, by repeat (first | exact Drawn0.refl _ | apply Drawn0.step)⟩
 case round =>
  clear H'
  try clear c1
  try clear p2
  obtain ⟨x1_1, x5_1, rfl, rfl, HA, HK1, ⟨m1, rfl⟩⟩ := hrel
  cases gk with
  | zero => exact absurd HA.out (by simp [laws_heldInt64S.l0])
  | succ k1 =>
   have H := HA.out
   clear HA
   simp only [laws_heldInt64S.l0] at H
   by_cases c3 : x5_1 < (l0.length : Int)
   ·rw [if_pos c3] at H
    have c3b0 : decide (x5_1 < (l0.length : Int)) = true := decide_eq_true c3
    clear c3
    by_cases c4 : 0 ≤ x5_1
    ·rw [if_pos c4] at H
     have c4b0 : decide (0 ≤ x5_1) = true := decide_eq_true c4
     clear c4
     by_cases c5 : (rd l0 x5_1) = x1_1
     ·rw [if_pos c5] at H
      have c5b0 : ((rd l0 x5_1) == x1_1) = true := beq_iff_eq.mpr c5
      have c5b1 : ((rd l0 x5_1) != x1_1) = false := bne_eq_false_iff_eq.mpr c5
      clear c5
      have H' := Aside0.mk H
      clear H
      have p309 : 0 ≤ (x5_1 : Int) := of_decide_eq_true (by first | (with_reducible assumption) | assumption)
      have q309 : x5_1 < (l0.length : Int) := of_decide_eq_true (by first | (with_reducible assumption) | assumption)
      obtain ⟨ad309, e309, hx309_0⟩ := Kd.at_int HR0.out x5_1 p309 q309
      cases e309
      replace p309 := eq_true p309
      replace q309 := eq_true q309
      go_wp2
      go_roundg k1
      case measure => have := HK1.out; omega
      case rel => exact ⟨(wrap64 (x1_1 + 1)), (wrap64 (x5_1 + 1)), (by first | rfl | (simp; done) | (simp [*]; done)), (by first | rfl | (simp; done) | (simp [*]; done)), H', ⟨by have := HK1.out; omega⟩, by repeat (first | exact Drawn0.refl _ | apply Drawn0.step)⟩
     ·rw [if_neg c5] at H
      have c5b0 : ((rd l0 x5_1) == x1_1) = false := beq_eq_false_iff_ne.mpr c5
      have c5b1 : ((rd l0 x5_1) != x1_1) = true := bne_iff_ne.mpr c5
      obtain rfl := Option.some.inj H
      have p309 : 0 ≤ (x5_1 : Int) := of_decide_eq_true (by first | (with_reducible assumption) | assumption)
      have q309 : x5_1 < (l0.length : Int) := of_decide_eq_true (by first | (with_reducible assumption) | assumption)
      obtain ⟨ad309, e309, hx309_0⟩ := Kd.at_int HR0.out x5_1 p309 q309
      cases e309
      replace p309 := eq_true p309
      replace q309 := eq_true q309
      go_wp2
      go_ret
      exact ⟨by first | rfl | (simp; done) | (simp [*]; done), by repeat (first | exact Drawn0.refl _ | apply Drawn0.step)⟩
    ·rw [if_neg c4] at H
     exact absurd H (by simp)
   ·rw [if_neg c3] at H
    have c3b0 : decide (x5_1 < (l0.length : Int)) = false := decide_eq_false c3
    clear c3
    obtain rfl := Option.some.inj H
    go_wp2
    go_ret
    exact ⟨by first | rfl | (simp; done) | (simp [*]; done), by repeat (first | exact Drawn0.refl _ | apply Drawn0.step)⟩
end Go.Proofs.Ytipgcjonidlloaa.F
