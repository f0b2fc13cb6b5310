import Derived.Test.YtlnfjhahnacmiaaJFnNeeded6
import Derived.Below
import Derived.Deep.Draws
import Derived.Deep.AppendLies
import Derived.Maps.AppendAt
import Derived.OwnWalk
import Derived.Laws.BytesArg
import Derived.Laws.MakeOwn
import Derived.Laws.OwnMore
import Derived.Tactics
import Derived.Lib.ConvBytes
import Derived.Laws.Slices
import Derived.WalkKit
import Derived.KernelRfl
import Derived.RowKit3
import Derived.Deep.LoopGhost
import Derived.Deep.QuietTactic
import Derived.BigQuiet
import Derived.WideLaws
import Derived.Deep.DeepCutAuto
import Derived.Deep.CutBlock
import Derived.Deep.RegionHeld3
import Derived.Lib.AppendStr
import Derived.ArgAppend
import Derived.Laws.IdiomCopy
import Derived.RowKit
import Derived.OrdersHeld
import Derived.Laws.BitsLemmas
import Derived.Laws.StructEq
import Derived.Test.YtlnfjhahnacmiaaProg
namespace Go.Proofs.Ytlnfjhahnacmiaa.F
open Go.RowKit Go.Proofs.YtlnfjhahnacmiaaW.PrintWords Go.Proofs.YtlnfjhahnacmiaaW.PrintLast Go.Proofs.YtlnfjhahnacmiaaW.PrintMore
attribute [local go_sem] max2_int min2_int max_two min_two max_three min_three max_four min_four   -- for this text's walks alone
set_option linter.unusedVariables false
set_option linter.unusedSimpArgs false
def spec_IdleFuses.l0 : Nat → List (S39) → List Int → List Int → List Int → Int → Option (List Int × Int)
 | 0, _, _, _, _, _ => none
 | k + 1, x1, x7, x8, x9, x10 => if x10 < (x1.length : Int) then (if 0 ≤ x10 then (if 0 ≤ ((rd_T39 x1 x10).f0) then (if ((rd_T39 x1 x10).f0) < (x7.length : Int) then (if (rd x7 ((rd_T39 x1 x10).f0)) < 0 then (if x9.length < 17592186044416 then (spec_IdleFuses.l0 k x1 x7 x8 (x9 ++ [x10]) (wrap64 (x10 + 1))) else (none)) else (if 0 ≤ ((rd_T39 x1 x10).f1) then (if ((rd_T39 x1 x10).f1) < (x8.length : Int) then (if (wrap64 ((rd x7 ((rd_T39 x1 x10).f0)) + ((rd_T39 x1 x10).f2))) > (rd x8 ((rd_T39 x1 x10).f1)) then (if x9.length < 17592186044416 then (spec_IdleFuses.l0 k x1 x7 x8 (x9 ++ [x10]) (wrap64 (x10 + 1))) else (none)) else (spec_IdleFuses.l0 k x1 x7 x8 x9 (wrap64 (x10 + 1)))) else (none)) else (none))) else (none)) else (none)) else (none)) else (some (x9, 0))
def spec_IdleFuses.f (k : Nat) (a0 : Int) (l1 : List (S39)) : Option (List Int × Int) := (spec_l10Code.f k a0 l1 0).bind fun t365 => (if t365 = 0 then ((spec_l10Times.f k a0 l1).bind fun bt366 => (spec_IdleFuses.l0 k l1 bt366.1 bt366.2 (([] : List Int)) 0)) else (some (([] : List Int), t365)))
theorem spec_IdleFuses.mono_l : ∀ k, (∀ y0 y1 y2 y3 y4, LeO (spec_IdleFuses.l0 k y0 y1 y2 y3 y4) (spec_IdleFuses.l0 (k + 1) y0 y1 y2 y3 y4))
 | 0 => fun _ _ _ _ _ r h => by simp [spec_IdleFuses.l0] at h
 | k + 1 => by
  have ih0 := spec_IdleFuses.mono_l k
  ·intro y0 y1 y2 y3 y4
   unfold spec_IdleFuses.l0
   repeat' first
   | (with_reducible exact ih0 _ _ _ _ _)
   | (with_reducible exact spec_l10Code.mono _ _ _ _)
   | (with_reducible exact spec_l10Times.mono _ _ _)
   | (with_reducible exact LeO.refl _)
   | (with_reducible exact LeO.none _)
   | (with_reducible refine LeO.ite ?_ ?_)
   | (with_reducible refine LeO.bind ?_ (fun _ => ?_))
   | exact ih0 _ _ _ _ _
   | exact spec_l10Code.mono _ _ _ _
   | exact spec_l10Times.mono _ _ _
   | exact LeO.none _
   | refine LeO.ite ?_ ?_
   | refine LeO.bind ?_ (fun _ => ?_)
theorem spec_IdleFuses.mono : ∀ a0 a1 k, LeO (spec_IdleFuses.f k a0 a1) (spec_IdleFuses.f (k + 1) a0 a1) := by
 intro a0 a1 k
 have ih0 := spec_IdleFuses.mono_l k
 unfold spec_IdleFuses.f
 repeat' first
   | (with_reducible exact ih0 _ _ _ _ _)
   | (with_reducible exact spec_l10Code.mono _ _ _ _)
   | (with_reducible exact spec_l10Times.mono _ _ _)
   | (with_reducible exact LeO.refl _)
   | (with_reducible exact LeO.none _)
   | (with_reducible refine LeO.ite ?_ ?_)
   | (with_reducible refine LeO.bind ?_ (fun _ => ?_))
   | exact ih0 _ _ _ _ _
   | exact spec_l10Code.mono _ _ _ _
   | exact spec_l10Times.mono _ _ _
   | exact LeO.none _
   | refine LeO.ite ?_ ?_
   | refine LeO.bind ?_ (fun _ => ?_)
set_option maxHeartbeats 8000000 in
set_option maxRecDepth 100000 in
theorem spec_IdleFuses.calls (k : Nat) (a0 : Int) (A1 : Option Addr) (c1 : Nat) (l1 : List (S39)) (r1 : List Int) (r2 : Int) (w : World) (hr1 : Kd.C k39 w A1 l1.length l1) (hc1 : l1.length ≤ c1) (h : spec_IdleFuses.f k a0 l1 = some (r1, r2)) :
  Calls Try.prog 11 #[.int .i64 a0, .slice A1 l1.length c1] w fun e w' => ∃ v0_ : Value, e = .returned (.tuple #[v0_, .int .i64 r2]) ∧ Kd.R (Kd.int .i64) 2 w' w.heap.size (fun _ => True) v0_ r1 ∧ Below w.heap.size w w' := by
 have hu39 := Try.underlying39
 have HR1 := Aside0.mk hr1
 have HC1 := Aside0.mk hc1
 clear hr1 hc1
 have HB := Aside0.mk (Below.refl w.heap.size w)
 have H : ((spec_l10Code.f k a0 l1 0).bind fun t365 => (if t365 = 0 then ((spec_l10Times.f k a0 l1).bind fun bt366 => (spec_IdleFuses.l0 k l1 bt366.1 bt366.2 (([] : List Int)) 0)) else (some (([] : List Int), t365)))) = some (r1, r2) := h
 clear h
 replace H := Option.bind_eq_some_iff.mp H
 obtain ⟨t365, A30, H⟩ := H
 replace H : (if t365 = 0 then ((spec_l10Times.f k a0 l1).bind fun bt366 => (spec_IdleFuses.l0 k l1 bt366.1 bt366.2 (([] : List Int)) 0)) else (some (([] : List Int), t365))) = some (r1, r2) := H
 have A3 := Aside0.mk A30
 clear A30
 by_cases c4 : t365 = 0
 ·rw [if_pos c4] at H
  have c4b0 : (t365 == 0) = true := beq_iff_eq.mpr c4
  have c4b1 : (t365 != 0) = false := bne_eq_false_iff_eq.mpr c4
  clear c4
  replace H := Option.bind_eq_some_iff.mp H
  obtain ⟨⟨t366, t367⟩, A50, H⟩ := H
  replace H : (spec_IdleFuses.l0 k l1 t366 t367 (([] : List Int)) 0) = some (r1, r2) := H
  have A5 := Aside0.mk A50
  clear A50
  obtain ⟨y372, hy372⟩ : ∃ y_ : List Int, y_ = (([] : List Int)) := ⟨_, rfl⟩
  replace H : (spec_IdleFuses.l0 k l1 t366 t367 y372 0) = some (r1, r2) := by first | (rw [hy372]; with_reducible exact H) | (have H2_ := (Option.bind_some _ _).symm.trans H; rw [hy372]; with_reducible exact H2_) | (have H2_ := (Option.bind_some _ _).symm.trans H; with_reducible exact H2_) | with_reducible exact H | (rw [hy372]; exact H) | exact H
  have Ny372 := Aside0.mk hy372
  clear hy372
  have H' := Aside0.mk H
  clear H
  go_enter Try.func11, Try.ntmps11
  go_wp2_with (first | (go_at_call 37; (with_reducible refine (spec_l10Code.calls k a0 _ _ l1 0 t365 _ ?side1 ?side2 A3.out).mono ?_); (case side1 => repeat (first | exact HR1.out | (with_reducible refine Kd.C_alloc ?_ _) | (with_reducible refine Kd.C_drewN ?_ _) | (with_reducible refine Kd.C_drew ?_))); (case side2 => exact HC1.out); rintro e w6 ⟨rfl, hb⟩; have n0_ := Aside0.mk (below_step (by repeat (first | (with_reducible first | exact HB.out | apply below_alloc | apply pw_below_drewN | apply below_drew1) | exact HB.out)) hb); clear HB; have HB := n0_; clear n0_; (try clear hb); (try clear hb2); (try clear hk); (try clear hi)) | (go_at_call 38; (with_reducible refine (spec_l10Times.calls k a0 _ _ l1 t366 t367 _ ?side1 ?side2 A5.out).mono ?_); (case side1 => repeat (first | exact (Kd.C_below HR1.out HB.out) | (with_reducible refine Kd.C_alloc ?_ _) | (with_reducible refine Kd.C_drewN ?_ _) | (with_reducible refine Kd.C_drew ?_))); (case side2 => exact HC1.out); rintro e w7 ⟨v368, v370, rfl, ho0, ho1, hb⟩; have n0_ := Aside0.mk (Kd.R_lower ho0 (below_size (by repeat (first | (with_reducible first | exact HB.out | apply below_alloc | apply pw_below_drewN | apply below_drew1) | exact HB.out)))); have n1_ := Aside0.mk (Kd.R_lower ho1 (below_size (by repeat (first | (with_reducible first | exact HB.out | apply below_alloc | apply pw_below_drewN | apply below_drew1) | exact HB.out)))); have n2_ := Aside0.mk (below_step (by repeat (first | (with_reducible first | exact HB.out | apply below_alloc | apply pw_below_drewN | apply below_drew1) | exact HB.out)) hb); clear HB; have HO369 := n0_; have HO371 := n1_; have HB := n2_; clear n0_ n1_ n2_; (try clear hb); (try clear hb2); (try clear hk); (try clear hi); (try clear ho0); (try clear ho1)) | ((with_reducible refine gate_dst (N := 24) rfl ?_); refine Kd.R_lit (Kd.int .i64) _ 2 ?hg (N := 24) ?hd (xs := ([] : List Int)) (inner := []) (ok := fun _ => True) (okp := fun _ => True) ?hr ?hp (fun _ hk => hk) trivial (Below.refl _ _) (Nat.le_refl _) (by simp) ?_; (case hd => rfl); (case hg => rfl); (case hr => first | (go_simp; done) | (go_simp; rfl)); (case hp => exact (Reps.none _ _)); intro v373 w8 ho9 hb hg_ hnew_; clear hg_ hnew_; (first | rw [← Ny372.out] at ho9 | (simp only [Int.reduceToNat] at ho9; rw [← Ny372.out] at ho9)); have n0_ := Aside0.mk (Kd.R_elder' (by (with_reducible repeat (first | apply Kd.R_alloc | apply Kd.R_drewN | apply Kd.R_drew)); exact HO369.out) (Kd.R_base ho9) hb); have n1_ := Aside0.mk (Kd.R_elder' (by (with_reducible repeat (first | apply Kd.R_alloc | apply Kd.R_drewN | apply Kd.R_drew)); exact HO371.out) (Kd.R_base ho9) hb); have n2_ := Aside0.mk (Kd.R_lower (Kd.R_new' (Kd.R_new' ho9 (Kd.R_lt (by (with_reducible repeat (first | apply Kd.R_alloc | apply Kd.R_drewN | apply Kd.R_drew)); exact HO369.out))) (Kd.R_lt (by (with_reducible repeat (first | apply Kd.R_alloc | apply Kd.R_drewN | apply Kd.R_drew)); exact HO371.out))) (below_size (by repeat (first | (with_reducible first | exact HB.out | apply below_alloc | apply pw_below_drewN | apply below_drew1) | exact HB.out)))); have n3_ := Aside0.mk (below_step (by repeat (first | (with_reducible first | exact HB.out | apply below_alloc | apply pw_below_drewN | apply below_drew1) | exact HB.out)) hb); clear HO369; clear HO371; clear HB; have HO369 := n0_; have HO371 := n1_; have HO374 := n2_; have HB := n3_; clear n0_ n1_ n2_ n3_; clear hb ho9))
  repeat (go_quiet (first | (go_at_call 37; (with_reducible refine (spec_l10Code.calls k a0 _ _ l1 0 t365 _ ?side1 ?side2 A3.out).mono ?_); (case side1 => repeat (first | exact HR1.out | (with_reducible refine Kd.C_alloc ?_ _) | (with_reducible refine Kd.C_drewN ?_ _) | (with_reducible refine Kd.C_drew ?_))); (case side2 => exact HC1.out); rintro e w6 ⟨rfl, hb⟩; have n0_ := Aside0.mk (below_step (by repeat (first | (with_reducible first | exact HB.out | apply below_alloc | apply pw_below_drewN | apply below_drew1) | exact HB.out)) hb); clear HB; have HB := n0_; clear n0_; (try clear hb); (try clear hb2); (try clear hk); (try clear hi)) | (go_at_call 38; (with_reducible refine (spec_l10Times.calls k a0 _ _ l1 t366 t367 _ ?side1 ?side2 A5.out).mono ?_); (case side1 => repeat (first | exact (Kd.C_below HR1.out HB.out) | (with_reducible refine Kd.C_alloc ?_ _) | (with_reducible refine Kd.C_drewN ?_ _) | (with_reducible refine Kd.C_drew ?_))); (case side2 => exact HC1.out); rintro e w7 ⟨v368, v370, rfl, ho0, ho1, hb⟩; have n0_ := Aside0.mk (Kd.R_lower ho0 (below_size (by repeat (first | (with_reducible first | exact HB.out | apply below_alloc | apply pw_below_drewN | apply below_drew1) | exact HB.out)))); have n1_ := Aside0.mk (Kd.R_lower ho1 (below_size (by repeat (first | (with_reducible first | exact HB.out | apply below_alloc | apply pw_below_drewN | apply below_drew1) | exact HB.out)))); have n2_ := Aside0.mk (below_step (by repeat (first | (with_reducible first | exact HB.out | apply below_alloc | apply pw_below_drewN | apply below_drew1) | exact HB.out)) hb); clear HB; have HO369 := n0_; have HO371 := n1_; have HB := n2_; clear n0_ n1_ n2_; (try clear hb); (try clear hb2); (try clear hk); (try clear hi); (try clear ho0); (try clear ho1)) | ((with_reducible refine gate_dst (N := 24) rfl ?_); refine Kd.R_lit (Kd.int .i64) _ 2 ?hg (N := 24) ?hd (xs := ([] : List Int)) (inner := []) (ok := fun _ => True) (okp := fun _ => True) ?hr ?hp (fun _ hk => hk) trivial (Below.refl _ _) (Nat.le_refl _) (by simp) ?_; (case hd => rfl); (case hg => rfl); (case hr => first | (go_simp; done) | (go_simp; rfl)); (case hp => exact (Reps.none _ _)); intro v373 w8 ho9 hb hg_ hnew_; clear hg_ hnew_; (first | rw [← Ny372.out] at ho9 | (simp only [Int.reduceToNat] at ho9; rw [← Ny372.out] at ho9)); have n0_ := Aside0.mk (Kd.R_elder' (by (with_reducible repeat (first | apply Kd.R_alloc | apply Kd.R_drewN | apply Kd.R_drew)); exact HO369.out) (Kd.R_base ho9) hb); have n1_ := Aside0.mk (Kd.R_elder' (by (with_reducible repeat (first | apply Kd.R_alloc | apply Kd.R_drewN | apply Kd.R_drew)); exact HO371.out) (Kd.R_base ho9) hb); have n2_ := Aside0.mk (Kd.R_lower (Kd.R_new' (Kd.R_new' ho9 (Kd.R_lt (by (with_reducible repeat (first | apply Kd.R_alloc | apply Kd.R_drewN | apply Kd.R_drew)); exact HO369.out))) (Kd.R_lt (by (with_reducible repeat (first | apply Kd.R_alloc | apply Kd.R_drewN | apply Kd.R_drew)); exact HO371.out))) (below_size (by repeat (first | (with_reducible first | exact HB.out | apply below_alloc | apply pw_below_drewN | apply below_drew1) | exact HB.out)))); have n3_ := Aside0.mk (below_step (by repeat (first | (with_reducible first | exact HB.out | apply below_alloc | apply pw_below_drewN | apply below_drew1) | exact HB.out)) hb); clear HO369; clear HO371; clear HB; have HO369 := n0_; have HO371 := n1_; have HO374 := n2_; have HB := n3_; clear n0_ n1_ n2_ n3_; clear hb ho9)); try go_wp2_with (first | (go_at_call 37; (with_reducible refine (spec_l10Code.calls k a0 _ _ l1 0 t365 _ ?side1 ?side2 A3.out).mono ?_); (case side1 => repeat (first | exact HR1.out | (with_reducible refine Kd.C_alloc ?_ _) | (with_reducible refine Kd.C_drewN ?_ _) | (with_reducible refine Kd.C_drew ?_))); (case side2 => exact HC1.out); rintro e w6 ⟨rfl, hb⟩; have n0_ := Aside0.mk (below_step (by repeat (first | (with_reducible first | exact HB.out | apply below_alloc | apply pw_below_drewN | apply below_drew1) | exact HB.out)) hb); clear HB; have HB := n0_; clear n0_; (try clear hb); (try clear hb2); (try clear hk); (try clear hi)) | (go_at_call 38; (with_reducible refine (spec_l10Times.calls k a0 _ _ l1 t366 t367 _ ?side1 ?side2 A5.out).mono ?_); (case side1 => repeat (first | exact (Kd.C_below HR1.out HB.out) | (with_reducible refine Kd.C_alloc ?_ _) | (with_reducible refine Kd.C_drewN ?_ _) | (with_reducible refine Kd.C_drew ?_))); (case side2 => exact HC1.out); rintro e w7 ⟨v368, v370, rfl, ho0, ho1, hb⟩; have n0_ := Aside0.mk (Kd.R_lower ho0 (below_size (by repeat (first | (with_reducible first | exact HB.out | apply below_alloc | apply pw_below_drewN | apply below_drew1) | exact HB.out)))); have n1_ := Aside0.mk (Kd.R_lower ho1 (below_size (by repeat (first | (with_reducible first | exact HB.out | apply below_alloc | apply pw_below_drewN | apply below_drew1) | exact HB.out)))); have n2_ := Aside0.mk (below_step (by repeat (first | (with_reducible first | exact HB.out | apply below_alloc | apply pw_below_drewN | apply below_drew1) | exact HB.out)) hb); clear HB; have HO369 := n0_; have HO371 := n1_; have HB := n2_; clear n0_ n1_ n2_; (try clear hb); (try clear hb2); (try clear hk); (try clear hi); (try clear ho0); (try clear ho1)) | ((with_reducible refine gate_dst (N := 24) rfl ?_); refine Kd.R_lit (Kd.int .i64) _ 2 ?hg (N := 24) ?hd (xs := ([] : List Int)) (inner := []) (ok := fun _ => True) (okp := fun _ => True) ?hr ?hp (fun _ hk => hk) trivial (Below.refl _ _) (Nat.le_refl _) (by simp) ?_; (case hd => rfl); (case hg => rfl); (case hr => first | (go_simp; done) | (go_simp; rfl)); (case hp => exact (Reps.none _ _)); intro v373 w8 ho9 hb hg_ hnew_; clear hg_ hnew_; (first | rw [← Ny372.out] at ho9 | (simp only [Int.reduceToNat] at ho9; rw [← Ny372.out] at ho9)); have n0_ := Aside0.mk (Kd.R_elder' (by (with_reducible repeat (first | apply Kd.R_alloc | apply Kd.R_drewN | apply Kd.R_drew)); exact HO369.out) (Kd.R_base ho9) hb); have n1_ := Aside0.mk (Kd.R_elder' (by (with_reducible repeat (first | apply Kd.R_alloc | apply Kd.R_drewN | apply Kd.R_drew)); exact HO371.out) (Kd.R_base ho9) hb); have n2_ := Aside0.mk (Kd.R_lower (Kd.R_new' (Kd.R_new' ho9 (Kd.R_lt (by (with_reducible repeat (first | apply Kd.R_alloc | apply Kd.R_drewN | apply Kd.R_drew)); exact HO369.out))) (Kd.R_lt (by (with_reducible repeat (first | apply Kd.R_alloc | apply Kd.R_drewN | apply Kd.R_drew)); exact HO371.out))) (below_size (by repeat (first | (with_reducible first | exact HB.out | apply below_alloc | apply pw_below_drewN | apply below_drew1) | exact HB.out)))); have n3_ := Aside0.mk (below_step (by repeat (first | (with_reducible first | exact HB.out | apply below_alloc | apply pw_below_drewN | apply below_drew1) | exact HB.out)) hb); clear HO369; clear HO371; clear HB; have HO369 := n0_; have HO371 := n1_; have HO374 := n2_; have HB := n3_; clear n0_ n1_ n2_ n3_; clear hb ho9)))
  go_loopg [9, 10] k (fun kq v9 v10 w' => ∃ (x9_1 : List Int) (x10_1 : Int), v10 = .int .i64 x10_1 ∧ Aside0 (spec_IdleFuses.l0 kq l1 t366 t367 x9_1 x10_1 = some (r1, r2)) ∧ Aside0 (kq ≤ k) ∧ Aside0 (Kd.R (Kd.int .i64) 2 w' w.heap.size (fun k_ => some k_ ≠ (v370 : Value).ownBlock ∧ some k_ ≠ (v9 : Value).ownBlock) v368 t366) ∧ Aside0 (Kd.R (Kd.int .i64) 2 w' w.heap.size (fun k_ => some k_ ≠ (v368 : Value).ownBlock ∧ some k_ ≠ (v9 : Value).ownBlock) v370 t367) ∧ Aside0 (Kd.R (Kd.int .i64) 2 w' w.heap.size (fun k_ => some k_ ≠ (v368 : Value).ownBlock ∧ some k_ ≠ (v370 : Value).ownBlock) v9 x9_1) ∧ Aside0 (Below w.heap.size w w'))
  case atStart => exact ⟨(y372), (0), (by first | rfl | (simp; done) | (simp [*]; done)), H', ⟨Nat.le_refl _⟩, ⟨by (with_reducible repeat (first | apply Kd.R_alloc | apply Kd.R_drewN | apply Kd.R_drew)); exact HO369.out⟩, ⟨by (with_reducible repeat (first | apply Kd.R_alloc | apply Kd.R_drewN | apply Kd.R_drew)); exact HO371.out⟩, ⟨by (with_reducible repeat (first | apply Kd.R_alloc | apply Kd.R_drewN | apply Kd.R_drew)); exact Kd.R_mono HO374.out (fun _ hk => ⟨hk.1.2, hk.2⟩)⟩, ⟨by repeat (first | (with_reducible first | exact HB.out | apply below_alloc | apply pw_below_drewN | apply below_drew1) | exact HB.out)⟩⟩
  case round =>
   clear H'
   try clear c1
   try clear p2
   try clear c4
   try clear c4b0
   try clear c4b1
   obtain ⟨x9_1, x10_1, rfl, HA, HK1, HO_7, HO_8, HO_9, HB⟩ := hrel
   cases gk with
   | zero => exact absurd HA.out (by simp [spec_IdleFuses.l0])
   | succ k1 =>
    have H := HA.out
    clear HA
    simp only [spec_IdleFuses.l0] at H
    by_cases c10 : x10_1 < (l1.length : Int)
    ·rw [if_pos c10] at H
     have c10b0 : decide (x10_1 < (l1.length : Int)) = true := decide_eq_true c10
     clear c10
     by_cases c11 : 0 ≤ x10_1
     ·rw [if_pos c11] at H
      have c11b0 : decide (0 ≤ x10_1) = true := decide_eq_true c11
      clear c11
      by_cases c12 : 0 ≤ ((rd_T39 l1 x10_1).f0)
      ·rw [if_pos c12] at H
       have c12b0 : decide (0 ≤ ((rd_T39 l1 x10_1).f0)) = true := decide_eq_true c12
       clear c12
       by_cases c13 : ((rd_T39 l1 x10_1).f0) < (t366.length : Int)
       ·rw [if_pos c13] at H
        have c13b0 : decide (((rd_T39 l1 x10_1).f0) < (t366.length : Int)) = true := decide_eq_true c13
        clear c13
        by_cases c14 : (rd t366 ((rd_T39 l1 x10_1).f0)) < 0
        ·rw [if_pos c14] at H
         have c14b0 : decide ((rd t366 ((rd_T39 l1 x10_1).f0)) < 0) = true := decide_eq_true c14
         clear c14
         by_cases c15 : x9_1.length < 17592186044416
         ·rw [if_pos c15] at H
          have LMc15 := Aside0.mk c15
          clear c15
          obtain ⟨y378, hy378⟩ : ∃ y_ : List Int, y_ = (x9_1 ++ [x10_1]) := ⟨_, rfl⟩
          replace H : (spec_IdleFuses.l0 k1 l1 t366 t367 y378 (wrap64 (x10_1 + 1))) = some (r1, r2) := by first | (rw [hy378]; with_reducible exact H) | (have H2_ := (Option.bind_some _ _).symm.trans H; rw [hy378]; with_reducible exact H2_) | (have H2_ := (Option.bind_some _ _).symm.trans H; with_reducible exact H2_) | with_reducible exact H | (rw [hy378]; exact H) | exact H
          have Ny378 := Aside0.mk hy378
          clear hy378
          have H' := Aside0.mk H
          clear H
          have p375 : 0 ≤ (x10_1 : Int) := of_decide_eq_true (by first | (with_reducible assumption) | assumption)
          have q375 : x10_1 < (l1.length : Int) := of_decide_eq_true (by first | (with_reducible assumption) | assumption)
          obtain ⟨ad375, e375, hx375_0, hx375_1, hx375_2, hx375_3⟩ := at_T39 HR1.out x10_1 p375 q375
          cases e375
          replace hx375_0 := (HB.out.cell (World.block_lt_of_cell? w _ hx375_0)).trans hx375_0
          replace hx375_1 := (HB.out.cell (World.block_lt_of_cell? w _ hx375_1)).trans hx375_1
          replace hx375_2 := (HB.out.cell (World.block_lt_of_cell? w _ hx375_2)).trans hx375_2
          replace hx375_3 := (HB.out.cell (World.block_lt_of_cell? w _ hx375_3)).trans hx375_3
          replace p375 := eq_true p375
          replace q375 := eq_true q375
          go_wp2_with (first | ((with_reducible refine gate_dst (N := 11) rfl ?_); refine box_event ?hg (N := 11) ?hd (cs := #[.int .i64 0, .int .i64 0, .int .i64 0, .int .i64 0]) (t := 39) ?hr ?_; (case hd => rfl); (case hg => rfl); (case hr => first | (go_simp; done) | (go_simp; rfl)); intro gb376 hg w16 hbox hb; have n0_ := Aside0.mk (Kd.R_below (by (with_reducible repeat (first | apply Kd.R_alloc | apply Kd.R_drewN | apply Kd.R_drew)); exact HO_7.out) hb); have n1_ := Aside0.mk (Kd.R_below (by (with_reducible repeat (first | apply Kd.R_alloc | apply Kd.R_drewN | apply Kd.R_drew)); exact HO_8.out) hb); have n2_ := Aside0.mk (Kd.R_below (by (with_reducible repeat (first | apply Kd.R_alloc | apply Kd.R_drewN | apply Kd.R_drew)); exact HO_9.out) hb); have n3_ := Aside0.mk (below_step (by repeat (first | (with_reducible first | exact HB.out | apply below_alloc | apply pw_below_drewN | apply below_drew1) | exact HB.out)) hb); have n4_ := Aside0.mk (hbox); have n5_ := Aside0.mk ((by rw [hg]; exact (below_size (by repeat (first | (with_reducible first | exact HB.out | apply below_alloc | apply pw_below_drewN | apply below_drew1) | exact HB.out))) : w.heap.size ≤ gb376)); have n6_ := Aside0.mk ((by rw [hg]; exact (below_size (by repeat (first | (with_reducible first | exact HB.out | apply below_alloc | apply pw_below_drewN | apply below_drew1) | exact HB.out))) : w.heap.size ≤ gb376)); clear HO_7; clear HO_8; clear HO_9; clear HB; have HO_7 := n0_; have HO_8 := n1_; have HO_9 := n2_; have HB := n3_; have BK376 := n4_; have GW376 := n5_; have GE376 := n6_; clear n0_ n1_ n2_ n3_ n4_ n5_ n6_; clear hb hbox hg; have hcz17_0 : w16.cell? ⟨gb376, 0, none⟩ = some (.int .i64 0) := (blk_cell BK376.out 0).trans rfl; have hcz17_1 : w16.cell? ⟨gb376, 1, none⟩ = some (.int .i64 0) := (blk_cell BK376.out 1).trans rfl; have hcz17_2 : w16.cell? ⟨gb376, 2, none⟩ = some (.int .i64 0) := (blk_cell BK376.out 2).trans rfl; have hcz17_3 : w16.cell? ⟨gb376, 3, none⟩ = some (.int .i64 0) := (blk_cell BK376.out 3).trans rfl; have hfz17_0 := blk_frozen BK376.out 0; have hfz17_1 := blk_frozen BK376.out 1; have hfz17_2 := blk_frozen BK376.out 2; have hfz17_3 := blk_frozen BK376.out 3; obtain ⟨Ao18, co18, eo18⟩ := Kd.R_slice HO_7.out; subst eo18; have p377 : 0 ≤ (((rd_T39 l1 x10_1).f0) : Int) := of_decide_eq_true (by first | (with_reducible assumption) | assumption); have q377 : ((rd_T39 l1 x10_1).f0) < (t366.length : Int) := of_decide_eq_true (by first | (with_reducible assumption) | assumption); obtain ⟨ad377, e377, hx377_0⟩ := Kd.at_int (Kd.R_reads' HO_7.out).2.2 ((rd_T39 l1 x10_1).f0) p377 q377; cases e377; have hn377_0 : ad377.block ≠ gb376 := Kd.own_blk (Kd.R_ne HO_7.out BK376.out (by decide)); have hn377_1 : ad377.block ≠ gb376 := Kd.own_blk (Kd.R_ne HO_7.out BK376.out (by decide)); have hn377_2 : ad377.block ≠ gb376 := Kd.own_blk (Kd.R_ne HO_7.out BK376.out (by decide)); have hn377_3 : ad377.block ≠ gb376 := Kd.own_blk (Kd.R_ne HO_7.out BK376.out (by decide)); replace hx377_0 := (cell_far (p := ⟨gb376, 0, none⟩) (by first | (rw [add_block]; exact hn377_0) | (show (Addr.add _ _).block ≠ _; rw [add_block]; exact hn377_0) | exact hn377_0) (.int .i64 ((rd_T39 l1 x10_1).f0))).trans hx377_0; replace hx377_0 := (cell_far (p := ⟨gb376, 1, none⟩) (by first | (rw [add_block]; exact hn377_1) | (show (Addr.add _ _).block ≠ _; rw [add_block]; exact hn377_1) | exact hn377_1) (.int .i64 ((rd_T39 l1 x10_1).f1))).trans hx377_0; replace hx377_0 := (cell_far (p := ⟨gb376, 2, none⟩) (by first | (rw [add_block]; exact hn377_2) | (show (Addr.add _ _).block ≠ _; rw [add_block]; exact hn377_2) | exact hn377_2) (.int .i64 ((rd_T39 l1 x10_1).f2))).trans hx377_0; replace hx377_0 := (cell_far (p := ⟨gb376, 3, none⟩) (by first | (rw [add_block]; exact hn377_3) | (show (Addr.add _ _).block ≠ _; rw [add_block]; exact hn377_3) | exact hn377_3) (.int .i64 ((rd_T39 l1 x10_1).f3))).trans hx377_0; (try have hy377_0 := fun (n_ : Nat) => (show ((((((w16.drewN n_).setCell ⟨gb376, 0, none⟩ (.int .i64 ((rd_T39 l1 x10_1).f0))).setCell ⟨gb376, 1, none⟩ (.int .i64 ((rd_T39 l1 x10_1).f1))).setCell ⟨gb376, 2, none⟩ (.int .i64 ((rd_T39 l1 x10_1).f2))).setCell ⟨gb376, 3, none⟩ (.int .i64 ((rd_T39 l1 x10_1).f3)))).cell? _ = some _ from hx377_0)); clear hn377_0; clear hn377_1; clear hn377_2; clear hn377_3; replace p377 := eq_true p377; replace q377 := eq_true q377) | ((with_reducible refine gate_builtin (b := .append) (xs := #[.tmp 57, .tmp 59]) rfl ?_); at_builtin; refine Kd.R_append (Kd.int .i64) (w0 := w) w.heap.size rfl (.tmp 57) (.tmp 59) 27 2 (.int .i64 0) 8 rfl Try.underlying27 info2 rfl (by decide) (by omega) u9 x9_1 x10_1 [.int .i64 x10_1] (fun k_ => some k_ ≠ (.slice (some ad377) t366.length co18 : Value).ownBlock ∧ some k_ ≠ (v370 : Value).ownBlock) (fun _ => False) rfl (by first | (go_simp; done) | (go_simp; rfl)) ?aP (fun _ hk => hk.elim) ?aF ?aO ?aB ?aS ?aL ?_; (case aP => exact rfl); (case aB => exact (by repeat (first | (with_reducible first | exact HB.out | apply below_alloc | apply pw_below_drewN | apply below_drew1 | refine below_set ?_ GE376.out) | exact HB.out))); (case aF => exact (fun k_ hk => ⟨Kd.fresh' (Kd.R_lt (by (with_reducible repeat (first | apply Kd.R_alloc | apply Kd.R_drewN | apply Kd.R_drew)); exact (Kd.R_mono (Kd.R_far (p := ⟨gb376, 3, none⟩) (Kd.R_far (p := ⟨gb376, 2, none⟩) (Kd.R_far (p := ⟨gb376, 1, none⟩) (Kd.R_far (p := ⟨gb376, 0, none⟩) (Kd.R_types HO_7.out BK376.out (by decide)) (fun _ hk => hk.2) (.int .i64 ((rd_T39 l1 x10_1).f0))) (fun _ hk => hk.2) (.int .i64 ((rd_T39 l1 x10_1).f1))) (fun _ hk => hk.2) (.int .i64 ((rd_T39 l1 x10_1).f2))) (fun _ hk => hk.2) (.int .i64 ((rd_T39 l1 x10_1).f3))) (fun _ h_ => h_.1)))) k_ hk, Kd.fresh' (Kd.R_lt (by (with_reducible repeat (first | apply Kd.R_alloc | apply Kd.R_drewN | apply Kd.R_drew)); exact (Kd.R_mono (Kd.R_far (p := ⟨gb376, 3, none⟩) (Kd.R_far (p := ⟨gb376, 2, none⟩) (Kd.R_far (p := ⟨gb376, 1, none⟩) (Kd.R_far (p := ⟨gb376, 0, none⟩) (Kd.R_types HO_8.out BK376.out (by decide)) (fun _ hk => hk.2) (.int .i64 ((rd_T39 l1 x10_1).f0))) (fun _ hk => hk.2) (.int .i64 ((rd_T39 l1 x10_1).f1))) (fun _ hk => hk.2) (.int .i64 ((rd_T39 l1 x10_1).f2))) (fun _ hk => hk.2) (.int .i64 ((rd_T39 l1 x10_1).f3))) (fun _ h_ => h_.1)))) k_ hk⟩)); (case aO => exact (by (with_reducible repeat (first | apply Kd.R_alloc | apply Kd.R_drewN | apply Kd.R_drew)); exact Kd.R_mono (Kd.R_far (p := ⟨gb376, 3, none⟩) (Kd.R_far (p := ⟨gb376, 2, none⟩) (Kd.R_far (p := ⟨gb376, 1, none⟩) (Kd.R_far (p := ⟨gb376, 0, none⟩) (Kd.R_types HO_9.out BK376.out (by decide)) (fun _ hk => hk.2) (.int .i64 ((rd_T39 l1 x10_1).f0))) (fun _ hk => hk.2) (.int .i64 ((rd_T39 l1 x10_1).f1))) (fun _ hk => hk.2) (.int .i64 ((rd_T39 l1 x10_1).f2))) (fun _ hk => hk.2) (.int .i64 ((rd_T39 l1 x10_1).f3))) (fun _ hk => ⟨hk.1.1, hk.1.2⟩))); (case aS => exact (below_size (by repeat (first | (with_reducible first | exact HB.out | apply below_alloc | apply pw_below_drewN | apply below_drew1 | refine below_set ?_ GE376.out) | exact HB.out)))); (case aL => have := LMc15.out; omega); intro v379 w19 ho hb hg hat; rw [← Ny378.out] at ho; have n0_ := Aside0.mk (Kd.R_after (ok := (fun k_ => some k_ ≠ (v370 : Value).ownBlock)) (by (with_reducible repeat (first | apply Kd.R_alloc | apply Kd.R_drewN | apply Kd.R_drew)); exact Kd.R_mono (Kd.R_far (p := ⟨gb376, 3, none⟩) (Kd.R_far (p := ⟨gb376, 2, none⟩) (Kd.R_far (p := ⟨gb376, 1, none⟩) (Kd.R_far (p := ⟨gb376, 0, none⟩) (Kd.R_types HO_7.out BK376.out (by decide)) (fun _ hk => hk.2) (.int .i64 ((rd_T39 l1 x10_1).f0))) (fun _ hk => hk.2) (.int .i64 ((rd_T39 l1 x10_1).f1))) (fun _ hk => hk.2) (.int .i64 ((rd_T39 l1 x10_1).f2))) (fun _ hk => hk.2) (.int .i64 ((rd_T39 l1 x10_1).f3))) (fun _ hk => ⟨hk.1.1, hk.1.2⟩)) hg hat); have n1_ := Aside0.mk (Kd.R_after (ok := (fun k_ => some k_ ≠ (.slice (some ad377) t366.length co18 : Value).ownBlock)) (by (with_reducible repeat (first | apply Kd.R_alloc | apply Kd.R_drewN | apply Kd.R_drew)); exact Kd.R_mono (Kd.R_far (p := ⟨gb376, 3, none⟩) (Kd.R_far (p := ⟨gb376, 2, none⟩) (Kd.R_far (p := ⟨gb376, 1, none⟩) (Kd.R_far (p := ⟨gb376, 0, none⟩) (Kd.R_types HO_8.out BK376.out (by decide)) (fun _ hk => hk.2) (.int .i64 ((rd_T39 l1 x10_1).f0))) (fun _ hk => hk.2) (.int .i64 ((rd_T39 l1 x10_1).f1))) (fun _ hk => hk.2) (.int .i64 ((rd_T39 l1 x10_1).f2))) (fun _ hk => hk.2) (.int .i64 ((rd_T39 l1 x10_1).f3))) (fun _ hk => ⟨hk.1.1, hk.1.2⟩)) hg hat); have n2_ := Aside0.mk (blk_grown (g := gb376) (o := .cells #[.int .i64 ((rd_T39 l1 x10_1).f0), .int .i64 ((rd_T39 l1 x10_1).f1), .int .i64 ((rd_T39 l1 x10_1).f2), .int .i64 ((rd_T39 l1 x10_1).f3)] 39 (0, 0)) (by (with_reducible repeat (first | refine blk_drewN ?_ _ | refine blk_drew ?_ | refine blk_alloc ?_ _)); refine blk_put (cs := #[.int .i64 ((rd_T39 l1 x10_1).f0), .int .i64 ((rd_T39 l1 x10_1).f1), .int .i64 ((rd_T39 l1 x10_1).f2), .int .i64 0]) ?_ 3 _ rfl; (with_reducible repeat (first | refine blk_drewN ?_ _ | refine blk_drew ?_ | refine blk_alloc ?_ _)); refine blk_put (cs := #[.int .i64 ((rd_T39 l1 x10_1).f0), .int .i64 ((rd_T39 l1 x10_1).f1), .int .i64 0, .int .i64 0]) ?_ 2 _ rfl; (with_reducible repeat (first | refine blk_drewN ?_ _ | refine blk_drew ?_ | refine blk_alloc ?_ _)); refine blk_put (cs := #[.int .i64 ((rd_T39 l1 x10_1).f0), .int .i64 0, .int .i64 0, .int .i64 0]) ?_ 1 _ rfl; (with_reducible repeat (first | refine blk_drewN ?_ _ | refine blk_drew ?_ | refine blk_alloc ?_ _)); refine blk_put (cs := #[.int .i64 0, .int .i64 0, .int .i64 0, .int .i64 0]) ?_ 0 _ rfl; (with_reducible repeat (first | refine blk_drewN ?_ _ | refine blk_drew ?_ | refine blk_alloc ?_ _)); exact BK376.out) hg (Kd.R_ne HO_9.out BK376.out (by decide))); have n3_ := Aside0.mk (hb); have n4_ := Aside0.mk (ho); clear HO_7; clear HO_8; clear BK376; clear HB; clear HO_9; have HO_7 := n0_; have HO_8 := n1_; have BK376 := n2_; have HB := n3_; have HO380 := n4_; clear n0_ n1_ n2_ n3_ n4_; clear ho hb hg hat))
          repeat (go_quiet (first | ((with_reducible refine gate_dst (N := 11) rfl ?_); refine box_event ?hg (N := 11) ?hd (cs := #[.int .i64 0, .int .i64 0, .int .i64 0, .int .i64 0]) (t := 39) ?hr ?_; (case hd => rfl); (case hg => rfl); (case hr => first | (go_simp; done) | (go_simp; rfl)); intro gb376 hg w16 hbox hb; have n0_ := Aside0.mk (Kd.R_below (by (with_reducible repeat (first | apply Kd.R_alloc | apply Kd.R_drewN | apply Kd.R_drew)); exact HO_7.out) hb); have n1_ := Aside0.mk (Kd.R_below (by (with_reducible repeat (first | apply Kd.R_alloc | apply Kd.R_drewN | apply Kd.R_drew)); exact HO_8.out) hb); have n2_ := Aside0.mk (Kd.R_below (by (with_reducible repeat (first | apply Kd.R_alloc | apply Kd.R_drewN | apply Kd.R_drew)); exact HO_9.out) hb); have n3_ := Aside0.mk (below_step (by repeat (first | (with_reducible first | exact HB.out | apply below_alloc | apply pw_below_drewN | apply below_drew1) | exact HB.out)) hb); have n4_ := Aside0.mk (hbox); have n5_ := Aside0.mk ((by rw [hg]; exact (below_size (by repeat (first | (with_reducible first | exact HB.out | apply below_alloc | apply pw_below_drewN | apply below_drew1) | exact HB.out))) : w.heap.size ≤ gb376)); have n6_ := Aside0.mk ((by rw [hg]; exact (below_size (by repeat (first | (with_reducible first | exact HB.out | apply below_alloc | apply pw_below_drewN | apply below_drew1) | exact HB.out))) : w.heap.size ≤ gb376)); clear HO_7; clear HO_8; clear HO_9; clear HB; have HO_7 := n0_; have HO_8 := n1_; have HO_9 := n2_; have HB := n3_; have BK376 := n4_; have GW376 := n5_; have GE376 := n6_; clear n0_ n1_ n2_ n3_ n4_ n5_ n6_; clear hb hbox hg; have hcz17_0 : w16.cell? ⟨gb376, 0, none⟩ = some (.int .i64 0) := (blk_cell BK376.out 0).trans rfl; have hcz17_1 : w16.cell? ⟨gb376, 1, none⟩ = some (.int .i64 0) := (blk_cell BK376.out 1).trans rfl; have hcz17_2 : w16.cell? ⟨gb376, 2, none⟩ = some (.int .i64 0) := (blk_cell BK376.out 2).trans rfl; have hcz17_3 : w16.cell? ⟨gb376, 3, none⟩ = some (.int .i64 0) := (blk_cell BK376.out 3).trans rfl; have hfz17_0 := blk_frozen BK376.out 0; have hfz17_1 := blk_frozen BK376.out 1; have hfz17_2 := blk_frozen BK376.out 2; have hfz17_3 := blk_frozen BK376.out 3; obtain ⟨Ao18, co18, eo18⟩ := Kd.R_slice HO_7.out; subst eo18; have p377 : 0 ≤ (((rd_T39 l1 x10_1).f0) : Int) := of_decide_eq_true (by first | (with_reducible assumption) | assumption); have q377 : ((rd_T39 l1 x10_1).f0) < (t366.length : Int) := of_decide_eq_true (by first | (with_reducible assumption) | assumption); obtain ⟨ad377, e377, hx377_0⟩ := Kd.at_int (Kd.R_reads' HO_7.out).2.2 ((rd_T39 l1 x10_1).f0) p377 q377; cases e377; have hn377_0 : ad377.block ≠ gb376 := Kd.own_blk (Kd.R_ne HO_7.out BK376.out (by decide)); have hn377_1 : ad377.block ≠ gb376 := Kd.own_blk (Kd.R_ne HO_7.out BK376.out (by decide)); have hn377_2 : ad377.block ≠ gb376 := Kd.own_blk (Kd.R_ne HO_7.out BK376.out (by decide)); have hn377_3 : ad377.block ≠ gb376 := Kd.own_blk (Kd.R_ne HO_7.out BK376.out (by decide)); replace hx377_0 := (cell_far (p := ⟨gb376, 0, none⟩) (by first | (rw [add_block]; exact hn377_0) | (show (Addr.add _ _).block ≠ _; rw [add_block]; exact hn377_0) | exact hn377_0) (.int .i64 ((rd_T39 l1 x10_1).f0))).trans hx377_0; replace hx377_0 := (cell_far (p := ⟨gb376, 1, none⟩) (by first | (rw [add_block]; exact hn377_1) | (show (Addr.add _ _).block ≠ _; rw [add_block]; exact hn377_1) | exact hn377_1) (.int .i64 ((rd_T39 l1 x10_1).f1))).trans hx377_0; replace hx377_0 := (cell_far (p := ⟨gb376, 2, none⟩) (by first | (rw [add_block]; exact hn377_2) | (show (Addr.add _ _).block ≠ _; rw [add_block]; exact hn377_2) | exact hn377_2) (.int .i64 ((rd_T39 l1 x10_1).f2))).trans hx377_0; replace hx377_0 := (cell_far (p := ⟨gb376, 3, none⟩) (by first | (rw [add_block]; exact hn377_3) | (show (Addr.add _ _).block ≠ _; rw [add_block]; exact hn377_3) | exact hn377_3) (.int .i64 ((rd_T39 l1 x10_1).f3))).trans hx377_0; (try have hy377_0 := fun (n_ : Nat) => (show ((((((w16.drewN n_).setCell ⟨gb376, 0, none⟩ (.int .i64 ((rd_T39 l1 x10_1).f0))).setCell ⟨gb376, 1, none⟩ (.int .i64 ((rd_T39 l1 x10_1).f1))).setCell ⟨gb376, 2, none⟩ (.int .i64 ((rd_T39 l1 x10_1).f2))).setCell ⟨gb376, 3, none⟩ (.int .i64 ((rd_T39 l1 x10_1).f3)))).cell? _ = some _ from hx377_0)); clear hn377_0; clear hn377_1; clear hn377_2; clear hn377_3; replace p377 := eq_true p377; replace q377 := eq_true q377) | ((with_reducible refine gate_builtin (b := .append) (xs := #[.tmp 57, .tmp 59]) rfl ?_); at_builtin; refine Kd.R_append (Kd.int .i64) (w0 := w) w.heap.size rfl (.tmp 57) (.tmp 59) 27 2 (.int .i64 0) 8 rfl Try.underlying27 info2 rfl (by decide) (by omega) u9 x9_1 x10_1 [.int .i64 x10_1] (fun k_ => some k_ ≠ (.slice (some ad377) t366.length co18 : Value).ownBlock ∧ some k_ ≠ (v370 : Value).ownBlock) (fun _ => False) rfl (by first | (go_simp; done) | (go_simp; rfl)) ?aP (fun _ hk => hk.elim) ?aF ?aO ?aB ?aS ?aL ?_; (case aP => exact rfl); (case aB => exact (by repeat (first | (with_reducible first | exact HB.out | apply below_alloc | apply pw_below_drewN | apply below_drew1 | refine below_set ?_ GE376.out) | exact HB.out))); (case aF => exact (fun k_ hk => ⟨Kd.fresh' (Kd.R_lt (by (with_reducible repeat (first | apply Kd.R_alloc | apply Kd.R_drewN | apply Kd.R_drew)); exact (Kd.R_mono (Kd.R_far (p := ⟨gb376, 3, none⟩) (Kd.R_far (p := ⟨gb376, 2, none⟩) (Kd.R_far (p := ⟨gb376, 1, none⟩) (Kd.R_far (p := ⟨gb376, 0, none⟩) (Kd.R_types HO_7.out BK376.out (by decide)) (fun _ hk => hk.2) (.int .i64 ((rd_T39 l1 x10_1).f0))) (fun _ hk => hk.2) (.int .i64 ((rd_T39 l1 x10_1).f1))) (fun _ hk => hk.2) (.int .i64 ((rd_T39 l1 x10_1).f2))) (fun _ hk => hk.2) (.int .i64 ((rd_T39 l1 x10_1).f3))) (fun _ h_ => h_.1)))) k_ hk, Kd.fresh' (Kd.R_lt (by (with_reducible repeat (first | apply Kd.R_alloc | apply Kd.R_drewN | apply Kd.R_drew)); exact (Kd.R_mono (Kd.R_far (p := ⟨gb376, 3, none⟩) (Kd.R_far (p := ⟨gb376, 2, none⟩) (Kd.R_far (p := ⟨gb376, 1, none⟩) (Kd.R_far (p := ⟨gb376, 0, none⟩) (Kd.R_types HO_8.out BK376.out (by decide)) (fun _ hk => hk.2) (.int .i64 ((rd_T39 l1 x10_1).f0))) (fun _ hk => hk.2) (.int .i64 ((rd_T39 l1 x10_1).f1))) (fun _ hk => hk.2) (.int .i64 ((rd_T39 l1 x10_1).f2))) (fun _ hk => hk.2) (.int .i64 ((rd_T39 l1 x10_1).f3))) (fun _ h_ => h_.1)))) k_ hk⟩)); (case aO => exact (by (with_reducible repeat (first | apply Kd.R_alloc | apply Kd.R_drewN | apply Kd.R_drew)); exact Kd.R_mono (Kd.R_far (p := ⟨gb376, 3, none⟩) (Kd.R_far (p := ⟨gb376, 2, none⟩) (Kd.R_far (p := ⟨gb376, 1, none⟩) (Kd.R_far (p := ⟨gb376, 0, none⟩) (Kd.R_types HO_9.out BK376.out (by decide)) (fun _ hk => hk.2) (.int .i64 ((rd_T39 l1 x10_1).f0))) (fun _ hk => hk.2) (.int .i64 ((rd_T39 l1 x10_1).f1))) (fun _ hk => hk.2) (.int .i64 ((rd_T39 l1 x10_1).f2))) (fun _ hk => hk.2) (.int .i64 ((rd_T39 l1 x10_1).f3))) (fun _ hk => ⟨hk.1.1, hk.1.2⟩))); (case aS => exact (below_size (by repeat (first | (with_reducible first | exact HB.out | apply below_alloc | apply pw_below_drewN | apply below_drew1 | refine below_set ?_ GE376.out) | exact HB.out)))); (case aL => have := LMc15.out; omega); intro v379 w19 ho hb hg hat; rw [← Ny378.out] at ho; have n0_ := Aside0.mk (Kd.R_after (ok := (fun k_ => some k_ ≠ (v370 : Value).ownBlock)) (by (with_reducible repeat (first | apply Kd.R_alloc | apply Kd.R_drewN | apply Kd.R_drew)); exact Kd.R_mono (Kd.R_far (p := ⟨gb376, 3, none⟩) (Kd.R_far (p := ⟨gb376, 2, none⟩) (Kd.R_far (p := ⟨gb376, 1, none⟩) (Kd.R_far (p := ⟨gb376, 0, none⟩) (Kd.R_types HO_7.out BK376.out (by decide)) (fun _ hk => hk.2) (.int .i64 ((rd_T39 l1 x10_1).f0))) (fun _ hk => hk.2) (.int .i64 ((rd_T39 l1 x10_1).f1))) (fun _ hk => hk.2) (.int .i64 ((rd_T39 l1 x10_1).f2))) (fun _ hk => hk.2) (.int .i64 ((rd_T39 l1 x10_1).f3))) (fun _ hk => ⟨hk.1.1, hk.1.2⟩)) hg hat); have n1_ := Aside0.mk (Kd.R_after (ok := (fun k_ => some k_ ≠ (.slice (some ad377) t366.length co18 : Value).ownBlock)) (by (with_reducible repeat (first | apply Kd.R_alloc | apply Kd.R_drewN | apply Kd.R_drew)); exact Kd.R_mono (Kd.R_far (p := ⟨gb376, 3, none⟩) (Kd.R_far (p := ⟨gb376, 2, none⟩) (Kd.R_far (p := ⟨gb376, 1, none⟩) (Kd.R_far (p := ⟨gb376, 0, none⟩) (Kd.R_types HO_8.out BK376.out (by decide)) (fun _ hk => hk.2) (.int .i64 ((rd_T39 l1 x10_1).f0))) (fun _ hk => hk.2) (.int .i64 ((rd_T39 l1 x10_1).f1))) (fun _ hk => hk.2) (.int .i64 ((rd_T39 l1 x10_1).f2))) (fun _ hk => hk.2) (.int .i64 ((rd_T39 l1 x10_1).f3))) (fun _ hk => ⟨hk.1.1, hk.1.2⟩)) hg hat); have n2_ := Aside0.mk (blk_grown (g := gb376) (o := .cells #[.int .i64 ((rd_T39 l1 x10_1).f0), .int .i64 ((rd_T39 l1 x10_1).f1), .int .i64 ((rd_T39 l1 x10_1).f2), .int .i64 ((rd_T39 l1 x10_1).f3)] 39 (0, 0)) (by (with_reducible repeat (first | refine blk_drewN ?_ _ | refine blk_drew ?_ | refine blk_alloc ?_ _)); refine blk_put (cs := #[.int .i64 ((rd_T39 l1 x10_1).f0), .int .i64 ((rd_T39 l1 x10_1).f1), .int .i64 ((rd_T39 l1 x10_1).f2), .int .i64 0]) ?_ 3 _ rfl; (with_reducible repeat (first | refine blk_drewN ?_ _ | refine blk_drew ?_ | refine blk_alloc ?_ _)); refine blk_put (cs := #[.int .i64 ((rd_T39 l1 x10_1).f0), .int .i64 ((rd_T39 l1 x10_1).f1), .int .i64 0, .int .i64 0]) ?_ 2 _ rfl; (with_reducible repeat (first | refine blk_drewN ?_ _ | refine blk_drew ?_ | refine blk_alloc ?_ _)); refine blk_put (cs := #[.int .i64 ((rd_T39 l1 x10_1).f0), .int .i64 0, .int .i64 0, .int .i64 0]) ?_ 1 _ rfl; (with_reducible repeat (first | refine blk_drewN ?_ _ | refine blk_drew ?_ | refine blk_alloc ?_ _)); refine blk_put (cs := #[.int .i64 0, .int .i64 0, .int .i64 0, .int .i64 0]) ?_ 0 _ rfl; (with_reducible repeat (first | refine blk_drewN ?_ _ | refine blk_drew ?_ | refine blk_alloc ?_ _)); exact BK376.out) hg (Kd.R_ne HO_9.out BK376.out (by decide))); have n3_ := Aside0.mk (hb); have n4_ := Aside0.mk (ho); clear HO_7; clear HO_8; clear BK376; clear HB; clear HO_9; have HO_7 := n0_; have HO_8 := n1_; have BK376 := n2_; have HB := n3_; have HO380 := n4_; clear n0_ n1_ n2_ n3_ n4_; clear ho hb hg hat)); try go_wp2_with (first | ((with_reducible refine gate_dst (N := 11) rfl ?_); refine box_event ?hg (N := 11) ?hd (cs := #[.int .i64 0, .int .i64 0, .int .i64 0, .int .i64 0]) (t := 39) ?hr ?_; (case hd => rfl); (case hg => rfl); (case hr => first | (go_simp; done) | (go_simp; rfl)); intro gb376 hg w16 hbox hb; have n0_ := Aside0.mk (Kd.R_below (by (with_reducible repeat (first | apply Kd.R_alloc | apply Kd.R_drewN | apply Kd.R_drew)); exact HO_7.out) hb); have n1_ := Aside0.mk (Kd.R_below (by (with_reducible repeat (first | apply Kd.R_alloc | apply Kd.R_drewN | apply Kd.R_drew)); exact HO_8.out) hb); have n2_ := Aside0.mk (Kd.R_below (by (with_reducible repeat (first | apply Kd.R_alloc | apply Kd.R_drewN | apply Kd.R_drew)); exact HO_9.out) hb); have n3_ := Aside0.mk (below_step (by repeat (first | (with_reducible first | exact HB.out | apply below_alloc | apply pw_below_drewN | apply below_drew1) | exact HB.out)) hb); have n4_ := Aside0.mk (hbox); have n5_ := Aside0.mk ((by rw [hg]; exact (below_size (by repeat (first | (with_reducible first | exact HB.out | apply below_alloc | apply pw_below_drewN | apply below_drew1) | exact HB.out))) : w.heap.size ≤ gb376)); have n6_ := Aside0.mk ((by rw [hg]; exact (below_size (by repeat (first | (with_reducible first | exact HB.out | apply below_alloc | apply pw_below_drewN | apply below_drew1) | exact HB.out))) : w.heap.size ≤ gb376)); clear HO_7; clear HO_8; clear HO_9; clear HB; have HO_7 := n0_; have HO_8 := n1_; have HO_9 := n2_; have HB := n3_; have BK376 := n4_; have GW376 := n5_; have GE376 := n6_; clear n0_ n1_ n2_ n3_ n4_ n5_ n6_; clear hb hbox hg; have hcz17_0 : w16.cell? ⟨gb376, 0, none⟩ = some (.int .i64 0) := (blk_cell BK376.out 0).trans rfl; have hcz17_1 : w16.cell? ⟨gb376, 1, none⟩ = some (.int .i64 0) := (blk_cell BK376.out 1).trans rfl; have hcz17_2 : w16.cell? ⟨gb376, 2, none⟩ = some (.int .i64 0) := (blk_cell BK376.out 2).trans rfl; have hcz17_3 : w16.cell? ⟨gb376, 3, none⟩ = some (.int .i64 0) := (blk_cell BK376.out 3).trans rfl; have hfz17_0 := blk_frozen BK376.out 0; have hfz17_1 := blk_frozen BK376.out 1; have hfz17_2 := blk_frozen BK376.out 2; have hfz17_3 := blk_frozen BK376.out 3; obtain ⟨Ao18, co18, eo18⟩ := Kd.R_slice HO_7.out; subst eo18; have p377 : 0 ≤ (((rd_T39 l1 x10_1).f0) : Int) := of_decide_eq_true (by first | (with_reducible assumption) | assumption); have q377 : ((rd_T39 l1 x10_1).f0) < (t366.length : Int) := of_decide_eq_true (by first | (with_reducible assumption) | assumption); obtain ⟨ad377, e377, hx377_0⟩ := Kd.at_int (Kd.R_reads' HO_7.out).2.2 ((rd_T39 l1 x10_1).f0) p377 q377; cases e377; have hn377_0 : ad377.block ≠ gb376 := Kd.own_blk (Kd.R_ne HO_7.out BK376.out (by decide)); have hn377_1 : ad377.block ≠ gb376 := Kd.own_blk (Kd.R_ne HO_7.out BK376.out (by decide)); have hn377_2 : ad377.block ≠ gb376 := Kd.own_blk (Kd.R_ne HO_7.out BK376.out (by decide)); have hn377_3 : ad377.block ≠ gb376 := Kd.own_blk (Kd.R_ne HO_7.out BK376.out (by decide)); replace hx377_0 := (cell_far (p := ⟨gb376, 0, none⟩) (by first | (rw [add_block]; exact hn377_0) | (show (Addr.add _ _).block ≠ _; rw [add_block]; exact hn377_0) | exact hn377_0) (.int .i64 ((rd_T39 l1 x10_1).f0))).trans hx377_0; replace hx377_0 := (cell_far (p := ⟨gb376, 1, none⟩) (by first | (rw [add_block]; exact hn377_1) | (show (Addr.add _ _).block ≠ _; rw [add_block]; exact hn377_1) | exact hn377_1) (.int .i64 ((rd_T39 l1 x10_1).f1))).trans hx377_0; replace hx377_0 := (cell_far (p := ⟨gb376, 2, none⟩) (by first | (rw [add_block]; exact hn377_2) | (show (Addr.add _ _).block ≠ _; rw [add_block]; exact hn377_2) | exact hn377_2) (.int .i64 ((rd_T39 l1 x10_1).f2))).trans hx377_0; replace hx377_0 := (cell_far (p := ⟨gb376, 3, none⟩) (by first | (rw [add_block]; exact hn377_3) | (show (Addr.add _ _).block ≠ _; rw [add_block]; exact hn377_3) | exact hn377_3) (.int .i64 ((rd_T39 l1 x10_1).f3))).trans hx377_0; (try have hy377_0 := fun (n_ : Nat) => (show ((((((w16.drewN n_).setCell ⟨gb376, 0, none⟩ (.int .i64 ((rd_T39 l1 x10_1).f0))).setCell ⟨gb376, 1, none⟩ (.int .i64 ((rd_T39 l1 x10_1).f1))).setCell ⟨gb376, 2, none⟩ (.int .i64 ((rd_T39 l1 x10_1).f2))).setCell ⟨gb376, 3, none⟩ (.int .i64 ((rd_T39 l1 x10_1).f3)))).cell? _ = some _ from hx377_0)); clear hn377_0; clear hn377_1; clear hn377_2; clear hn377_3; replace p377 := eq_true p377; replace q377 := eq_true q377) | ((with_reducible refine gate_builtin (b := .append) (xs := #[.tmp 57, .tmp 59]) rfl ?_); at_builtin; refine Kd.R_append (Kd.int .i64) (w0 := w) w.heap.size rfl (.tmp 57) (.tmp 59) 27 2 (.int .i64 0) 8 rfl Try.underlying27 info2 rfl (by decide) (by omega) u9 x9_1 x10_1 [.int .i64 x10_1] (fun k_ => some k_ ≠ (.slice (some ad377) t366.length co18 : Value).ownBlock ∧ some k_ ≠ (v370 : Value).ownBlock) (fun _ => False) rfl (by first | (go_simp; done) | (go_simp; rfl)) ?aP (fun _ hk => hk.elim) ?aF ?aO ?aB ?aS ?aL ?_; (case aP => exact rfl); (case aB => exact (by repeat (first | (with_reducible first | exact HB.out | apply below_alloc | apply pw_below_drewN | apply below_drew1 | refine below_set ?_ GE376.out) | exact HB.out))); (case aF => exact (fun k_ hk => ⟨Kd.fresh' (Kd.R_lt (by (with_reducible repeat (first | apply Kd.R_alloc | apply Kd.R_drewN | apply Kd.R_drew)); exact (Kd.R_mono (Kd.R_far (p := ⟨gb376, 3, none⟩) (Kd.R_far (p := ⟨gb376, 2, none⟩) (Kd.R_far (p := ⟨gb376, 1, none⟩) (Kd.R_far (p := ⟨gb376, 0, none⟩) (Kd.R_types HO_7.out BK376.out (by decide)) (fun _ hk => hk.2) (.int .i64 ((rd_T39 l1 x10_1).f0))) (fun _ hk => hk.2) (.int .i64 ((rd_T39 l1 x10_1).f1))) (fun _ hk => hk.2) (.int .i64 ((rd_T39 l1 x10_1).f2))) (fun _ hk => hk.2) (.int .i64 ((rd_T39 l1 x10_1).f3))) (fun _ h_ => h_.1)))) k_ hk, Kd.fresh' (Kd.R_lt (by (with_reducible repeat (first | apply Kd.R_alloc | apply Kd.R_drewN | apply Kd.R_drew)); exact (Kd.R_mono (Kd.R_far (p := ⟨gb376, 3, none⟩) (Kd.R_far (p := ⟨gb376, 2, none⟩) (Kd.R_far (p := ⟨gb376, 1, none⟩) (Kd.R_far (p := ⟨gb376, 0, none⟩) (Kd.R_types HO_8.out BK376.out (by decide)) (fun _ hk => hk.2) (.int .i64 ((rd_T39 l1 x10_1).f0))) (fun _ hk => hk.2) (.int .i64 ((rd_T39 l1 x10_1).f1))) (fun _ hk => hk.2) (.int .i64 ((rd_T39 l1 x10_1).f2))) (fun _ hk => hk.2) (.int .i64 ((rd_T39 l1 x10_1).f3))) (fun _ h_ => h_.1)))) k_ hk⟩)); (case aO => exact (by (with_reducible repeat (first | apply Kd.R_alloc | apply Kd.R_drewN | apply Kd.R_drew)); exact Kd.R_mono (Kd.R_far (p := ⟨gb376, 3, none⟩) (Kd.R_far (p := ⟨gb376, 2, none⟩) (Kd.R_far (p := ⟨gb376, 1, none⟩) (Kd.R_far (p := ⟨gb376, 0, none⟩) (Kd.R_types HO_9.out BK376.out (by decide)) (fun _ hk => hk.2) (.int .i64 ((rd_T39 l1 x10_1).f0))) (fun _ hk => hk.2) (.int .i64 ((rd_T39 l1 x10_1).f1))) (fun _ hk => hk.2) (.int .i64 ((rd_T39 l1 x10_1).f2))) (fun _ hk => hk.2) (.int .i64 ((rd_T39 l1 x10_1).f3))) (fun _ hk => ⟨hk.1.1, hk.1.2⟩))); (case aS => exact (below_size (by repeat (first | (with_reducible first | exact HB.out | apply below_alloc | apply pw_below_drewN | apply below_drew1 | refine below_set ?_ GE376.out) | exact HB.out)))); (case aL => have := LMc15.out; omega); intro v379 w19 ho hb hg hat; rw [← Ny378.out] at ho; have n0_ := Aside0.mk (Kd.R_after (ok := (fun k_ => some k_ ≠ (v370 : Value).ownBlock)) (by (with_reducible repeat (first | apply Kd.R_alloc | apply Kd.R_drewN | apply Kd.R_drew)); exact Kd.R_mono (Kd.R_far (p := ⟨gb376, 3, none⟩) (Kd.R_far (p := ⟨gb376, 2, none⟩) (Kd.R_far (p := ⟨gb376, 1, none⟩) (Kd.R_far (p := ⟨gb376, 0, none⟩) (Kd.R_types HO_7.out BK376.out (by decide)) (fun _ hk => hk.2) (.int .i64 ((rd_T39 l1 x10_1).f0))) (fun _ hk => hk.2) (.int .i64 ((rd_T39 l1 x10_1).f1))) (fun _ hk => hk.2) (.int .i64 ((rd_T39 l1 x10_1).f2))) (fun _ hk => hk.2) (.int .i64 ((rd_T39 l1 x10_1).f3))) (fun _ hk => ⟨hk.1.1, hk.1.2⟩)) hg hat); have n1_ := Aside0.mk (Kd.R_after (ok := (fun k_ => some k_ ≠ (.slice (some ad377) t366.length co18 : Value).ownBlock)) (by (with_reducible repeat (first | apply Kd.R_alloc | apply Kd.R_drewN | apply Kd.R_drew)); exact Kd.R_mono (Kd.R_far (p := ⟨gb376, 3, none⟩) (Kd.R_far (p := ⟨gb376, 2, none⟩) (Kd.R_far (p := ⟨gb376, 1, none⟩) (Kd.R_far (p := ⟨gb376, 0, none⟩) (Kd.R_types HO_8.out BK376.out (by decide)) (fun _ hk => hk.2) (.int .i64 ((rd_T39 l1 x10_1).f0))) (fun _ hk => hk.2) (.int .i64 ((rd_T39 l1 x10_1).f1))) (fun _ hk => hk.2) (.int .i64 ((rd_T39 l1 x10_1).f2))) (fun _ hk => hk.2) (.int .i64 ((rd_T39 l1 x10_1).f3))) (fun _ hk => ⟨hk.1.1, hk.1.2⟩)) hg hat); have n2_ := Aside0.mk (blk_grown (g := gb376) (o := .cells #[.int .i64 ((rd_T39 l1 x10_1).f0), .int .i64 ((rd_T39 l1 x10_1).f1), .int .i64 ((rd_T39 l1 x10_1).f2), .int .i64 ((rd_T39 l1 x10_1).f3)] 39 (0, 0)) (by (with_reducible repeat (first | refine blk_drewN ?_ _ | refine blk_drew ?_ | refine blk_alloc ?_ _)); refine blk_put (cs := #[.int .i64 ((rd_T39 l1 x10_1).f0), .int .i64 ((rd_T39 l1 x10_1).f1), .int .i64 ((rd_T39 l1 x10_1).f2), .int .i64 0]) ?_ 3 _ rfl; (with_reducible repeat (first | refine blk_drewN ?_ _ | refine blk_drew ?_ | refine blk_alloc ?_ _)); refine blk_put (cs := #[.int .i64 ((rd_T39 l1 x10_1).f0), .int .i64 ((rd_T39 l1 x10_1).f1), .int .i64 0, .int .i64 0]) ?_ 2 _ rfl; (with_reducible repeat (first | refine blk_drewN ?_ _ | refine blk_drew ?_ | refine blk_alloc ?_ _)); refine blk_put (cs := #[.int .i64 ((rd_T39 l1 x10_1).f0), .int .i64 0, .int .i64 0, .int .i64 0]) ?_ 1 _ rfl; (with_reducible repeat (first | refine blk_drewN ?_ _ | refine blk_drew ?_ | refine blk_alloc ?_ _)); refine blk_put (cs := #[.int .i64 0, .int .i64 0, .int .i64 0, .int .i64 0]) ?_ 0 _ rfl; (with_reducible repeat (first | refine blk_drewN ?_ _ | refine blk_drew ?_ | refine blk_alloc ?_ _)); exact BK376.out) hg (Kd.R_ne HO_9.out BK376.out (by decide))); have n3_ := Aside0.mk (hb); have n4_ := Aside0.mk (ho); clear HO_7; clear HO_8; clear BK376; clear HB; clear HO_9; have HO_7 := n0_; have HO_8 := n1_; have BK376 := n2_; have HB := n3_; have HO380 := n4_; clear n0_ n1_ n2_ n3_ n4_; clear ho hb hg hat)))
          go_roundg k1
          case measure => have := HK1.out; omega
          case rel => exact ⟨(y378), (wrap64 (x10_1 + 1)), (by first | rfl | (simp; done) | (simp [*]; done)), H', ⟨by have := HK1.out; omega⟩, ⟨by (with_reducible repeat (first | apply Kd.R_alloc | apply Kd.R_drewN | apply Kd.R_drew)); exact HO_7.out⟩, ⟨by (with_reducible repeat (first | apply Kd.R_alloc | apply Kd.R_drewN | apply Kd.R_drew)); exact HO_8.out⟩, ⟨by (with_reducible repeat (first | apply Kd.R_alloc | apply Kd.R_drewN | apply Kd.R_drew)); exact HO380.out⟩, ⟨by repeat (first | (with_reducible first | exact HB.out | apply below_alloc | apply pw_below_drewN | apply below_drew1 | refine below_set ?_ GE376.out) | exact HB.out)⟩⟩
         ·rw [if_neg c15] at H
          exact absurd H (by simp)
        ·rw [if_neg c14] at H
         have c14b0 : decide ((rd t366 ((rd_T39 l1 x10_1).f0)) < 0) = false := decide_eq_false c14
         clear c14
         by_cases c20 : 0 ≤ ((rd_T39 l1 x10_1).f1)
         ·rw [if_pos c20] at H
          have c20b0 : decide (0 ≤ ((rd_T39 l1 x10_1).f1)) = true := decide_eq_true c20
          clear c20
          by_cases c21 : ((rd_T39 l1 x10_1).f1) < (t367.length : Int)
          ·rw [if_pos c21] at H
           have c21b0 : decide (((rd_T39 l1 x10_1).f1) < (t367.length : Int)) = true := decide_eq_true c21
           clear c21
           by_cases c22 : (wrap64 ((rd t366 ((rd_T39 l1 x10_1).f0)) + ((rd_T39 l1 x10_1).f2))) > (rd t367 ((rd_T39 l1 x10_1).f1))
           ·rw [if_pos c22] at H
            have c22b0 : decide ((rd t367 ((rd_T39 l1 x10_1).f1)) < (wrap64 ((rd t366 ((rd_T39 l1 x10_1).f0)) + ((rd_T39 l1 x10_1).f2)))) = true := decide_eq_true c22
            clear c22
            by_cases c23 : x9_1.length < 17592186044416
            ·rw [if_pos c23] at H
             have LMc23 := Aside0.mk c23
             clear c23
             obtain ⟨y383, hy383⟩ : ∃ y_ : List Int, y_ = (x9_1 ++ [x10_1]) := ⟨_, rfl⟩
             replace H : (spec_IdleFuses.l0 k1 l1 t366 t367 y383 (wrap64 (x10_1 + 1))) = some (r1, r2) := by first | (rw [hy383]; with_reducible exact H) | (have H2_ := (Option.bind_some _ _).symm.trans H; rw [hy383]; with_reducible exact H2_) | (have H2_ := (Option.bind_some _ _).symm.trans H; with_reducible exact H2_) | with_reducible exact H | (rw [hy383]; exact H) | exact H
             have Ny383 := Aside0.mk hy383
             clear hy383
             have H' := Aside0.mk H
             clear H
             have p375 : 0 ≤ (x10_1 : Int) := of_decide_eq_true (by first | (with_reducible assumption) | assumption)
             have q375 : x10_1 < (l1.length : Int) := of_decide_eq_true (by first | (with_reducible assumption) | assumption)
             obtain ⟨ad375, e375, hx375_0, hx375_1, hx375_2, hx375_3⟩ := at_T39 HR1.out x10_1 p375 q375
             cases e375
             replace hx375_0 := (HB.out.cell (World.block_lt_of_cell? w _ hx375_0)).trans hx375_0
             replace hx375_1 := (HB.out.cell (World.block_lt_of_cell? w _ hx375_1)).trans hx375_1
             replace hx375_2 := (HB.out.cell (World.block_lt_of_cell? w _ hx375_2)).trans hx375_2
             replace hx375_3 := (HB.out.cell (World.block_lt_of_cell? w _ hx375_3)).trans hx375_3
             replace p375 := eq_true p375
             replace q375 := eq_true q375
             go_wp2_with (first | ((with_reducible refine gate_dst (N := 11) rfl ?_); refine box_event ?hg (N := 11) ?hd (cs := #[.int .i64 0, .int .i64 0, .int .i64 0, .int .i64 0]) (t := 39) ?hr ?_; (case hd => rfl); (case hg => rfl); (case hr => first | (go_simp; done) | (go_simp; rfl)); intro gb376 hg w24 hbox hb; have n0_ := Aside0.mk (Kd.R_below (by (with_reducible repeat (first | apply Kd.R_alloc | apply Kd.R_drewN | apply Kd.R_drew)); exact HO_7.out) hb); have n1_ := Aside0.mk (Kd.R_below (by (with_reducible repeat (first | apply Kd.R_alloc | apply Kd.R_drewN | apply Kd.R_drew)); exact HO_8.out) hb); have n2_ := Aside0.mk (Kd.R_below (by (with_reducible repeat (first | apply Kd.R_alloc | apply Kd.R_drewN | apply Kd.R_drew)); exact HO_9.out) hb); have n3_ := Aside0.mk (below_step (by repeat (first | (with_reducible first | exact HB.out | apply below_alloc | apply pw_below_drewN | apply below_drew1) | exact HB.out)) hb); have n4_ := Aside0.mk (hbox); have n5_ := Aside0.mk ((by rw [hg]; exact (below_size (by repeat (first | (with_reducible first | exact HB.out | apply below_alloc | apply pw_below_drewN | apply below_drew1) | exact HB.out))) : w.heap.size ≤ gb376)); have n6_ := Aside0.mk ((by rw [hg]; exact (below_size (by repeat (first | (with_reducible first | exact HB.out | apply below_alloc | apply pw_below_drewN | apply below_drew1) | exact HB.out))) : w.heap.size ≤ gb376)); clear HO_7; clear HO_8; clear HO_9; clear HB; have HO_7 := n0_; have HO_8 := n1_; have HO_9 := n2_; have HB := n3_; have BK376 := n4_; have GW376 := n5_; have GE376 := n6_; clear n0_ n1_ n2_ n3_ n4_ n5_ n6_; clear hb hbox hg; have hcz25_0 : w24.cell? ⟨gb376, 0, none⟩ = some (.int .i64 0) := (blk_cell BK376.out 0).trans rfl; have hcz25_1 : w24.cell? ⟨gb376, 1, none⟩ = some (.int .i64 0) := (blk_cell BK376.out 1).trans rfl; have hcz25_2 : w24.cell? ⟨gb376, 2, none⟩ = some (.int .i64 0) := (blk_cell BK376.out 2).trans rfl; have hcz25_3 : w24.cell? ⟨gb376, 3, none⟩ = some (.int .i64 0) := (blk_cell BK376.out 3).trans rfl; have hfz25_0 := blk_frozen BK376.out 0; have hfz25_1 := blk_frozen BK376.out 1; have hfz25_2 := blk_frozen BK376.out 2; have hfz25_3 := blk_frozen BK376.out 3; obtain ⟨Ao26, co26, eo26⟩ := Kd.R_slice HO_7.out; subst eo26; have p377 : 0 ≤ (((rd_T39 l1 x10_1).f0) : Int) := of_decide_eq_true (by first | (with_reducible assumption) | assumption); have q377 : ((rd_T39 l1 x10_1).f0) < (t366.length : Int) := of_decide_eq_true (by first | (with_reducible assumption) | assumption); obtain ⟨ad377, e377, hx377_0⟩ := Kd.at_int (Kd.R_reads' HO_7.out).2.2 ((rd_T39 l1 x10_1).f0) p377 q377; cases e377; have hn377_0 : ad377.block ≠ gb376 := Kd.own_blk (Kd.R_ne HO_7.out BK376.out (by decide)); have hn377_1 : ad377.block ≠ gb376 := Kd.own_blk (Kd.R_ne HO_7.out BK376.out (by decide)); have hn377_2 : ad377.block ≠ gb376 := Kd.own_blk (Kd.R_ne HO_7.out BK376.out (by decide)); have hn377_3 : ad377.block ≠ gb376 := Kd.own_blk (Kd.R_ne HO_7.out BK376.out (by decide)); replace hx377_0 := (cell_far (p := ⟨gb376, 0, none⟩) (by first | (rw [add_block]; exact hn377_0) | (show (Addr.add _ _).block ≠ _; rw [add_block]; exact hn377_0) | exact hn377_0) (.int .i64 ((rd_T39 l1 x10_1).f0))).trans hx377_0; replace hx377_0 := (cell_far (p := ⟨gb376, 1, none⟩) (by first | (rw [add_block]; exact hn377_1) | (show (Addr.add _ _).block ≠ _; rw [add_block]; exact hn377_1) | exact hn377_1) (.int .i64 ((rd_T39 l1 x10_1).f1))).trans hx377_0; replace hx377_0 := (cell_far (p := ⟨gb376, 2, none⟩) (by first | (rw [add_block]; exact hn377_2) | (show (Addr.add _ _).block ≠ _; rw [add_block]; exact hn377_2) | exact hn377_2) (.int .i64 ((rd_T39 l1 x10_1).f2))).trans hx377_0; replace hx377_0 := (cell_far (p := ⟨gb376, 3, none⟩) (by first | (rw [add_block]; exact hn377_3) | (show (Addr.add _ _).block ≠ _; rw [add_block]; exact hn377_3) | exact hn377_3) (.int .i64 ((rd_T39 l1 x10_1).f3))).trans hx377_0; (try have hy377_0 := fun (n_ : Nat) => (show ((((((w24.drewN n_).setCell ⟨gb376, 0, none⟩ (.int .i64 ((rd_T39 l1 x10_1).f0))).setCell ⟨gb376, 1, none⟩ (.int .i64 ((rd_T39 l1 x10_1).f1))).setCell ⟨gb376, 2, none⟩ (.int .i64 ((rd_T39 l1 x10_1).f2))).setCell ⟨gb376, 3, none⟩ (.int .i64 ((rd_T39 l1 x10_1).f3)))).cell? _ = some _ from hx377_0)); clear hn377_0; clear hn377_1; clear hn377_2; clear hn377_3; replace p377 := eq_true p377; replace q377 := eq_true q377; have p381 : 0 ≤ (((rd_T39 l1 x10_1).f0) : Int) := of_decide_eq_true (by first | (with_reducible assumption) | assumption); have q381 : ((rd_T39 l1 x10_1).f0) < (t366.length : Int) := of_decide_eq_true (by first | (with_reducible assumption) | assumption); obtain ⟨ad381, e381, hx381_0⟩ := Kd.at_int (Kd.R_reads' HO_7.out).2.2 ((rd_T39 l1 x10_1).f0) p381 q381; obtain rfl : ad377 = ad381 := (by injection e381); have hn381_0 : ad377.block ≠ gb376 := Kd.own_blk (Kd.R_ne HO_7.out BK376.out (by decide)); have hn381_1 : ad377.block ≠ gb376 := Kd.own_blk (Kd.R_ne HO_7.out BK376.out (by decide)); have hn381_2 : ad377.block ≠ gb376 := Kd.own_blk (Kd.R_ne HO_7.out BK376.out (by decide)); have hn381_3 : ad377.block ≠ gb376 := Kd.own_blk (Kd.R_ne HO_7.out BK376.out (by decide)); replace hx381_0 := (cell_far (p := ⟨gb376, 0, none⟩) (by first | (rw [add_block]; exact hn381_0) | (show (Addr.add _ _).block ≠ _; rw [add_block]; exact hn381_0) | exact hn381_0) (.int .i64 ((rd_T39 l1 x10_1).f0))).trans hx381_0; replace hx381_0 := (cell_far (p := ⟨gb376, 1, none⟩) (by first | (rw [add_block]; exact hn381_1) | (show (Addr.add _ _).block ≠ _; rw [add_block]; exact hn381_1) | exact hn381_1) (.int .i64 ((rd_T39 l1 x10_1).f1))).trans hx381_0; replace hx381_0 := (cell_far (p := ⟨gb376, 2, none⟩) (by first | (rw [add_block]; exact hn381_2) | (show (Addr.add _ _).block ≠ _; rw [add_block]; exact hn381_2) | exact hn381_2) (.int .i64 ((rd_T39 l1 x10_1).f2))).trans hx381_0; replace hx381_0 := (cell_far (p := ⟨gb376, 3, none⟩) (by first | (rw [add_block]; exact hn381_3) | (show (Addr.add _ _).block ≠ _; rw [add_block]; exact hn381_3) | exact hn381_3) (.int .i64 ((rd_T39 l1 x10_1).f3))).trans hx381_0; (try have hy381_0 := fun (n_ : Nat) => (show ((((((w24.drewN n_).setCell ⟨gb376, 0, none⟩ (.int .i64 ((rd_T39 l1 x10_1).f0))).setCell ⟨gb376, 1, none⟩ (.int .i64 ((rd_T39 l1 x10_1).f1))).setCell ⟨gb376, 2, none⟩ (.int .i64 ((rd_T39 l1 x10_1).f2))).setCell ⟨gb376, 3, none⟩ (.int .i64 ((rd_T39 l1 x10_1).f3)))).cell? _ = some _ from hx381_0)); clear hn381_0; clear hn381_1; clear hn381_2; clear hn381_3; replace p381 := eq_true p381; replace q381 := eq_true q381; obtain ⟨Ao27, co27, eo27⟩ := Kd.R_slice HO_8.out; subst eo27; have p382 : 0 ≤ (((rd_T39 l1 x10_1).f1) : Int) := of_decide_eq_true (by first | (with_reducible assumption) | assumption); have q382 : ((rd_T39 l1 x10_1).f1) < (t367.length : Int) := of_decide_eq_true (by first | (with_reducible assumption) | assumption); obtain ⟨ad382, e382, hx382_0⟩ := Kd.at_int (Kd.R_reads' HO_8.out).2.2 ((rd_T39 l1 x10_1).f1) p382 q382; cases e382; have hn382_0 : ad382.block ≠ gb376 := Kd.own_blk (Kd.R_ne HO_8.out BK376.out (by decide)); have hn382_1 : ad382.block ≠ gb376 := Kd.own_blk (Kd.R_ne HO_8.out BK376.out (by decide)); have hn382_2 : ad382.block ≠ gb376 := Kd.own_blk (Kd.R_ne HO_8.out BK376.out (by decide)); have hn382_3 : ad382.block ≠ gb376 := Kd.own_blk (Kd.R_ne HO_8.out BK376.out (by decide)); replace hx382_0 := (cell_far (p := ⟨gb376, 0, none⟩) (by first | (rw [add_block]; exact hn382_0) | (show (Addr.add _ _).block ≠ _; rw [add_block]; exact hn382_0) | exact hn382_0) (.int .i64 ((rd_T39 l1 x10_1).f0))).trans hx382_0; replace hx382_0 := (cell_far (p := ⟨gb376, 1, none⟩) (by first | (rw [add_block]; exact hn382_1) | (show (Addr.add _ _).block ≠ _; rw [add_block]; exact hn382_1) | exact hn382_1) (.int .i64 ((rd_T39 l1 x10_1).f1))).trans hx382_0; replace hx382_0 := (cell_far (p := ⟨gb376, 2, none⟩) (by first | (rw [add_block]; exact hn382_2) | (show (Addr.add _ _).block ≠ _; rw [add_block]; exact hn382_2) | exact hn382_2) (.int .i64 ((rd_T39 l1 x10_1).f2))).trans hx382_0; replace hx382_0 := (cell_far (p := ⟨gb376, 3, none⟩) (by first | (rw [add_block]; exact hn382_3) | (show (Addr.add _ _).block ≠ _; rw [add_block]; exact hn382_3) | exact hn382_3) (.int .i64 ((rd_T39 l1 x10_1).f3))).trans hx382_0; (try have hy382_0 := fun (n_ : Nat) => (show ((((((w24.drewN n_).setCell ⟨gb376, 0, none⟩ (.int .i64 ((rd_T39 l1 x10_1).f0))).setCell ⟨gb376, 1, none⟩ (.int .i64 ((rd_T39 l1 x10_1).f1))).setCell ⟨gb376, 2, none⟩ (.int .i64 ((rd_T39 l1 x10_1).f2))).setCell ⟨gb376, 3, none⟩ (.int .i64 ((rd_T39 l1 x10_1).f3)))).cell? _ = some _ from hx382_0)); clear hn382_0; clear hn382_1; clear hn382_2; clear hn382_3; replace p382 := eq_true p382; replace q382 := eq_true q382) | ((with_reducible refine gate_builtin (b := .append) (xs := #[.tmp 57, .tmp 59]) rfl ?_); at_builtin; refine Kd.R_append (Kd.int .i64) (w0 := w) w.heap.size rfl (.tmp 57) (.tmp 59) 27 2 (.int .i64 0) 8 rfl Try.underlying27 info2 rfl (by decide) (by omega) u9 x9_1 x10_1 [.int .i64 x10_1] (fun k_ => some k_ ≠ (.slice (some ad377) t366.length co26 : Value).ownBlock ∧ some k_ ≠ (.slice (some ad382) t367.length co27 : Value).ownBlock) (fun _ => False) rfl (by first | (go_simp; done) | (go_simp; rfl)) ?aP (fun _ hk => hk.elim) ?aF ?aO ?aB ?aS ?aL ?_; (case aP => exact rfl); (case aB => exact (by repeat (first | (with_reducible first | exact HB.out | apply below_alloc | apply pw_below_drewN | apply below_drew1 | refine below_set ?_ GE376.out) | exact HB.out))); (case aF => exact (fun k_ hk => ⟨Kd.fresh' (Kd.R_lt (by (with_reducible repeat (first | apply Kd.R_alloc | apply Kd.R_drewN | apply Kd.R_drew)); exact (Kd.R_mono (Kd.R_far (p := ⟨gb376, 3, none⟩) (Kd.R_far (p := ⟨gb376, 2, none⟩) (Kd.R_far (p := ⟨gb376, 1, none⟩) (Kd.R_far (p := ⟨gb376, 0, none⟩) (Kd.R_types HO_7.out BK376.out (by decide)) (fun _ hk => hk.2) (.int .i64 ((rd_T39 l1 x10_1).f0))) (fun _ hk => hk.2) (.int .i64 ((rd_T39 l1 x10_1).f1))) (fun _ hk => hk.2) (.int .i64 ((rd_T39 l1 x10_1).f2))) (fun _ hk => hk.2) (.int .i64 ((rd_T39 l1 x10_1).f3))) (fun _ h_ => h_.1)))) k_ hk, Kd.fresh' (Kd.R_lt (by (with_reducible repeat (first | apply Kd.R_alloc | apply Kd.R_drewN | apply Kd.R_drew)); exact (Kd.R_mono (Kd.R_far (p := ⟨gb376, 3, none⟩) (Kd.R_far (p := ⟨gb376, 2, none⟩) (Kd.R_far (p := ⟨gb376, 1, none⟩) (Kd.R_far (p := ⟨gb376, 0, none⟩) (Kd.R_types HO_8.out BK376.out (by decide)) (fun _ hk => hk.2) (.int .i64 ((rd_T39 l1 x10_1).f0))) (fun _ hk => hk.2) (.int .i64 ((rd_T39 l1 x10_1).f1))) (fun _ hk => hk.2) (.int .i64 ((rd_T39 l1 x10_1).f2))) (fun _ hk => hk.2) (.int .i64 ((rd_T39 l1 x10_1).f3))) (fun _ h_ => h_.1)))) k_ hk⟩)); (case aO => exact (by (with_reducible repeat (first | apply Kd.R_alloc | apply Kd.R_drewN | apply Kd.R_drew)); exact Kd.R_mono (Kd.R_far (p := ⟨gb376, 3, none⟩) (Kd.R_far (p := ⟨gb376, 2, none⟩) (Kd.R_far (p := ⟨gb376, 1, none⟩) (Kd.R_far (p := ⟨gb376, 0, none⟩) (Kd.R_types HO_9.out BK376.out (by decide)) (fun _ hk => hk.2) (.int .i64 ((rd_T39 l1 x10_1).f0))) (fun _ hk => hk.2) (.int .i64 ((rd_T39 l1 x10_1).f1))) (fun _ hk => hk.2) (.int .i64 ((rd_T39 l1 x10_1).f2))) (fun _ hk => hk.2) (.int .i64 ((rd_T39 l1 x10_1).f3))) (fun _ hk => ⟨hk.1.1, hk.1.2⟩))); (case aS => exact (below_size (by repeat (first | (with_reducible first | exact HB.out | apply below_alloc | apply pw_below_drewN | apply below_drew1 | refine below_set ?_ GE376.out) | exact HB.out)))); (case aL => have := LMc23.out; omega); intro v384 w28 ho hb hg hat; rw [← Ny383.out] at ho; have n0_ := Aside0.mk (Kd.R_after (ok := (fun k_ => some k_ ≠ (.slice (some ad382) t367.length co27 : Value).ownBlock)) (by (with_reducible repeat (first | apply Kd.R_alloc | apply Kd.R_drewN | apply Kd.R_drew)); exact Kd.R_mono (Kd.R_far (p := ⟨gb376, 3, none⟩) (Kd.R_far (p := ⟨gb376, 2, none⟩) (Kd.R_far (p := ⟨gb376, 1, none⟩) (Kd.R_far (p := ⟨gb376, 0, none⟩) (Kd.R_types HO_7.out BK376.out (by decide)) (fun _ hk => hk.2) (.int .i64 ((rd_T39 l1 x10_1).f0))) (fun _ hk => hk.2) (.int .i64 ((rd_T39 l1 x10_1).f1))) (fun _ hk => hk.2) (.int .i64 ((rd_T39 l1 x10_1).f2))) (fun _ hk => hk.2) (.int .i64 ((rd_T39 l1 x10_1).f3))) (fun _ hk => ⟨hk.1.1, hk.1.2⟩)) hg hat); have n1_ := Aside0.mk (Kd.R_after (ok := (fun k_ => some k_ ≠ (.slice (some ad377) t366.length co26 : Value).ownBlock)) (by (with_reducible repeat (first | apply Kd.R_alloc | apply Kd.R_drewN | apply Kd.R_drew)); exact Kd.R_mono (Kd.R_far (p := ⟨gb376, 3, none⟩) (Kd.R_far (p := ⟨gb376, 2, none⟩) (Kd.R_far (p := ⟨gb376, 1, none⟩) (Kd.R_far (p := ⟨gb376, 0, none⟩) (Kd.R_types HO_8.out BK376.out (by decide)) (fun _ hk => hk.2) (.int .i64 ((rd_T39 l1 x10_1).f0))) (fun _ hk => hk.2) (.int .i64 ((rd_T39 l1 x10_1).f1))) (fun _ hk => hk.2) (.int .i64 ((rd_T39 l1 x10_1).f2))) (fun _ hk => hk.2) (.int .i64 ((rd_T39 l1 x10_1).f3))) (fun _ hk => ⟨hk.1.1, hk.1.2⟩)) hg hat); have n2_ := Aside0.mk (blk_grown (g := gb376) (o := .cells #[.int .i64 ((rd_T39 l1 x10_1).f0), .int .i64 ((rd_T39 l1 x10_1).f1), .int .i64 ((rd_T39 l1 x10_1).f2), .int .i64 ((rd_T39 l1 x10_1).f3)] 39 (0, 0)) (by (with_reducible repeat (first | refine blk_drewN ?_ _ | refine blk_drew ?_ | refine blk_alloc ?_ _)); refine blk_put (cs := #[.int .i64 ((rd_T39 l1 x10_1).f0), .int .i64 ((rd_T39 l1 x10_1).f1), .int .i64 ((rd_T39 l1 x10_1).f2), .int .i64 0]) ?_ 3 _ rfl; (with_reducible repeat (first | refine blk_drewN ?_ _ | refine blk_drew ?_ | refine blk_alloc ?_ _)); refine blk_put (cs := #[.int .i64 ((rd_T39 l1 x10_1).f0), .int .i64 ((rd_T39 l1 x10_1).f1), .int .i64 0, .int .i64 0]) ?_ 2 _ rfl; (with_reducible repeat (first | refine blk_drewN ?_ _ | refine blk_drew ?_ | refine blk_alloc ?_ _)); refine blk_put (cs := #[.int .i64 ((rd_T39 l1 x10_1).f0), .int .i64 0, .int .i64 0, .int .i64 0]) ?_ 1 _ rfl; (with_reducible repeat (first | refine blk_drewN ?_ _ | refine blk_drew ?_ | refine blk_alloc ?_ _)); refine blk_put (cs := #[.int .i64 0, .int .i64 0, .int .i64 0, .int .i64 0]) ?_ 0 _ rfl; (with_reducible repeat (first | refine blk_drewN ?_ _ | refine blk_drew ?_ | refine blk_alloc ?_ _)); exact BK376.out) hg (Kd.R_ne HO_9.out BK376.out (by decide))); have n3_ := Aside0.mk (hb); have n4_ := Aside0.mk (ho); clear HO_7; clear HO_8; clear BK376; clear HB; clear HO_9; have HO_7 := n0_; have HO_8 := n1_; have BK376 := n2_; have HB := n3_; have HO385 := n4_; clear n0_ n1_ n2_ n3_ n4_; clear ho hb hg hat))
             repeat (go_quiet (first | ((with_reducible refine gate_dst (N := 11) rfl ?_); refine box_event ?hg (N := 11) ?hd (cs := #[.int .i64 0, .int .i64 0, .int .i64 0, .int .i64 0]) (t := 39) ?hr ?_; (case hd => rfl); (case hg => rfl); (case hr => first | (go_simp; done) | (go_simp; rfl)); intro gb376 hg w24 hbox hb; have n0_ := Aside0.mk (Kd.R_below (by (with_reducible repeat (first | apply Kd.R_alloc | apply Kd.R_drewN | apply Kd.R_drew)); exact HO_7.out) hb); have n1_ := Aside0.mk (Kd.R_below (by (with_reducible repeat (first | apply Kd.R_alloc | apply Kd.R_drewN | apply Kd.R_drew)); exact HO_8.out) hb); have n2_ := Aside0.mk (Kd.R_below (by (with_reducible repeat (first | apply Kd.R_alloc | apply Kd.R_drewN | apply Kd.R_drew)); exact HO_9.out) hb); have n3_ := Aside0.mk (below_step (by repeat (first | (with_reducible first | exact HB.out | apply below_alloc | apply pw_below_drewN | apply below_drew1) | exact HB.out)) hb); have n4_ := Aside0.mk (hbox); have n5_ := Aside0.mk ((by rw [hg]; exact (below_size (by repeat (first | (with_reducible first | exact HB.out | apply below_alloc | apply pw_below_drewN | apply below_drew1) | exact HB.out))) : w.heap.size ≤ gb376)); have n6_ := Aside0.mk ((by rw [hg]; exact (below_size (by repeat (first | (with_reducible first | exact HB.out | apply below_alloc | apply pw_below_drewN | apply below_drew1) | exact HB.out))) : w.heap.size ≤ gb376)); clear HO_7; clear HO_8; clear HO_9; clear HB; have HO_7 := n0_; have HO_8 := n1_; have HO_9 := n2_; have HB := n3_; have BK376 := n4_; have GW376 := n5_; have GE376 := n6_; clear n0_ n1_ n2_ n3_ n4_ n5_ n6_; clear hb hbox hg; have hcz25_0 : w24.cell? ⟨gb376, 0, none⟩ = some (.int .i64 0) := (blk_cell BK376.out 0).trans rfl; have hcz25_1 : w24.cell? ⟨gb376, 1, none⟩ = some (.int .i64 0) := (blk_cell BK376.out 1).trans rfl; have hcz25_2 : w24.cell? ⟨gb376, 2, none⟩ = some (.int .i64 0) := (blk_cell BK376.out 2).trans rfl; have hcz25_3 : w24.cell? ⟨gb376, 3, none⟩ = some (.int .i64 0) := (blk_cell BK376.out 3).trans rfl; have hfz25_0 := blk_frozen BK376.out 0; have hfz25_1 := blk_frozen BK376.out 1; have hfz25_2 := blk_frozen BK376.out 2; have hfz25_3 := blk_frozen BK376.out 3; obtain ⟨Ao26, co26, eo26⟩ := Kd.R_slice HO_7.out; subst eo26; have p377 : 0 ≤ (((rd_T39 l1 x10_1).f0) : Int) := of_decide_eq_true (by first | (with_reducible assumption) | assumption); have q377 : ((rd_T39 l1 x10_1).f0) < (t366.length : Int) := of_decide_eq_true (by first | (with_reducible assumption) | assumption); obtain ⟨ad377, e377, hx377_0⟩ := Kd.at_int (Kd.R_reads' HO_7.out).2.2 ((rd_T39 l1 x10_1).f0) p377 q377; cases e377; have hn377_0 : ad377.block ≠ gb376 := Kd.own_blk (Kd.R_ne HO_7.out BK376.out (by decide)); have hn377_1 : ad377.block ≠ gb376 := Kd.own_blk (Kd.R_ne HO_7.out BK376.out (by decide)); have hn377_2 : ad377.block ≠ gb376 := Kd.own_blk (Kd.R_ne HO_7.out BK376.out (by decide)); have hn377_3 : ad377.block ≠ gb376 := Kd.own_blk (Kd.R_ne HO_7.out BK376.out (by decide)); replace hx377_0 := (cell_far (p := ⟨gb376, 0, none⟩) (by first | (rw [add_block]; exact hn377_0) | (show (Addr.add _ _).block ≠ _; rw [add_block]; exact hn377_0) | exact hn377_0) (.int .i64 ((rd_T39 l1 x10_1).f0))).trans hx377_0; replace hx377_0 := (cell_far (p := ⟨gb376, 1, none⟩) (by first | (rw [add_block]; exact hn377_1) | (show (Addr.add _ _).block ≠ _; rw [add_block]; exact hn377_1) | exact hn377_1) (.int .i64 ((rd_T39 l1 x10_1).f1))).trans hx377_0; replace hx377_0 := (cell_far (p := ⟨gb376, 2, none⟩) (by first | (rw [add_block]; exact hn377_2) | (show (Addr.add _ _).block ≠ _; rw [add_block]; exact hn377_2) | exact hn377_2) (.int .i64 ((rd_T39 l1 x10_1).f2))).trans hx377_0; replace hx377_0 := (cell_far (p := ⟨gb376, 3, none⟩) (by first | (rw [add_block]; exact hn377_3) | (show (Addr.add _ _).block ≠ _; rw [add_block]; exact hn377_3) | exact hn377_3) (.int .i64 ((rd_T39 l1 x10_1).f3))).trans hx377_0; (try have hy377_0 := fun (n_ : Nat) => (show ((((((w24.drewN n_).setCell ⟨gb376, 0, none⟩ (.int .i64 ((rd_T39 l1 x10_1).f0))).setCell ⟨gb376, 1, none⟩ (.int .i64 ((rd_T39 l1 x10_1).f1))).setCell ⟨gb376, 2, none⟩ (.int .i64 ((rd_T39 l1 x10_1).f2))).setCell ⟨gb376, 3, none⟩ (.int .i64 ((rd_T39 l1 x10_1).f3)))).cell? _ = some _ from hx377_0)); clear hn377_0; clear hn377_1; clear hn377_2; clear hn377_3; replace p377 := eq_true p377; replace q377 := eq_true q377; have p381 : 0 ≤ (((rd_T39 l1 x10_1).f0) : Int) := of_decide_eq_true (by first | (with_reducible assumption) | assumption); have q381 : ((rd_T39 l1 x10_1).f0) < (t366.length : Int) := of_decide_eq_true (by first | (with_reducible assumption) | assumption); obtain ⟨ad381, e381, hx381_0⟩ := Kd.at_int (Kd.R_reads' HO_7.out).2.2 ((rd_T39 l1 x10_1).f0) p381 q381; obtain rfl : ad377 = ad381 := (by injection e381); have hn381_0 : ad377.block ≠ gb376 := Kd.own_blk (Kd.R_ne HO_7.out BK376.out (by decide)); have hn381_1 : ad377.block ≠ gb376 := Kd.own_blk (Kd.R_ne HO_7.out BK376.out (by decide)); have hn381_2 : ad377.block ≠ gb376 := Kd.own_blk (Kd.R_ne HO_7.out BK376.out (by decide)); have hn381_3 : ad377.block ≠ gb376 := Kd.own_blk (Kd.R_ne HO_7.out BK376.out (by decide)); replace hx381_0 := (cell_far (p := ⟨gb376, 0, none⟩) (by first | (rw [add_block]; exact hn381_0) | (show (Addr.add _ _).block ≠ _; rw [add_block]; exact hn381_0) | exact hn381_0) (.int .i64 ((rd_T39 l1 x10_1).f0))).trans hx381_0; replace hx381_0 := (cell_far (p := ⟨gb376, 1, none⟩) (by first | (rw [add_block]; exact hn381_1) | (show (Addr.add _ _).block ≠ _; rw [add_block]; exact hn381_1) | exact hn381_1) (.int .i64 ((rd_T39 l1 x10_1).f1))).trans hx381_0; replace hx381_0 := (cell_far (p := ⟨gb376, 2, none⟩) (by first | (rw [add_block]; exact hn381_2) | (show (Addr.add _ _).block ≠ _; rw [add_block]; exact hn381_2) | exact hn381_2) (.int .i64 ((rd_T39 l1 x10_1).f2))).trans hx381_0; replace hx381_0 := (cell_far (p := ⟨gb376, 3, none⟩) (by first | (rw [add_block]; exact hn381_3) | (show (Addr.add _ _).block ≠ _; rw [add_block]; exact hn381_3) | exact hn381_3) (.int .i64 ((rd_T39 l1 x10_1).f3))).trans hx381_0; (try have hy381_0 := fun (n_ : Nat) => (show ((((((w24.drewN n_).setCell ⟨gb376, 0, none⟩ (.int .i64 ((rd_T39 l1 x10_1).f0))).setCell ⟨gb376, 1, none⟩ (.int .i64 ((rd_T39 l1 x10_1).f1))).setCell ⟨gb376, 2, none⟩ (.int .i64 ((rd_T39 l1 x10_1).f2))).setCell ⟨gb376, 3, none⟩ (.int .i64 ((rd_T39 l1 x10_1).f3)))).cell? _ = some _ from hx381_0)); clear hn381_0; clear hn381_1; clear hn381_2; clear hn381_3; replace p381 := eq_true p381; replace q381 := eq_true q381; obtain ⟨Ao27, co27, eo27⟩ := Kd.R_slice HO_8.out; subst eo27; have p382 : 0 ≤ (((rd_T39 l1 x10_1).f1) : Int) := of_decide_eq_true (by first | (with_reducible assumption) | assumption); have q382 : ((rd_T39 l1 x10_1).f1) < (t367.length : Int) := of_decide_eq_true (by first | (with_reducible assumption) | assumption); obtain ⟨ad382, e382, hx382_0⟩ := Kd.at_int (Kd.R_reads' HO_8.out).2.2 ((rd_T39 l1 x10_1).f1) p382 q382; cases e382; have hn382_0 : ad382.block ≠ gb376 := Kd.own_blk (Kd.R_ne HO_8.out BK376.out (by decide)); have hn382_1 : ad382.block ≠ gb376 := Kd.own_blk (Kd.R_ne HO_8.out BK376.out (by decide)); have hn382_2 : ad382.block ≠ gb376 := Kd.own_blk (Kd.R_ne HO_8.out BK376.out (by decide)); have hn382_3 : ad382.block ≠ gb376 := Kd.own_blk (Kd.R_ne HO_8.out BK376.out (by decide)); replace hx382_0 := (cell_far (p := ⟨gb376, 0, none⟩) (by first | (rw [add_block]; exact hn382_0) | (show (Addr.add _ _).block ≠ _; rw [add_block]; exact hn382_0) | exact hn382_0) (.int .i64 ((rd_T39 l1 x10_1).f0))).trans hx382_0; replace hx382_0 := (cell_far (p := ⟨gb376, 1, none⟩) (by first | (rw [add_block]; exact hn382_1) | (show (Addr.add _ _).block ≠ _; rw [add_block]; exact hn382_1) | exact hn382_1) (.int .i64 ((rd_T39 l1 x10_1).f1))).trans hx382_0; replace hx382_0 := (cell_far (p := ⟨gb376, 2, none⟩) (by first | (rw [add_block]; exact hn382_2) | (show (Addr.add _ _).block ≠ _; rw [add_block]; exact hn382_2) | exact hn382_2) (.int .i64 ((rd_T39 l1 x10_1).f2))).trans hx382_0; replace hx382_0 := (cell_far (p := ⟨gb376, 3, none⟩) (by first | (rw [add_block]; exact hn382_3) | (show (Addr.add _ _).block ≠ _; rw [add_block]; exact hn382_3) | exact hn382_3) (.int .i64 ((rd_T39 l1 x10_1).f3))).trans hx382_0; (try have hy382_0 := fun (n_ : Nat) => (show ((((((w24.drewN n_).setCell ⟨gb376, 0, none⟩ (.int .i64 ((rd_T39 l1 x10_1).f0))).setCell ⟨gb376, 1, none⟩ (.int .i64 ((rd_T39 l1 x10_1).f1))).setCell ⟨gb376, 2, none⟩ (.int .i64 ((rd_T39 l1 x10_1).f2))).setCell ⟨gb376, 3, none⟩ (.int .i64 ((rd_T39 l1 x10_1).f3)))).cell? _ = some _ from hx382_0)); clear hn382_0; clear hn382_1; clear hn382_2; clear hn382_3; replace p382 := eq_true p382; replace q382 := eq_true q382) | ((with_reducible refine gate_builtin (b := .append) (xs := #[.tmp 57, .tmp 59]) rfl ?_); at_builtin; refine Kd.R_append (Kd.int .i64) (w0 := w) w.heap.size rfl (.tmp 57) (.tmp 59) 27 2 (.int .i64 0) 8 rfl Try.underlying27 info2 rfl (by decide) (by omega) u9 x9_1 x10_1 [.int .i64 x10_1] (fun k_ => some k_ ≠ (.slice (some ad377) t366.length co26 : Value).ownBlock ∧ some k_ ≠ (.slice (some ad382) t367.length co27 : Value).ownBlock) (fun _ => False) rfl (by first | (go_simp; done) | (go_simp; rfl)) ?aP (fun _ hk => hk.elim) ?aF ?aO ?aB ?aS ?aL ?_; (case aP => exact rfl); (case aB => exact (by repeat (first | (with_reducible first | exact HB.out | apply below_alloc | apply pw_below_drewN | apply below_drew1 | refine below_set ?_ GE376.out) | exact HB.out))); (case aF => exact (fun k_ hk => ⟨Kd.fresh' (Kd.R_lt (by (with_reducible repeat (first | apply Kd.R_alloc | apply Kd.R_drewN | apply Kd.R_drew)); exact (Kd.R_mono (Kd.R_far (p := ⟨gb376, 3, none⟩) (Kd.R_far (p := ⟨gb376, 2, none⟩) (Kd.R_far (p := ⟨gb376, 1, none⟩) (Kd.R_far (p := ⟨gb376, 0, none⟩) (Kd.R_types HO_7.out BK376.out (by decide)) (fun _ hk => hk.2) (.int .i64 ((rd_T39 l1 x10_1).f0))) (fun _ hk => hk.2) (.int .i64 ((rd_T39 l1 x10_1).f1))) (fun _ hk => hk.2) (.int .i64 ((rd_T39 l1 x10_1).f2))) (fun _ hk => hk.2) (.int .i64 ((rd_T39 l1 x10_1).f3))) (fun _ h_ => h_.1)))) k_ hk, Kd.fresh' (Kd.R_lt (by (with_reducible repeat (first | apply Kd.R_alloc | apply Kd.R_drewN | apply Kd.R_drew)); exact (Kd.R_mono (Kd.R_far (p := ⟨gb376, 3, none⟩) (Kd.R_far (p := ⟨gb376, 2, none⟩) (Kd.R_far (p := ⟨gb376, 1, none⟩) (Kd.R_far (p := ⟨gb376, 0, none⟩) (Kd.R_types HO_8.out BK376.out (by decide)) (fun _ hk => hk.2) (.int .i64 ((rd_T39 l1 x10_1).f0))) (fun _ hk => hk.2) (.int .i64 ((rd_T39 l1 x10_1).f1))) (fun _ hk => hk.2) (.int .i64 ((rd_T39 l1 x10_1).f2))) (fun _ hk => hk.2) (.int .i64 ((rd_T39 l1 x10_1).f3))) (fun _ h_ => h_.1)))) k_ hk⟩)); (case aO => exact (by (with_reducible repeat (first | apply Kd.R_alloc | apply Kd.R_drewN | apply Kd.R_drew)); exact Kd.R_mono (Kd.R_far (p := ⟨gb376, 3, none⟩) (Kd.R_far (p := ⟨gb376, 2, none⟩) (Kd.R_far (p := ⟨gb376, 1, none⟩) (Kd.R_far (p := ⟨gb376, 0, none⟩) (Kd.R_types HO_9.out BK376.out (by decide)) (fun _ hk => hk.2) (.int .i64 ((rd_T39 l1 x10_1).f0))) (fun _ hk => hk.2) (.int .i64 ((rd_T39 l1 x10_1).f1))) (fun _ hk => hk.2) (.int .i64 ((rd_T39 l1 x10_1).f2))) (fun _ hk => hk.2) (.int .i64 ((rd_T39 l1 x10_1).f3))) (fun _ hk => ⟨hk.1.1, hk.1.2⟩))); (case aS => exact (below_size (by repeat (first | (with_reducible first | exact HB.out | apply below_alloc | apply pw_below_drewN | apply below_drew1 | refine below_set ?_ GE376.out) | exact HB.out)))); (case aL => have := LMc23.out; omega); intro v384 w28 ho hb hg hat; rw [← Ny383.out] at ho; have n0_ := Aside0.mk (Kd.R_after (ok := (fun k_ => some k_ ≠ (.slice (some ad382) t367.length co27 : Value).ownBlock)) (by (with_reducible repeat (first | apply Kd.R_alloc | apply Kd.R_drewN | apply Kd.R_drew)); exact Kd.R_mono (Kd.R_far (p := ⟨gb376, 3, none⟩) (Kd.R_far (p := ⟨gb376, 2, none⟩) (Kd.R_far (p := ⟨gb376, 1, none⟩) (Kd.R_far (p := ⟨gb376, 0, none⟩) (Kd.R_types HO_7.out BK376.out (by decide)) (fun _ hk => hk.2) (.int .i64 ((rd_T39 l1 x10_1).f0))) (fun _ hk => hk.2) (.int .i64 ((rd_T39 l1 x10_1).f1))) (fun _ hk => hk.2) (.int .i64 ((rd_T39 l1 x10_1).f2))) (fun _ hk => hk.2) (.int .i64 ((rd_T39 l1 x10_1).f3))) (fun _ hk => ⟨hk.1.1, hk.1.2⟩)) hg hat); have n1_ := Aside0.mk (Kd.R_after (ok := (fun k_ => some k_ ≠ (.slice (some ad377) t366.length co26 : Value).ownBlock)) (by (with_reducible repeat (first | apply Kd.R_alloc | apply Kd.R_drewN | apply Kd.R_drew)); exact Kd.R_mono (Kd.R_far (p := ⟨gb376, 3, none⟩) (Kd.R_far (p := ⟨gb376, 2, none⟩) (Kd.R_far (p := ⟨gb376, 1, none⟩) (Kd.R_far (p := ⟨gb376, 0, none⟩) (Kd.R_types HO_8.out BK376.out (by decide)) (fun _ hk => hk.2) (.int .i64 ((rd_T39 l1 x10_1).f0))) (fun _ hk => hk.2) (.int .i64 ((rd_T39 l1 x10_1).f1))) (fun _ hk => hk.2) (.int .i64 ((rd_T39 l1 x10_1).f2))) (fun _ hk => hk.2) (.int .i64 ((rd_T39 l1 x10_1).f3))) (fun _ hk => ⟨hk.1.1, hk.1.2⟩)) hg hat); have n2_ := Aside0.mk (blk_grown (g := gb376) (o := .cells #[.int .i64 ((rd_T39 l1 x10_1).f0), .int .i64 ((rd_T39 l1 x10_1).f1), .int .i64 ((rd_T39 l1 x10_1).f2), .int .i64 ((rd_T39 l1 x10_1).f3)] 39 (0, 0)) (by (with_reducible repeat (first | refine blk_drewN ?_ _ | refine blk_drew ?_ | refine blk_alloc ?_ _)); refine blk_put (cs := #[.int .i64 ((rd_T39 l1 x10_1).f0), .int .i64 ((rd_T39 l1 x10_1).f1), .int .i64 ((rd_T39 l1 x10_1).f2), .int .i64 0]) ?_ 3 _ rfl; (with_reducible repeat (first | refine blk_drewN ?_ _ | refine blk_drew ?_ | refine blk_alloc ?_ _)); refine blk_put (cs := #[.int .i64 ((rd_T39 l1 x10_1).f0), .int .i64 ((rd_T39 l1 x10_1).f1), .int .i64 0, .int .i64 0]) ?_ 2 _ rfl; (with_reducible repeat (first | refine blk_drewN ?_ _ | refine blk_drew ?_ | refine blk_alloc ?_ _)); refine blk_put (cs := #[.int .i64 ((rd_T39 l1 x10_1).f0), .int .i64 0, .int .i64 0, .int .i64 0]) ?_ 1 _ rfl; (with_reducible repeat (first | refine blk_drewN ?_ _ | refine blk_drew ?_ | refine blk_alloc ?_ _)); refine blk_put (cs := #[.int .i64 0, .int .i64 0, .int .i64 0, .int .i64 0]) ?_ 0 _ rfl; (with_reducible repeat (first | refine blk_drewN ?_ _ | refine blk_drew ?_ | refine blk_alloc ?_ _)); exact BK376.out) hg (Kd.R_ne HO_9.out BK376.out (by decide))); have n3_ := Aside0.mk (hb); have n4_ := Aside0.mk (ho); clear HO_7; clear HO_8; clear BK376; clear HB; clear HO_9; have HO_7 := n0_; have HO_8 := n1_; have BK376 := n2_; have HB := n3_; have HO385 := n4_; clear n0_ n1_ n2_ n3_ n4_; clear ho hb hg hat)); try go_wp2_with (first | ((with_reducible refine gate_dst (N := 11) rfl ?_); refine box_event ?hg (N := 11) ?hd (cs := #[.int .i64 0, .int .i64 0, .int .i64 0, .int .i64 0]) (t := 39) ?hr ?_; (case hd => rfl); (case hg => rfl); (case hr => first | (go_simp; done) | (go_simp; rfl)); intro gb376 hg w24 hbox hb; have n0_ := Aside0.mk (Kd.R_below (by (with_reducible repeat (first | apply Kd.R_alloc | apply Kd.R_drewN | apply Kd.R_drew)); exact HO_7.out) hb); have n1_ := Aside0.mk (Kd.R_below (by (with_reducible repeat (first | apply Kd.R_alloc | apply Kd.R_drewN | apply Kd.R_drew)); exact HO_8.out) hb); have n2_ := Aside0.mk (Kd.R_below (by (with_reducible repeat (first | apply Kd.R_alloc | apply Kd.R_drewN | apply Kd.R_drew)); exact HO_9.out) hb); have n3_ := Aside0.mk (below_step (by repeat (first | (with_reducible first | exact HB.out | apply below_alloc | apply pw_below_drewN | apply below_drew1) | exact HB.out)) hb); have n4_ := Aside0.mk (hbox); have n5_ := Aside0.mk ((by rw [hg]; exact (below_size (by repeat (first | (with_reducible first | exact HB.out | apply below_alloc | apply pw_below_drewN | apply below_drew1) | exact HB.out))) : w.heap.size ≤ gb376)); have n6_ := Aside0.mk ((by rw [hg]; exact (below_size (by repeat (first | (with_reducible first | exact HB.out | apply below_alloc | apply pw_below_drewN | apply below_drew1) | exact HB.out))) : w.heap.size ≤ gb376)); clear HO_7; clear HO_8; clear HO_9; clear HB; have HO_7 := n0_; have HO_8 := n1_; have HO_9 := n2_; have HB := n3_; have BK376 := n4_; have GW376 := n5_; have GE376 := n6_; clear n0_ n1_ n2_ n3_ n4_ n5_ n6_; clear hb hbox hg; have hcz25_0 : w24.cell? ⟨gb376, 0, none⟩ = some (.int .i64 0) := (blk_cell BK376.out 0).trans rfl; have hcz25_1 : w24.cell? ⟨gb376, 1, none⟩ = some (.int .i64 0) := (blk_cell BK376.out 1).trans rfl; have hcz25_2 : w24.cell? ⟨gb376, 2, none⟩ = some (.int .i64 0) := (blk_cell BK376.out 2).trans rfl; have hcz25_3 : w24.cell? ⟨gb376, 3, none⟩ = some (.int .i64 0) := (blk_cell BK376.out 3).trans rfl; have hfz25_0 := blk_frozen BK376.out 0; have hfz25_1 := blk_frozen BK376.out 1; have hfz25_2 := blk_frozen BK376.out 2; have hfz25_3 := blk_frozen BK376.out 3; obtain ⟨Ao26, co26, eo26⟩ := Kd.R_slice HO_7.out; subst eo26; have p377 : 0 ≤ (((rd_T39 l1 x10_1).f0) : Int) := of_decide_eq_true (by first | (with_reducible assumption) | assumption); have q377 : ((rd_T39 l1 x10_1).f0) < (t366.length : Int) := of_decide_eq_true (by first | (with_reducible assumption) | assumption); obtain ⟨ad377, e377, hx377_0⟩ := Kd.at_int (Kd.R_reads' HO_7.out).2.2 ((rd_T39 l1 x10_1).f0) p377 q377; cases e377; have hn377_0 : ad377.block ≠ gb376 := Kd.own_blk (Kd.R_ne HO_7.out BK376.out (by decide)); have hn377_1 : ad377.block ≠ gb376 := Kd.own_blk (Kd.R_ne HO_7.out BK376.out (by decide)); have hn377_2 : ad377.block ≠ gb376 := Kd.own_blk (Kd.R_ne HO_7.out BK376.out (by decide)); have hn377_3 : ad377.block ≠ gb376 := Kd.own_blk (Kd.R_ne HO_7.out BK376.out (by decide)); replace hx377_0 := (cell_far (p := ⟨gb376, 0, none⟩) (by first | (rw [add_block]; exact hn377_0) | (show (Addr.add _ _).block ≠ _; rw [add_block]; exact hn377_0) | exact hn377_0) (.int .i64 ((rd_T39 l1 x10_1).f0))).trans hx377_0; replace hx377_0 := (cell_far (p := ⟨gb376, 1, none⟩) (by first | (rw [add_block]; exact hn377_1) | (show (Addr.add _ _).block ≠ _; rw [add_block]; exact hn377_1) | exact hn377_1) (.int .i64 ((rd_T39 l1 x10_1).f1))).trans hx377_0; replace hx377_0 := (cell_far (p := ⟨gb376, 2, none⟩) (by first | (rw [add_block]; exact hn377_2) | (show (Addr.add _ _).block ≠ _; rw [add_block]; exact hn377_2) | exact hn377_2) (.int .i64 ((rd_T39 l1 x10_1).f2))).trans hx377_0; replace hx377_0 := (cell_far (p := ⟨gb376, 3, none⟩) (by first | (rw [add_block]; exact hn377_3) | (show (Addr.add _ _).block ≠ _; rw [add_block]; exact hn377_3) | exact hn377_3) (.int .i64 ((rd_T39 l1 x10_1).f3))).trans hx377_0; (try have hy377_0 := fun (n_ : Nat) => (show ((((((w24.drewN n_).setCell ⟨gb376, 0, none⟩ (.int .i64 ((rd_T39 l1 x10_1).f0))).setCell ⟨gb376, 1, none⟩ (.int .i64 ((rd_T39 l1 x10_1).f1))).setCell ⟨gb376, 2, none⟩ (.int .i64 ((rd_T39 l1 x10_1).f2))).setCell ⟨gb376, 3, none⟩ (.int .i64 ((rd_T39 l1 x10_1).f3)))).cell? _ = some _ from hx377_0)); clear hn377_0; clear hn377_1; clear hn377_2; clear hn377_3; replace p377 := eq_true p377; replace q377 := eq_true q377; have p381 : 0 ≤ (((rd_T39 l1 x10_1).f0) : Int) := of_decide_eq_true (by first | (with_reducible assumption) | assumption); have q381 : ((rd_T39 l1 x10_1).f0) < (t366.length : Int) := of_decide_eq_true (by first | (with_reducible assumption) | assumption); obtain ⟨ad381, e381, hx381_0⟩ := Kd.at_int (Kd.R_reads' HO_7.out).2.2 ((rd_T39 l1 x10_1).f0) p381 q381; obtain rfl : ad377 = ad381 := (by injection e381); have hn381_0 : ad377.block ≠ gb376 := Kd.own_blk (Kd.R_ne HO_7.out BK376.out (by decide)); have hn381_1 : ad377.block ≠ gb376 := Kd.own_blk (Kd.R_ne HO_7.out BK376.out (by decide)); have hn381_2 : ad377.block ≠ gb376 := Kd.own_blk (Kd.R_ne HO_7.out BK376.out (by decide)); have hn381_3 : ad377.block ≠ gb376 := Kd.own_blk (Kd.R_ne HO_7.out BK376.out (by decide)); replace hx381_0 := (cell_far (p := ⟨gb376, 0, none⟩) (by first | (rw [add_block]; exact hn381_0) | (show (Addr.add _ _).block ≠ _; rw [add_block]; exact hn381_0) | exact hn381_0) (.int .i64 ((rd_T39 l1 x10_1).f0))).trans hx381_0; replace hx381_0 := (cell_far (p := ⟨gb376, 1, none⟩) (by first | (rw [add_block]; exact hn381_1) | (show (Addr.add _ _).block ≠ _; rw [add_block]; exact hn381_1) | exact hn381_1) (.int .i64 ((rd_T39 l1 x10_1).f1))).trans hx381_0; replace hx381_0 := (cell_far (p := ⟨gb376, 2, none⟩) (by first | (rw [add_block]; exact hn381_2) | (show (Addr.add _ _).block ≠ _; rw [add_block]; exact hn381_2) | exact hn381_2) (.int .i64 ((rd_T39 l1 x10_1).f2))).trans hx381_0; replace hx381_0 := (cell_far (p := ⟨gb376, 3, none⟩) (by first | (rw [add_block]; exact hn381_3) | (show (Addr.add _ _).block ≠ _; rw [add_block]; exact hn381_3) | exact hn381_3) (.int .i64 ((rd_T39 l1 x10_1).f3))).trans hx381_0; (try have hy381_0 := fun (n_ : Nat) => (show ((((((w24.drewN n_).setCell ⟨gb376, 0, none⟩ (.int .i64 ((rd_T39 l1 x10_1).f0))).setCell ⟨gb376, 1, none⟩ (.int .i64 ((rd_T39 l1 x10_1).f1))).setCell ⟨gb376, 2, none⟩ (.int .i64 ((rd_T39 l1 x10_1).f2))).setCell ⟨gb376, 3, none⟩ (.int .i64 ((rd_T39 l1 x10_1).f3)))).cell? _ = some _ from hx381_0)); clear hn381_0; clear hn381_1; clear hn381_2; clear hn381_3; replace p381 := eq_true p381; replace q381 := eq_true q381; obtain ⟨Ao27, co27, eo27⟩ := Kd.R_slice HO_8.out; subst eo27; have p382 : 0 ≤ (((rd_T39 l1 x10_1).f1) : Int) := of_decide_eq_true (by first | (with_reducible assumption) | assumption); have q382 : ((rd_T39 l1 x10_1).f1) < (t367.length : Int) := of_decide_eq_true (by first | (with_reducible assumption) | assumption); obtain ⟨ad382, e382, hx382_0⟩ := Kd.at_int (Kd.R_reads' HO_8.out).2.2 ((rd_T39 l1 x10_1).f1) p382 q382; cases e382; have hn382_0 : ad382.block ≠ gb376 := Kd.own_blk (Kd.R_ne HO_8.out BK376.out (by decide)); have hn382_1 : ad382.block ≠ gb376 := Kd.own_blk (Kd.R_ne HO_8.out BK376.out (by decide)); have hn382_2 : ad382.block ≠ gb376 := Kd.own_blk (Kd.R_ne HO_8.out BK376.out (by decide)); have hn382_3 : ad382.block ≠ gb376 := Kd.own_blk (Kd.R_ne HO_8.out BK376.out (by decide)); replace hx382_0 := (cell_far (p := ⟨gb376, 0, none⟩) (by first | (rw [add_block]; exact hn382_0) | (show (Addr.add _ _).block ≠ _; rw [add_block]; exact hn382_0) | exact hn382_0) (.int .i64 ((rd_T39 l1 x10_1).f0))).trans hx382_0; replace hx382_0 := (cell_far (p := ⟨gb376, 1, none⟩) (by first | (rw [add_block]; exact hn382_1) | (show (Addr.add _ _).block ≠ _; rw [add_block]; exact hn382_1) | exact hn382_1) (.int .i64 ((rd_T39 l1 x10_1).f1))).trans hx382_0; replace hx382_0 := (cell_far (p := ⟨gb376, 2, none⟩) (by first | (rw [add_block]; exact hn382_2) | (show (Addr.add _ _).block ≠ _; rw [add_block]; exact hn382_2) | exact hn382_2) (.int .i64 ((rd_T39 l1 x10_1).f2))).trans hx382_0; replace hx382_0 := (cell_far (p := ⟨gb376, 3, none⟩) (by first | (rw [add_block]; exact hn382_3) | (show (Addr.add _ _).block ≠ _; rw [add_block]; exact hn382_3) | exact hn382_3) (.int .i64 ((rd_T39 l1 x10_1).f3))).trans hx382_0; (try have hy382_0 := fun (n_ : Nat) => (show ((((((w24.drewN n_).setCell ⟨gb376, 0, none⟩ (.int .i64 ((rd_T39 l1 x10_1).f0))).setCell ⟨gb376, 1, none⟩ (.int .i64 ((rd_T39 l1 x10_1).f1))).setCell ⟨gb376, 2, none⟩ (.int .i64 ((rd_T39 l1 x10_1).f2))).setCell ⟨gb376, 3, none⟩ (.int .i64 ((rd_T39 l1 x10_1).f3)))).cell? _ = some _ from hx382_0)); clear hn382_0; clear hn382_1; clear hn382_2; clear hn382_3; replace p382 := eq_true p382; replace q382 := eq_true q382) | ((with_reducible refine gate_builtin (b := .append) (xs := #[.tmp 57, .tmp 59]) rfl ?_); at_builtin; refine Kd.R_append (Kd.int .i64) (w0 := w) w.heap.size rfl (.tmp 57) (.tmp 59) 27 2 (.int .i64 0) 8 rfl Try.underlying27 info2 rfl (by decide) (by omega) u9 x9_1 x10_1 [.int .i64 x10_1] (fun k_ => some k_ ≠ (.slice (some ad377) t366.length co26 : Value).ownBlock ∧ some k_ ≠ (.slice (some ad382) t367.length co27 : Value).ownBlock) (fun _ => False) rfl (by first | (go_simp; done) | (go_simp; rfl)) ?aP (fun _ hk => hk.elim) ?aF ?aO ?aB ?aS ?aL ?_; (case aP => exact rfl); (case aB => exact (by repeat (first | (with_reducible first | exact HB.out | apply below_alloc | apply pw_below_drewN | apply below_drew1 | refine below_set ?_ GE376.out) | exact HB.out))); (case aF => exact (fun k_ hk => ⟨Kd.fresh' (Kd.R_lt (by (with_reducible repeat (first | apply Kd.R_alloc | apply Kd.R_drewN | apply Kd.R_drew)); exact (Kd.R_mono (Kd.R_far (p := ⟨gb376, 3, none⟩) (Kd.R_far (p := ⟨gb376, 2, none⟩) (Kd.R_far (p := ⟨gb376, 1, none⟩) (Kd.R_far (p := ⟨gb376, 0, none⟩) (Kd.R_types HO_7.out BK376.out (by decide)) (fun _ hk => hk.2) (.int .i64 ((rd_T39 l1 x10_1).f0))) (fun _ hk => hk.2) (.int .i64 ((rd_T39 l1 x10_1).f1))) (fun _ hk => hk.2) (.int .i64 ((rd_T39 l1 x10_1).f2))) (fun _ hk => hk.2) (.int .i64 ((rd_T39 l1 x10_1).f3))) (fun _ h_ => h_.1)))) k_ hk, Kd.fresh' (Kd.R_lt (by (with_reducible repeat (first | apply Kd.R_alloc | apply Kd.R_drewN | apply Kd.R_drew)); exact (Kd.R_mono (Kd.R_far (p := ⟨gb376, 3, none⟩) (Kd.R_far (p := ⟨gb376, 2, none⟩) (Kd.R_far (p := ⟨gb376, 1, none⟩) (Kd.R_far (p := ⟨gb376, 0, none⟩) (Kd.R_types HO_8.out BK376.out (by decide)) (fun _ hk => hk.2) (.int .i64 ((rd_T39 l1 x10_1).f0))) (fun _ hk => hk.2) (.int .i64 ((rd_T39 l1 x10_1).f1))) (fun _ hk => hk.2) (.int .i64 ((rd_T39 l1 x10_1).f2))) (fun _ hk => hk.2) (.int .i64 ((rd_T39 l1 x10_1).f3))) (fun _ h_ => h_.1)))) k_ hk⟩)); (case aO => exact (by (with_reducible repeat (first | apply Kd.R_alloc | apply Kd.R_drewN | apply Kd.R_drew)); exact Kd.R_mono (Kd.R_far (p := ⟨gb376, 3, none⟩) (Kd.R_far (p := ⟨gb376, 2, none⟩) (Kd.R_far (p := ⟨gb376, 1, none⟩) (Kd.R_far (p := ⟨gb376, 0, none⟩) (Kd.R_types HO_9.out BK376.out (by decide)) (fun _ hk => hk.2) (.int .i64 ((rd_T39 l1 x10_1).f0))) (fun _ hk => hk.2) (.int .i64 ((rd_T39 l1 x10_1).f1))) (fun _ hk => hk.2) (.int .i64 ((rd_T39 l1 x10_1).f2))) (fun _ hk => hk.2) (.int .i64 ((rd_T39 l1 x10_1).f3))) (fun _ hk => ⟨hk.1.1, hk.1.2⟩))); (case aS => exact (below_size (by repeat (first | (with_reducible first | exact HB.out | apply below_alloc | apply pw_below_drewN | apply below_drew1 | refine below_set ?_ GE376.out) | exact HB.out)))); (case aL => have := LMc23.out; omega); intro v384 w28 ho hb hg hat; rw [← Ny383.out] at ho; have n0_ := Aside0.mk (Kd.R_after (ok := (fun k_ => some k_ ≠ (.slice (some ad382) t367.length co27 : Value).ownBlock)) (by (with_reducible repeat (first | apply Kd.R_alloc | apply Kd.R_drewN | apply Kd.R_drew)); exact Kd.R_mono (Kd.R_far (p := ⟨gb376, 3, none⟩) (Kd.R_far (p := ⟨gb376, 2, none⟩) (Kd.R_far (p := ⟨gb376, 1, none⟩) (Kd.R_far (p := ⟨gb376, 0, none⟩) (Kd.R_types HO_7.out BK376.out (by decide)) (fun _ hk => hk.2) (.int .i64 ((rd_T39 l1 x10_1).f0))) (fun _ hk => hk.2) (.int .i64 ((rd_T39 l1 x10_1).f1))) (fun _ hk => hk.2) (.int .i64 ((rd_T39 l1 x10_1).f2))) (fun _ hk => hk.2) (.int .i64 ((rd_T39 l1 x10_1).f3))) (fun _ hk => ⟨hk.1.1, hk.1.2⟩)) hg hat); have n1_ := Aside0.mk (Kd.R_after (ok := (fun k_ => some k_ ≠ (.slice (some ad377) t366.length co26 : Value).ownBlock)) (by (with_reducible repeat (first | apply Kd.R_alloc | apply Kd.R_drewN | apply Kd.R_drew)); exact Kd.R_mono (Kd.R_far (p := ⟨gb376, 3, none⟩) (Kd.R_far (p := ⟨gb376, 2, none⟩) (Kd.R_far (p := ⟨gb376, 1, none⟩) (Kd.R_far (p := ⟨gb376, 0, none⟩) (Kd.R_types HO_8.out BK376.out (by decide)) (fun _ hk => hk.2) (.int .i64 ((rd_T39 l1 x10_1).f0))) (fun _ hk => hk.2) (.int .i64 ((rd_T39 l1 x10_1).f1))) (fun _ hk => hk.2) (.int .i64 ((rd_T39 l1 x10_1).f2))) (fun _ hk => hk.2) (.int .i64 ((rd_T39 l1 x10_1).f3))) (fun _ hk => ⟨hk.1.1, hk.1.2⟩)) hg hat); have n2_ := Aside0.mk (blk_grown (g := gb376) (o := .cells #[.int .i64 ((rd_T39 l1 x10_1).f0), .int .i64 ((rd_T39 l1 x10_1).f1), .int .i64 ((rd_T39 l1 x10_1).f2), .int .i64 ((rd_T39 l1 x10_1).f3)] 39 (0, 0)) (by (with_reducible repeat (first | refine blk_drewN ?_ _ | refine blk_drew ?_ | refine blk_alloc ?_ _)); refine blk_put (cs := #[.int .i64 ((rd_T39 l1 x10_1).f0), .int .i64 ((rd_T39 l1 x10_1).f1), .int .i64 ((rd_T39 l1 x10_1).f2), .int .i64 0]) ?_ 3 _ rfl; (with_reducible repeat (first | refine blk_drewN ?_ _ | refine blk_drew ?_ | refine blk_alloc ?_ _)); refine blk_put (cs := #[.int .i64 ((rd_T39 l1 x10_1).f0), .int .i64 ((rd_T39 l1 x10_1).f1), .int .i64 0, .int .i64 0]) ?_ 2 _ rfl; (with_reducible repeat (first | refine blk_drewN ?_ _ | refine blk_drew ?_ | refine blk_alloc ?_ _)); refine blk_put (cs := #[.int .i64 ((rd_T39 l1 x10_1).f0), .int .i64 0, .int .i64 0, .int .i64 0]) ?_ 1 _ rfl; (with_reducible repeat (first | refine blk_drewN ?_ _ | refine blk_drew ?_ | refine blk_alloc ?_ _)); refine blk_put (cs := #[.int .i64 0, .int .i64 0, .int .i64 0, .int .i64 0]) ?_ 0 _ rfl; (with_reducible repeat (first | refine blk_drewN ?_ _ | refine blk_drew ?_ | refine blk_alloc ?_ _)); exact BK376.out) hg (Kd.R_ne HO_9.out BK376.out (by decide))); have n3_ := Aside0.mk (hb); have n4_ := Aside0.mk (ho); clear HO_7; clear HO_8; clear BK376; clear HB; clear HO_9; have HO_7 := n0_; have HO_8 := n1_; have BK376 := n2_; have HB := n3_; have HO385 := n4_; clear n0_ n1_ n2_ n3_ n4_; clear ho hb hg hat)))
             go_roundg k1
             case measure => have := HK1.out; omega
             case rel => exact ⟨(y383), (wrap64 (x10_1 + 1)), (by first | rfl | (simp; done) | (simp [*]; done)), H', ⟨by have := HK1.out; omega⟩, ⟨by (with_reducible repeat (first | apply Kd.R_alloc | apply Kd.R_drewN | apply Kd.R_drew)); exact HO_7.out⟩, ⟨by (with_reducible repeat (first | apply Kd.R_alloc | apply Kd.R_drewN | apply Kd.R_drew)); exact HO_8.out⟩, ⟨by (with_reducible repeat (first | apply Kd.R_alloc | apply Kd.R_drewN | apply Kd.R_drew)); exact HO385.out⟩, ⟨by repeat (first | (with_reducible first | exact HB.out | apply below_alloc | apply pw_below_drewN | apply below_drew1 | refine below_set ?_ GE376.out) | exact HB.out)⟩⟩
            ·rw [if_neg c23] at H
             exact absurd H (by simp)
           ·rw [if_neg c22] at H
            have c22b0 : decide ((rd t367 ((rd_T39 l1 x10_1).f1)) < (wrap64 ((rd t366 ((rd_T39 l1 x10_1).f0)) + ((rd_T39 l1 x10_1).f2)))) = false := decide_eq_false c22
            clear c22
            have H' := Aside0.mk H
            clear H
            have p375 : 0 ≤ (x10_1 : Int) := of_decide_eq_true (by first | (with_reducible assumption) | assumption)
            have q375 : x10_1 < (l1.length : Int) := of_decide_eq_true (by first | (with_reducible assumption) | assumption)
            obtain ⟨ad375, e375, hx375_0, hx375_1, hx375_2, hx375_3⟩ := at_T39 HR1.out x10_1 p375 q375
            cases e375
            replace hx375_0 := (HB.out.cell (World.block_lt_of_cell? w _ hx375_0)).trans hx375_0
            replace hx375_1 := (HB.out.cell (World.block_lt_of_cell? w _ hx375_1)).trans hx375_1
            replace hx375_2 := (HB.out.cell (World.block_lt_of_cell? w _ hx375_2)).trans hx375_2
            replace hx375_3 := (HB.out.cell (World.block_lt_of_cell? w _ hx375_3)).trans hx375_3
            replace p375 := eq_true p375
            replace q375 := eq_true q375
            go_wp2_with (first | ((with_reducible refine gate_dst (N := 11) rfl ?_); refine box_event ?hg (N := 11) ?hd (cs := #[.int .i64 0, .int .i64 0, .int .i64 0, .int .i64 0]) (t := 39) ?hr ?_; (case hd => rfl); (case hg => rfl); (case hr => first | (go_simp; done) | (go_simp; rfl)); intro gb376 hg w29 hbox hb; have n0_ := Aside0.mk (Kd.R_below (by (with_reducible repeat (first | apply Kd.R_alloc | apply Kd.R_drewN | apply Kd.R_drew)); exact HO_7.out) hb); have n1_ := Aside0.mk (Kd.R_below (by (with_reducible repeat (first | apply Kd.R_alloc | apply Kd.R_drewN | apply Kd.R_drew)); exact HO_8.out) hb); have n2_ := Aside0.mk (Kd.R_below (by (with_reducible repeat (first | apply Kd.R_alloc | apply Kd.R_drewN | apply Kd.R_drew)); exact HO_9.out) hb); have n3_ := Aside0.mk (below_step (by repeat (first | (with_reducible first | exact HB.out | apply below_alloc | apply pw_below_drewN | apply below_drew1) | exact HB.out)) hb); have n4_ := Aside0.mk (hbox); have n5_ := Aside0.mk ((by rw [hg]; exact (below_size (by repeat (first | (with_reducible first | exact HB.out | apply below_alloc | apply pw_below_drewN | apply below_drew1) | exact HB.out))) : w.heap.size ≤ gb376)); have n6_ := Aside0.mk ((by rw [hg]; exact (below_size (by repeat (first | (with_reducible first | exact HB.out | apply below_alloc | apply pw_below_drewN | apply below_drew1) | exact HB.out))) : w.heap.size ≤ gb376)); clear HO_7; clear HO_8; clear HO_9; clear HB; have HO_7 := n0_; have HO_8 := n1_; have HO_9 := n2_; have HB := n3_; have BK376 := n4_; have GW376 := n5_; have GE376 := n6_; clear n0_ n1_ n2_ n3_ n4_ n5_ n6_; clear hb hbox hg; have hcz30_0 : w29.cell? ⟨gb376, 0, none⟩ = some (.int .i64 0) := (blk_cell BK376.out 0).trans rfl; have hcz30_1 : w29.cell? ⟨gb376, 1, none⟩ = some (.int .i64 0) := (blk_cell BK376.out 1).trans rfl; have hcz30_2 : w29.cell? ⟨gb376, 2, none⟩ = some (.int .i64 0) := (blk_cell BK376.out 2).trans rfl; have hcz30_3 : w29.cell? ⟨gb376, 3, none⟩ = some (.int .i64 0) := (blk_cell BK376.out 3).trans rfl; have hfz30_0 := blk_frozen BK376.out 0; have hfz30_1 := blk_frozen BK376.out 1; have hfz30_2 := blk_frozen BK376.out 2; have hfz30_3 := blk_frozen BK376.out 3; obtain ⟨Ao31, co31, eo31⟩ := Kd.R_slice HO_7.out; subst eo31; have p377 : 0 ≤ (((rd_T39 l1 x10_1).f0) : Int) := of_decide_eq_true (by first | (with_reducible assumption) | assumption); have q377 : ((rd_T39 l1 x10_1).f0) < (t366.length : Int) := of_decide_eq_true (by first | (with_reducible assumption) | assumption); obtain ⟨ad377, e377, hx377_0⟩ := Kd.at_int (Kd.R_reads' HO_7.out).2.2 ((rd_T39 l1 x10_1).f0) p377 q377; cases e377; have hn377_0 : ad377.block ≠ gb376 := Kd.own_blk (Kd.R_ne HO_7.out BK376.out (by decide)); have hn377_1 : ad377.block ≠ gb376 := Kd.own_blk (Kd.R_ne HO_7.out BK376.out (by decide)); have hn377_2 : ad377.block ≠ gb376 := Kd.own_blk (Kd.R_ne HO_7.out BK376.out (by decide)); have hn377_3 : ad377.block ≠ gb376 := Kd.own_blk (Kd.R_ne HO_7.out BK376.out (by decide)); replace hx377_0 := (cell_far (p := ⟨gb376, 0, none⟩) (by first | (rw [add_block]; exact hn377_0) | (show (Addr.add _ _).block ≠ _; rw [add_block]; exact hn377_0) | exact hn377_0) (.int .i64 ((rd_T39 l1 x10_1).f0))).trans hx377_0; replace hx377_0 := (cell_far (p := ⟨gb376, 1, none⟩) (by first | (rw [add_block]; exact hn377_1) | (show (Addr.add _ _).block ≠ _; rw [add_block]; exact hn377_1) | exact hn377_1) (.int .i64 ((rd_T39 l1 x10_1).f1))).trans hx377_0; replace hx377_0 := (cell_far (p := ⟨gb376, 2, none⟩) (by first | (rw [add_block]; exact hn377_2) | (show (Addr.add _ _).block ≠ _; rw [add_block]; exact hn377_2) | exact hn377_2) (.int .i64 ((rd_T39 l1 x10_1).f2))).trans hx377_0; replace hx377_0 := (cell_far (p := ⟨gb376, 3, none⟩) (by first | (rw [add_block]; exact hn377_3) | (show (Addr.add _ _).block ≠ _; rw [add_block]; exact hn377_3) | exact hn377_3) (.int .i64 ((rd_T39 l1 x10_1).f3))).trans hx377_0; (try have hy377_0 := fun (n_ : Nat) => (show ((((((w29.drewN n_).setCell ⟨gb376, 0, none⟩ (.int .i64 ((rd_T39 l1 x10_1).f0))).setCell ⟨gb376, 1, none⟩ (.int .i64 ((rd_T39 l1 x10_1).f1))).setCell ⟨gb376, 2, none⟩ (.int .i64 ((rd_T39 l1 x10_1).f2))).setCell ⟨gb376, 3, none⟩ (.int .i64 ((rd_T39 l1 x10_1).f3)))).cell? _ = some _ from hx377_0)); clear hn377_0; clear hn377_1; clear hn377_2; clear hn377_3; replace p377 := eq_true p377; replace q377 := eq_true q377; have p381 : 0 ≤ (((rd_T39 l1 x10_1).f0) : Int) := of_decide_eq_true (by first | (with_reducible assumption) | assumption); have q381 : ((rd_T39 l1 x10_1).f0) < (t366.length : Int) := of_decide_eq_true (by first | (with_reducible assumption) | assumption); obtain ⟨ad381, e381, hx381_0⟩ := Kd.at_int (Kd.R_reads' HO_7.out).2.2 ((rd_T39 l1 x10_1).f0) p381 q381; obtain rfl : ad377 = ad381 := (by injection e381); have hn381_0 : ad377.block ≠ gb376 := Kd.own_blk (Kd.R_ne HO_7.out BK376.out (by decide)); have hn381_1 : ad377.block ≠ gb376 := Kd.own_blk (Kd.R_ne HO_7.out BK376.out (by decide)); have hn381_2 : ad377.block ≠ gb376 := Kd.own_blk (Kd.R_ne HO_7.out BK376.out (by decide)); have hn381_3 : ad377.block ≠ gb376 := Kd.own_blk (Kd.R_ne HO_7.out BK376.out (by decide)); replace hx381_0 := (cell_far (p := ⟨gb376, 0, none⟩) (by first | (rw [add_block]; exact hn381_0) | (show (Addr.add _ _).block ≠ _; rw [add_block]; exact hn381_0) | exact hn381_0) (.int .i64 ((rd_T39 l1 x10_1).f0))).trans hx381_0; replace hx381_0 := (cell_far (p := ⟨gb376, 1, none⟩) (by first | (rw [add_block]; exact hn381_1) | (show (Addr.add _ _).block ≠ _; rw [add_block]; exact hn381_1) | exact hn381_1) (.int .i64 ((rd_T39 l1 x10_1).f1))).trans hx381_0; replace hx381_0 := (cell_far (p := ⟨gb376, 2, none⟩) (by first | (rw [add_block]; exact hn381_2) | (show (Addr.add _ _).block ≠ _; rw [add_block]; exact hn381_2) | exact hn381_2) (.int .i64 ((rd_T39 l1 x10_1).f2))).trans hx381_0; replace hx381_0 := (cell_far (p := ⟨gb376, 3, none⟩) (by first | (rw [add_block]; exact hn381_3) | (show (Addr.add _ _).block ≠ _; rw [add_block]; exact hn381_3) | exact hn381_3) (.int .i64 ((rd_T39 l1 x10_1).f3))).trans hx381_0; (try have hy381_0 := fun (n_ : Nat) => (show ((((((w29.drewN n_).setCell ⟨gb376, 0, none⟩ (.int .i64 ((rd_T39 l1 x10_1).f0))).setCell ⟨gb376, 1, none⟩ (.int .i64 ((rd_T39 l1 x10_1).f1))).setCell ⟨gb376, 2, none⟩ (.int .i64 ((rd_T39 l1 x10_1).f2))).setCell ⟨gb376, 3, none⟩ (.int .i64 ((rd_T39 l1 x10_1).f3)))).cell? _ = some _ from hx381_0)); clear hn381_0; clear hn381_1; clear hn381_2; clear hn381_3; replace p381 := eq_true p381; replace q381 := eq_true q381; obtain ⟨Ao32, co32, eo32⟩ := Kd.R_slice HO_8.out; subst eo32; have p382 : 0 ≤ (((rd_T39 l1 x10_1).f1) : Int) := of_decide_eq_true (by first | (with_reducible assumption) | assumption); have q382 : ((rd_T39 l1 x10_1).f1) < (t367.length : Int) := of_decide_eq_true (by first | (with_reducible assumption) | assumption); obtain ⟨ad382, e382, hx382_0⟩ := Kd.at_int (Kd.R_reads' HO_8.out).2.2 ((rd_T39 l1 x10_1).f1) p382 q382; cases e382; have hn382_0 : ad382.block ≠ gb376 := Kd.own_blk (Kd.R_ne HO_8.out BK376.out (by decide)); have hn382_1 : ad382.block ≠ gb376 := Kd.own_blk (Kd.R_ne HO_8.out BK376.out (by decide)); have hn382_2 : ad382.block ≠ gb376 := Kd.own_blk (Kd.R_ne HO_8.out BK376.out (by decide)); have hn382_3 : ad382.block ≠ gb376 := Kd.own_blk (Kd.R_ne HO_8.out BK376.out (by decide)); replace hx382_0 := (cell_far (p := ⟨gb376, 0, none⟩) (by first | (rw [add_block]; exact hn382_0) | (show (Addr.add _ _).block ≠ _; rw [add_block]; exact hn382_0) | exact hn382_0) (.int .i64 ((rd_T39 l1 x10_1).f0))).trans hx382_0; replace hx382_0 := (cell_far (p := ⟨gb376, 1, none⟩) (by first | (rw [add_block]; exact hn382_1) | (show (Addr.add _ _).block ≠ _; rw [add_block]; exact hn382_1) | exact hn382_1) (.int .i64 ((rd_T39 l1 x10_1).f1))).trans hx382_0; replace hx382_0 := (cell_far (p := ⟨gb376, 2, none⟩) (by first | (rw [add_block]; exact hn382_2) | (show (Addr.add _ _).block ≠ _; rw [add_block]; exact hn382_2) | exact hn382_2) (.int .i64 ((rd_T39 l1 x10_1).f2))).trans hx382_0; replace hx382_0 := (cell_far (p := ⟨gb376, 3, none⟩) (by first | (rw [add_block]; exact hn382_3) | (show (Addr.add _ _).block ≠ _; rw [add_block]; exact hn382_3) | exact hn382_3) (.int .i64 ((rd_T39 l1 x10_1).f3))).trans hx382_0; (try have hy382_0 := fun (n_ : Nat) => (show ((((((w29.drewN n_).setCell ⟨gb376, 0, none⟩ (.int .i64 ((rd_T39 l1 x10_1).f0))).setCell ⟨gb376, 1, none⟩ (.int .i64 ((rd_T39 l1 x10_1).f1))).setCell ⟨gb376, 2, none⟩ (.int .i64 ((rd_T39 l1 x10_1).f2))).setCell ⟨gb376, 3, none⟩ (.int .i64 ((rd_T39 l1 x10_1).f3)))).cell? _ = some _ from hx382_0)); clear hn382_0; clear hn382_1; clear hn382_2; clear hn382_3; replace p382 := eq_true p382; replace q382 := eq_true q382))
            repeat (go_quiet (first | ((with_reducible refine gate_dst (N := 11) rfl ?_); refine box_event ?hg (N := 11) ?hd (cs := #[.int .i64 0, .int .i64 0, .int .i64 0, .int .i64 0]) (t := 39) ?hr ?_; (case hd => rfl); (case hg => rfl); (case hr => first | (go_simp; done) | (go_simp; rfl)); intro gb376 hg w29 hbox hb; have n0_ := Aside0.mk (Kd.R_below (by (with_reducible repeat (first | apply Kd.R_alloc | apply Kd.R_drewN | apply Kd.R_drew)); exact HO_7.out) hb); have n1_ := Aside0.mk (Kd.R_below (by (with_reducible repeat (first | apply Kd.R_alloc | apply Kd.R_drewN | apply Kd.R_drew)); exact HO_8.out) hb); have n2_ := Aside0.mk (Kd.R_below (by (with_reducible repeat (first | apply Kd.R_alloc | apply Kd.R_drewN | apply Kd.R_drew)); exact HO_9.out) hb); have n3_ := Aside0.mk (below_step (by repeat (first | (with_reducible first | exact HB.out | apply below_alloc | apply pw_below_drewN | apply below_drew1) | exact HB.out)) hb); have n4_ := Aside0.mk (hbox); have n5_ := Aside0.mk ((by rw [hg]; exact (below_size (by repeat (first | (with_reducible first | exact HB.out | apply below_alloc | apply pw_below_drewN | apply below_drew1) | exact HB.out))) : w.heap.size ≤ gb376)); have n6_ := Aside0.mk ((by rw [hg]; exact (below_size (by repeat (first | (with_reducible first | exact HB.out | apply below_alloc | apply pw_below_drewN | apply below_drew1) | exact HB.out))) : w.heap.size ≤ gb376)); clear HO_7; clear HO_8; clear HO_9; clear HB; have HO_7 := n0_; have HO_8 := n1_; have HO_9 := n2_; have HB := n3_; have BK376 := n4_; have GW376 := n5_; have GE376 := n6_; clear n0_ n1_ n2_ n3_ n4_ n5_ n6_; clear hb hbox hg; have hcz30_0 : w29.cell? ⟨gb376, 0, none⟩ = some (.int .i64 0) := (blk_cell BK376.out 0).trans rfl; have hcz30_1 : w29.cell? ⟨gb376, 1, none⟩ = some (.int .i64 0) := (blk_cell BK376.out 1).trans rfl; have hcz30_2 : w29.cell? ⟨gb376, 2, none⟩ = some (.int .i64 0) := (blk_cell BK376.out 2).trans rfl; have hcz30_3 : w29.cell? ⟨gb376, 3, none⟩ = some (.int .i64 0) := (blk_cell BK376.out 3).trans rfl; have hfz30_0 := blk_frozen BK376.out 0; have hfz30_1 := blk_frozen BK376.out 1; have hfz30_2 := blk_frozen BK376.out 2; have hfz30_3 := blk_frozen BK376.out 3; obtain ⟨Ao31, co31, eo31⟩ := Kd.R_slice HO_7.out; subst eo31; have p377 : 0 ≤ (((rd_T39 l1 x10_1).f0) : Int) := of_decide_eq_true (by first | (with_reducible assumption) | assumption); have q377 : ((rd_T39 l1 x10_1).f0) < (t366.length : Int) := of_decide_eq_true (by first | (with_reducible assumption) | assumption); obtain ⟨ad377, e377, hx377_0⟩ := Kd.at_int (Kd.R_reads' HO_7.out).2.2 ((rd_T39 l1 x10_1).f0) p377 q377; cases e377; have hn377_0 : ad377.block ≠ gb376 := Kd.own_blk (Kd.R_ne HO_7.out BK376.out (by decide)); have hn377_1 : ad377.block ≠ gb376 := Kd.own_blk (Kd.R_ne HO_7.out BK376.out (by decide)); have hn377_2 : ad377.block ≠ gb376 := Kd.own_blk (Kd.R_ne HO_7.out BK376.out (by decide)); have hn377_3 : ad377.block ≠ gb376 := Kd.own_blk (Kd.R_ne HO_7.out BK376.out (by decide)); replace hx377_0 := (cell_far (p := ⟨gb376, 0, none⟩) (by first | (rw [add_block]; exact hn377_0) | (show (Addr.add _ _).block ≠ _; rw [add_block]; exact hn377_0) | exact hn377_0) (.int .i64 ((rd_T39 l1 x10_1).f0))).trans hx377_0; replace hx377_0 := (cell_far (p := ⟨gb376, 1, none⟩) (by first | (rw [add_block]; exact hn377_1) | (show (Addr.add _ _).block ≠ _; rw [add_block]; exact hn377_1) | exact hn377_1) (.int .i64 ((rd_T39 l1 x10_1).f1))).trans hx377_0; replace hx377_0 := (cell_far (p := ⟨gb376, 2, none⟩) (by first | (rw [add_block]; exact hn377_2) | (show (Addr.add _ _).block ≠ _; rw [add_block]; exact hn377_2) | exact hn377_2) (.int .i64 ((rd_T39 l1 x10_1).f2))).trans hx377_0; replace hx377_0 := (cell_far (p := ⟨gb376, 3, none⟩) (by first | (rw [add_block]; exact hn377_3) | (show (Addr.add _ _).block ≠ _; rw [add_block]; exact hn377_3) | exact hn377_3) (.int .i64 ((rd_T39 l1 x10_1).f3))).trans hx377_0; (try have hy377_0 := fun (n_ : Nat) => (show ((((((w29.drewN n_).setCell ⟨gb376, 0, none⟩ (.int .i64 ((rd_T39 l1 x10_1).f0))).setCell ⟨gb376, 1, none⟩ (.int .i64 ((rd_T39 l1 x10_1).f1))).setCell ⟨gb376, 2, none⟩ (.int .i64 ((rd_T39 l1 x10_1).f2))).setCell ⟨gb376, 3, none⟩ (.int .i64 ((rd_T39 l1 x10_1).f3)))).cell? _ = some _ from hx377_0)); clear hn377_0; clear hn377_1; clear hn377_2; clear hn377_3; replace p377 := eq_true p377; replace q377 := eq_true q377; have p381 : 0 ≤ (((rd_T39 l1 x10_1).f0) : Int) := of_decide_eq_true (by first | (with_reducible assumption) | assumption); have q381 : ((rd_T39 l1 x10_1).f0) < (t366.length : Int) := of_decide_eq_true (by first | (with_reducible assumption) | assumption); obtain ⟨ad381, e381, hx381_0⟩ := Kd.at_int (Kd.R_reads' HO_7.out).2.2 ((rd_T39 l1 x10_1).f0) p381 q381; obtain rfl : ad377 = ad381 := (by injection e381); have hn381_0 : ad377.block ≠ gb376 := Kd.own_blk (Kd.R_ne HO_7.out BK376.out (by decide)); have hn381_1 : ad377.block ≠ gb376 := Kd.own_blk (Kd.R_ne HO_7.out BK376.out (by decide)); have hn381_2 : ad377.block ≠ gb376 := Kd.own_blk (Kd.R_ne HO_7.out BK376.out (by decide)); have hn381_3 : ad377.block ≠ gb376 := Kd.own_blk (Kd.R_ne HO_7.out BK376.out (by decide)); replace hx381_0 := (cell_far (p := ⟨gb376, 0, none⟩) (by first | (rw [add_block]; exact hn381_0) | (show (Addr.add _ _).block ≠ _; rw [add_block]; exact hn381_0) | exact hn381_0) (.int .i64 ((rd_T39 l1 x10_1).f0))).trans hx381_0; replace hx381_0 := (cell_far (p := ⟨gb376, 1, none⟩) (by first | (rw [add_block]; exact hn381_1) | (show (Addr.add _ _).block ≠ _; rw [add_block]; exact hn381_1) | exact hn381_1) (.int .i64 ((rd_T39 l1 x10_1).f1))).trans hx381_0; replace hx381_0 := (cell_far (p := ⟨gb376, 2, none⟩) (by first | (rw [add_block]; exact hn381_2) | (show (Addr.add _ _).block ≠ _; rw [add_block]; exact hn381_2) | exact hn381_2) (.int .i64 ((rd_T39 l1 x10_1).f2))).trans hx381_0; replace hx381_0 := (cell_far (p := ⟨gb376, 3, none⟩) (by first | (rw [add_block]; exact hn381_3) | (show (Addr.add _ _).block ≠ _; rw [add_block]; exact hn381_3) | exact hn381_3) (.int .i64 ((rd_T39 l1 x10_1).f3))).trans hx381_0; (try have hy381_0 := fun (n_ : Nat) => (show ((((((w29.drewN n_).setCell ⟨gb376, 0, none⟩ (.int .i64 ((rd_T39 l1 x10_1).f0))).setCell ⟨gb376, 1, none⟩ (.int .i64 ((rd_T39 l1 x10_1).f1))).setCell ⟨gb376, 2, none⟩ (.int .i64 ((rd_T39 l1 x10_1).f2))).setCell ⟨gb376, 3, none⟩ (.int .i64 ((rd_T39 l1 x10_1).f3)))).cell? _ = some _ from hx381_0)); clear hn381_0; clear hn381_1; clear hn381_2; clear hn381_3; replace p381 := eq_true p381; replace q381 := eq_true q381; obtain ⟨Ao32, co32, eo32⟩ := Kd.R_slice HO_8.out; subst eo32; have p382 : 0 ≤ (((rd_T39 l1 x10_1).f1) : Int) := of_decide_eq_true (by first | (with_reducible assumption) | assumption); have q382 : ((rd_T39 l1 x10_1).f1) < (t367.length : Int) := of_decide_eq_true (by first | (with_reducible assumption) | assumption); obtain ⟨ad382, e382, hx382_0⟩ := Kd.at_int (Kd.R_reads' HO_8.out).2.2 ((rd_T39 l1 x10_1).f1) p382 q382; cases e382; have hn382_0 : ad382.block ≠ gb376 := Kd.own_blk (Kd.R_ne HO_8.out BK376.out (by decide)); have hn382_1 : ad382.block ≠ gb376 := Kd.own_blk (Kd.R_ne HO_8.out BK376.out (by decide)); have hn382_2 : ad382.block ≠ gb376 := Kd.own_blk (Kd.R_ne HO_8.out BK376.out (by decide)); have hn382_3 : ad382.block ≠ gb376 := Kd.own_blk (Kd.R_ne HO_8.out BK376.out (by decide)); replace hx382_0 := (cell_far (p := ⟨gb376, 0, none⟩) (by first | (rw [add_block]; exact hn382_0) | (show (Addr.add _ _).block ≠ _; rw [add_block]; exact hn382_0) | exact hn382_0) (.int .i64 ((rd_T39 l1 x10_1).f0))).trans hx382_0; replace hx382_0 := (cell_far (p := ⟨gb376, 1, none⟩) (by first | (rw [add_block]; exact hn382_1) | (show (Addr.add _ _).block ≠ _; rw [add_block]; exact hn382_1) | exact hn382_1) (.int .i64 ((rd_T39 l1 x10_1).f1))).trans hx382_0; replace hx382_0 := (cell_far (p := ⟨gb376, 2, none⟩) (by first | (rw [add_block]; exact hn382_2) | (show (Addr.add _ _).block ≠ _; rw [add_block]; exact hn382_2) | exact hn382_2) (.int .i64 ((rd_T39 l1 x10_1).f2))).trans hx382_0; replace hx382_0 := (cell_far (p := ⟨gb376, 3, none⟩) (by first | (rw [add_block]; exact hn382_3) | (show (Addr.add _ _).block ≠ _; rw [add_block]; exact hn382_3) | exact hn382_3) (.int .i64 ((rd_T39 l1 x10_1).f3))).trans hx382_0; (try have hy382_0 := fun (n_ : Nat) => (show ((((((w29.drewN n_).setCell ⟨gb376, 0, none⟩ (.int .i64 ((rd_T39 l1 x10_1).f0))).setCell ⟨gb376, 1, none⟩ (.int .i64 ((rd_T39 l1 x10_1).f1))).setCell ⟨gb376, 2, none⟩ (.int .i64 ((rd_T39 l1 x10_1).f2))).setCell ⟨gb376, 3, none⟩ (.int .i64 ((rd_T39 l1 x10_1).f3)))).cell? _ = some _ from hx382_0)); clear hn382_0; clear hn382_1; clear hn382_2; clear hn382_3; replace p382 := eq_true p382; replace q382 := eq_true q382)); try go_wp2_with (first | ((with_reducible refine gate_dst (N := 11) rfl ?_); refine box_event ?hg (N := 11) ?hd (cs := #[.int .i64 0, .int .i64 0, .int .i64 0, .int .i64 0]) (t := 39) ?hr ?_; (case hd => rfl); (case hg => rfl); (case hr => first | (go_simp; done) | (go_simp; rfl)); intro gb376 hg w29 hbox hb; have n0_ := Aside0.mk (Kd.R_below (by (with_reducible repeat (first | apply Kd.R_alloc | apply Kd.R_drewN | apply Kd.R_drew)); exact HO_7.out) hb); have n1_ := Aside0.mk (Kd.R_below (by (with_reducible repeat (first | apply Kd.R_alloc | apply Kd.R_drewN | apply Kd.R_drew)); exact HO_8.out) hb); have n2_ := Aside0.mk (Kd.R_below (by (with_reducible repeat (first | apply Kd.R_alloc | apply Kd.R_drewN | apply Kd.R_drew)); exact HO_9.out) hb); have n3_ := Aside0.mk (below_step (by repeat (first | (with_reducible first | exact HB.out | apply below_alloc | apply pw_below_drewN | apply below_drew1) | exact HB.out)) hb); have n4_ := Aside0.mk (hbox); have n5_ := Aside0.mk ((by rw [hg]; exact (below_size (by repeat (first | (with_reducible first | exact HB.out | apply below_alloc | apply pw_below_drewN | apply below_drew1) | exact HB.out))) : w.heap.size ≤ gb376)); have n6_ := Aside0.mk ((by rw [hg]; exact (below_size (by repeat (first | (with_reducible first | exact HB.out | apply below_alloc | apply pw_below_drewN | apply below_drew1) | exact HB.out))) : w.heap.size ≤ gb376)); clear HO_7; clear HO_8; clear HO_9; clear HB; have HO_7 := n0_; have HO_8 := n1_; have HO_9 := n2_; have HB := n3_; have BK376 := n4_; have GW376 := n5_; have GE376 := n6_; clear n0_ n1_ n2_ n3_ n4_ n5_ n6_; clear hb hbox hg; have hcz30_0 : w29.cell? ⟨gb376, 0, none⟩ = some (.int .i64 0) := (blk_cell BK376.out 0).trans rfl; have hcz30_1 : w29.cell? ⟨gb376, 1, none⟩ = some (.int .i64 0) := (blk_cell BK376.out 1).trans rfl; have hcz30_2 : w29.cell? ⟨gb376, 2, none⟩ = some (.int .i64 0) := (blk_cell BK376.out 2).trans rfl; have hcz30_3 : w29.cell? ⟨gb376, 3, none⟩ = some (.int .i64 0) := (blk_cell BK376.out 3).trans rfl; have hfz30_0 := blk_frozen BK376.out 0; have hfz30_1 := blk_frozen BK376.out 1; have hfz30_2 := blk_frozen BK376.out 2; have hfz30_3 := blk_frozen BK376.out 3; obtain ⟨Ao31, co31, eo31⟩ := Kd.R_slice HO_7.out; subst eo31; have p377 : 0 ≤ (((rd_T39 l1 x10_1).f0) : Int) := of_decide_eq_true (by first | (with_reducible assumption) | assumption); have q377 : ((rd_T39 l1 x10_1).f0) < (t366.length : Int) := of_decide_eq_true (by first | (with_reducible assumption) | assumption); obtain ⟨ad377, e377, hx377_0⟩ := Kd.at_int (Kd.R_reads' HO_7.out).2.2 ((rd_T39 l1 x10_1).f0) p377 q377; cases e377; have hn377_0 : ad377.block ≠ gb376 := Kd.own_blk (Kd.R_ne HO_7.out BK376.out (by decide)); have hn377_1 : ad377.block ≠ gb376 := Kd.own_blk (Kd.R_ne HO_7.out BK376.out (by decide)); have hn377_2 : ad377.block ≠ gb376 := Kd.own_blk (Kd.R_ne HO_7.out BK376.out (by decide)); have hn377_3 : ad377.block ≠ gb376 := Kd.own_blk (Kd.R_ne HO_7.out BK376.out (by decide)); replace hx377_0 := (cell_far (p := ⟨gb376, 0, none⟩) (by first | (rw [add_block]; exact hn377_0) | (show (Addr.add _ _).block ≠ _; rw [add_block]; exact hn377_0) | exact hn377_0) (.int .i64 ((rd_T39 l1 x10_1).f0))).trans hx377_0; replace hx377_0 := (cell_far (p := ⟨gb376, 1, none⟩) (by first | (rw [add_block]; exact hn377_1) | (show (Addr.add _ _).block ≠ _; rw [add_block]; exact hn377_1) | exact hn377_1) (.int .i64 ((rd_T39 l1 x10_1).f1))).trans hx377_0; replace hx377_0 := (cell_far (p := ⟨gb376, 2, none⟩) (by first | (rw [add_block]; exact hn377_2) | (show (Addr.add _ _).block ≠ _; rw [add_block]; exact hn377_2) | exact hn377_2) (.int .i64 ((rd_T39 l1 x10_1).f2))).trans hx377_0; replace hx377_0 := (cell_far (p := ⟨gb376, 3, none⟩) (by first | (rw [add_block]; exact hn377_3) | (show (Addr.add _ _).block ≠ _; rw [add_block]; exact hn377_3) | exact hn377_3) (.int .i64 ((rd_T39 l1 x10_1).f3))).trans hx377_0; (try have hy377_0 := fun (n_ : Nat) => (show ((((((w29.drewN n_).setCell ⟨gb376, 0, none⟩ (.int .i64 ((rd_T39 l1 x10_1).f0))).setCell ⟨gb376, 1, none⟩ (.int .i64 ((rd_T39 l1 x10_1).f1))).setCell ⟨gb376, 2, none⟩ (.int .i64 ((rd_T39 l1 x10_1).f2))).setCell ⟨gb376, 3, none⟩ (.int .i64 ((rd_T39 l1 x10_1).f3)))).cell? _ = some _ from hx377_0)); clear hn377_0; clear hn377_1; clear hn377_2; clear hn377_3; replace p377 := eq_true p377; replace q377 := eq_true q377; have p381 : 0 ≤ (((rd_T39 l1 x10_1).f0) : Int) := of_decide_eq_true (by first | (with_reducible assumption) | assumption); have q381 : ((rd_T39 l1 x10_1).f0) < (t366.length : Int) := of_decide_eq_true (by first | (with_reducible assumption) | assumption); obtain ⟨ad381, e381, hx381_0⟩ := Kd.at_int (Kd.R_reads' HO_7.out).2.2 ((rd_T39 l1 x10_1).f0) p381 q381; obtain rfl : ad377 = ad381 := (by injection e381); have hn381_0 : ad377.block ≠ gb376 := Kd.own_blk (Kd.R_ne HO_7.out BK376.out (by decide)); have hn381_1 : ad377.block ≠ gb376 := Kd.own_blk (Kd.R_ne HO_7.out BK376.out (by decide)); have hn381_2 : ad377.block ≠ gb376 := Kd.own_blk (Kd.R_ne HO_7.out BK376.out (by decide)); have hn381_3 : ad377.block ≠ gb376 := Kd.own_blk (Kd.R_ne HO_7.out BK376.out (by decide)); replace hx381_0 := (cell_far (p := ⟨gb376, 0, none⟩) (by first | (rw [add_block]; exact hn381_0) | (show (Addr.add _ _).block ≠ _; rw [add_block]; exact hn381_0) | exact hn381_0) (.int .i64 ((rd_T39 l1 x10_1).f0))).trans hx381_0; replace hx381_0 := (cell_far (p := ⟨gb376, 1, none⟩) (by first | (rw [add_block]; exact hn381_1) | (show (Addr.add _ _).block ≠ _; rw [add_block]; exact hn381_1) | exact hn381_1) (.int .i64 ((rd_T39 l1 x10_1).f1))).trans hx381_0; replace hx381_0 := (cell_far (p := ⟨gb376, 2, none⟩) (by first | (rw [add_block]; exact hn381_2) | (show (Addr.add _ _).block ≠ _; rw [add_block]; exact hn381_2) | exact hn381_2) (.int .i64 ((rd_T39 l1 x10_1).f2))).trans hx381_0; replace hx381_0 := (cell_far (p := ⟨gb376, 3, none⟩) (by first | (rw [add_block]; exact hn381_3) | (show (Addr.add _ _).block ≠ _; rw [add_block]; exact hn381_3) | exact hn381_3) (.int .i64 ((rd_T39 l1 x10_1).f3))).trans hx381_0; (try have hy381_0 := fun (n_ : Nat) => (show ((((((w29.drewN n_).setCell ⟨gb376, 0, none⟩ (.int .i64 ((rd_T39 l1 x10_1).f0))).setCell ⟨gb376, 1, none⟩ (.int .i64 ((rd_T39 l1 x10_1).f1))).setCell ⟨gb376, 2, none⟩ (.int .i64 ((rd_T39 l1 x10_1).f2))).setCell ⟨gb376, 3, none⟩ (.int .i64 ((rd_T39 l1 x10_1).f3)))).cell? _ = some _ from hx381_0)); clear hn381_0; clear hn381_1; clear hn381_2; clear hn381_3; replace p381 := eq_true p381; replace q381 := eq_true q381; obtain ⟨Ao32, co32, eo32⟩ := Kd.R_slice HO_8.out; subst eo32; have p382 : 0 ≤ (((rd_T39 l1 x10_1).f1) : Int) := of_decide_eq_true (by first | (with_reducible assumption) | assumption); have q382 : ((rd_T39 l1 x10_1).f1) < (t367.length : Int) := of_decide_eq_true (by first | (with_reducible assumption) | assumption); obtain ⟨ad382, e382, hx382_0⟩ := Kd.at_int (Kd.R_reads' HO_8.out).2.2 ((rd_T39 l1 x10_1).f1) p382 q382; cases e382; have hn382_0 : ad382.block ≠ gb376 := Kd.own_blk (Kd.R_ne HO_8.out BK376.out (by decide)); have hn382_1 : ad382.block ≠ gb376 := Kd.own_blk (Kd.R_ne HO_8.out BK376.out (by decide)); have hn382_2 : ad382.block ≠ gb376 := Kd.own_blk (Kd.R_ne HO_8.out BK376.out (by decide)); have hn382_3 : ad382.block ≠ gb376 := Kd.own_blk (Kd.R_ne HO_8.out BK376.out (by decide)); replace hx382_0 := (cell_far (p := ⟨gb376, 0, none⟩) (by first | (rw [add_block]; exact hn382_0) | (show (Addr.add _ _).block ≠ _; rw [add_block]; exact hn382_0) | exact hn382_0) (.int .i64 ((rd_T39 l1 x10_1).f0))).trans hx382_0; replace hx382_0 := (cell_far (p := ⟨gb376, 1, none⟩) (by first | (rw [add_block]; exact hn382_1) | (show (Addr.add _ _).block ≠ _; rw [add_block]; exact hn382_1) | exact hn382_1) (.int .i64 ((rd_T39 l1 x10_1).f1))).trans hx382_0; replace hx382_0 := (cell_far (p := ⟨gb376, 2, none⟩) (by first | (rw [add_block]; exact hn382_2) | (show (Addr.add _ _).block ≠ _; rw [add_block]; exact hn382_2) | exact hn382_2) (.int .i64 ((rd_T39 l1 x10_1).f2))).trans hx382_0; replace hx382_0 := (cell_far (p := ⟨gb376, 3, none⟩) (by first | (rw [add_block]; exact hn382_3) | (show (Addr.add _ _).block ≠ _; rw [add_block]; exact hn382_3) | exact hn382_3) (.int .i64 ((rd_T39 l1 x10_1).f3))).trans hx382_0; (try have hy382_0 := fun (n_ : Nat) => (show ((((((w29.drewN n_).setCell ⟨gb376, 0, none⟩ (.int .i64 ((rd_T39 l1 x10_1).f0))).setCell ⟨gb376, 1, none⟩ (.int .i64 ((rd_T39 l1 x10_1).f1))).setCell ⟨gb376, 2, none⟩ (.int .i64 ((rd_T39 l1 x10_1).f2))).setCell ⟨gb376, 3, none⟩ (.int .i64 ((rd_T39 l1 x10_1).f3)))).cell? _ = some _ from hx382_0)); clear hn382_0; clear hn382_1; clear hn382_2; clear hn382_3; replace p382 := eq_true p382; replace q382 := eq_true q382)))
            go_roundg k1
            case measure => have := HK1.out; omega
            case rel => exact ⟨(x9_1), (wrap64 (x10_1 + 1)), (by first | rfl | (simp; done) | (simp [*]; done)), H', ⟨by have := HK1.out; omega⟩, ⟨by (with_reducible repeat (first | apply Kd.R_alloc | apply Kd.R_drewN | apply Kd.R_drew)); exact Kd.R_mono (Kd.R_far (p := ⟨gb376, 3, none⟩) (Kd.R_far (p := ⟨gb376, 2, none⟩) (Kd.R_far (p := ⟨gb376, 1, none⟩) (Kd.R_far (p := ⟨gb376, 0, none⟩) (Kd.R_types HO_7.out BK376.out (by decide)) (fun _ hk => hk.2) (.int .i64 ((rd_T39 l1 x10_1).f0))) (fun _ hk => hk.2) (.int .i64 ((rd_T39 l1 x10_1).f1))) (fun _ hk => hk.2) (.int .i64 ((rd_T39 l1 x10_1).f2))) (fun _ hk => hk.2) (.int .i64 ((rd_T39 l1 x10_1).f3))) (fun _ hk => ⟨hk.1.1, hk.1.2⟩)⟩, ⟨by (with_reducible repeat (first | apply Kd.R_alloc | apply Kd.R_drewN | apply Kd.R_drew)); exact Kd.R_mono (Kd.R_far (p := ⟨gb376, 3, none⟩) (Kd.R_far (p := ⟨gb376, 2, none⟩) (Kd.R_far (p := ⟨gb376, 1, none⟩) (Kd.R_far (p := ⟨gb376, 0, none⟩) (Kd.R_types HO_8.out BK376.out (by decide)) (fun _ hk => hk.2) (.int .i64 ((rd_T39 l1 x10_1).f0))) (fun _ hk => hk.2) (.int .i64 ((rd_T39 l1 x10_1).f1))) (fun _ hk => hk.2) (.int .i64 ((rd_T39 l1 x10_1).f2))) (fun _ hk => hk.2) (.int .i64 ((rd_T39 l1 x10_1).f3))) (fun _ hk => ⟨hk.1.1, hk.1.2⟩)⟩, ⟨by (with_reducible repeat (first | apply Kd.R_alloc | apply Kd.R_drewN | apply Kd.R_drew)); exact Kd.R_mono (Kd.R_far (p := ⟨gb376, 3, none⟩) (Kd.R_far (p := ⟨gb376, 2, none⟩) (Kd.R_far (p := ⟨gb376, 1, none⟩) (Kd.R_far (p := ⟨gb376, 0, none⟩) (Kd.R_types HO_9.out BK376.out (by decide)) (fun _ hk => hk.2) (.int .i64 ((rd_T39 l1 x10_1).f0))) (fun _ hk => hk.2) (.int .i64 ((rd_T39 l1 x10_1).f1))) (fun _ hk => hk.2) (.int .i64 ((rd_T39 l1 x10_1).f2))) (fun _ hk => hk.2) (.int .i64 ((rd_T39 l1 x10_1).f3))) (fun _ hk => ⟨hk.1.1, hk.1.2⟩)⟩, ⟨by repeat (first | (with_reducible first | exact HB.out | apply below_alloc | apply pw_below_drewN | apply below_drew1 | refine below_set ?_ GE376.out) | exact HB.out)⟩⟩
          ·rw [if_neg c21] at H
           exact absurd H (by simp)
         ·rw [if_neg c20] at H
          exact absurd H (by simp)
       ·rw [if_neg c13] at H
        exact absurd H (by simp)
      ·rw [if_neg c12] at H
       exact absurd H (by simp)
     ·rw [if_neg c11] at H
      exact absurd H (by simp)
    ·rw [if_neg c10] at H
     have c10b0 : decide (x10_1 < (l1.length : Int)) = false := decide_eq_false c10
     clear c10
     simp only [Option.some.injEq, Prod.mk.injEq] at H
     obtain ⟨rfl, rfl⟩ := H
     go_wp2
     repeat (go_quiet (fail); try go_wp2)
     go_ret2
     exact ⟨_, by first | rfl | (simp [errW_none, errW_some] <;> rfl) | (simp [*, errW_none, errW_some] <;> rfl), by (with_reducible repeat (first | apply Kd.R_alloc | apply Kd.R_drewN | apply Kd.R_drew)); exact Kd.R_mono HO_9.out (fun _ hk => trivial), by repeat (first | (with_reducible first | exact HB.out | apply below_alloc | apply pw_below_drewN | apply below_drew1) | exact HB.out)⟩
 ·rw [if_neg c4] at H
  have c4b0 : (t365 == 0) = false := beq_eq_false_iff_ne.mpr c4
  have c4b1 : (t365 != 0) = true := bne_iff_ne.mpr c4
  simp only [Option.some.injEq, Prod.mk.injEq] at H
  obtain ⟨rfl, rfl⟩ := H
  go_enter Try.func11, Try.ntmps11
  go_wp2_with (first | (go_at_call 37; (with_reducible refine (spec_l10Code.calls k a0 _ _ l1 0 t365 _ ?side1 ?side2 A3.out).mono ?_); (case side1 => repeat (first | exact HR1.out | (with_reducible refine Kd.C_alloc ?_ _) | (with_reducible refine Kd.C_drewN ?_ _) | (with_reducible refine Kd.C_drew ?_))); (case side2 => exact HC1.out); rintro e w33 ⟨rfl, hb⟩; have n0_ := Aside0.mk (below_step (by repeat (first | (with_reducible first | exact HB.out | apply below_alloc | apply pw_below_drewN | apply below_drew1) | exact HB.out)) hb); clear HB; have HB := n0_; clear n0_; (try clear hb); (try clear hb2); (try clear hk); (try clear hi)))
  repeat (go_quiet (first | (go_at_call 37; (with_reducible refine (spec_l10Code.calls k a0 _ _ l1 0 t365 _ ?side1 ?side2 A3.out).mono ?_); (case side1 => repeat (first | exact HR1.out | (with_reducible refine Kd.C_alloc ?_ _) | (with_reducible refine Kd.C_drewN ?_ _) | (with_reducible refine Kd.C_drew ?_))); (case side2 => exact HC1.out); rintro e w33 ⟨rfl, hb⟩; have n0_ := Aside0.mk (below_step (by repeat (first | (with_reducible first | exact HB.out | apply below_alloc | apply pw_below_drewN | apply below_drew1) | exact HB.out)) hb); clear HB; have HB := n0_; clear n0_; (try clear hb); (try clear hb2); (try clear hk); (try clear hi))); try go_wp2_with (first | (go_at_call 37; (with_reducible refine (spec_l10Code.calls k a0 _ _ l1 0 t365 _ ?side1 ?side2 A3.out).mono ?_); (case side1 => repeat (first | exact HR1.out | (with_reducible refine Kd.C_alloc ?_ _) | (with_reducible refine Kd.C_drewN ?_ _) | (with_reducible refine Kd.C_drew ?_))); (case side2 => exact HC1.out); rintro e w33 ⟨rfl, hb⟩; have n0_ := Aside0.mk (below_step (by repeat (first | (with_reducible first | exact HB.out | apply below_alloc | apply pw_below_drewN | apply below_drew1) | exact HB.out)) hb); clear HB; have HB := n0_; clear n0_; (try clear hb); (try clear hb2); (try clear hk); (try clear hi))))
  go_ret2
  exact ⟨_, by first | rfl | (simp [errW_none, errW_some] <;> rfl) | (simp [*, errW_none, errW_some] <;> rfl), by first | exact Kd.R_nil _ _ _ _ _ | exact Kd.N_nil _ _ _ _ _ | exact Kd.V_nil _ _ _ _ _ | exact Kd.Q_nil _ _ _ _ _ | exact Kd.S_nil _ _ _ _ _, by repeat (first | (with_reducible first | exact HB.out | apply below_alloc | apply pw_below_drewN | apply below_drew1) | exact HB.out)⟩
end Go.Proofs.Ytlnfjhahnacmiaa.F
namespace Go.Proofs.Ytlnfjhahnacmiaa.F
open Go.RowKit Go.Proofs.YtlnfjhahnacmiaaW.PrintWords Go.Proofs.YtlnfjhahnacmiaaW.PrintLast Go.Proofs.YtlnfjhahnacmiaaW.PrintMore
attribute [local go_sem] max2_int min2_int max_two min_two max_three min_three max_four min_four   -- for this text's walks alone
set_option linter.unusedVariables false
set_option linter.unusedSimpArgs false
def laws_likeInts.l0 : Nat → List Int → List Int → Int → Option (Bool)
 | 0, _, _, _ => none
 | k + 1, x0, x1, x5 => if x5 < (x0.length : Int) then (if 0 ≤ x5 then (if x5 < (x1.length : Int) then (if (rd x0 x5) = (rd x1 x5) then (laws_likeInts.l0 k x0 x1 (wrap64 (x5 + 1))) else (some false)) else (none)) else (none)) else (some true)
def laws_likeInts.f (k : Nat) (l0 : List Int) (l1 : List Int) : Option (Bool) := if (l0.length : Int) = (l1.length : Int) then (laws_likeInts.l0 k l0 l1 0) else (some false)
theorem laws_likeInts.mono_l : ∀ k, (∀ y0 y1 y2, LeO (laws_likeInts.l0 k y0 y1 y2) (laws_likeInts.l0 (k + 1) y0 y1 y2))
 | 0 => fun _ _ _ r h => by simp [laws_likeInts.l0] at h
 | k + 1 => by
  have ih0 := laws_likeInts.mono_l k
  ·intro y0 y1 y2
   unfold laws_likeInts.l0
   repeat' first
   | (with_reducible exact ih0 _ _ _)
   | (with_reducible exact LeO.refl _)
   | (with_reducible exact LeO.none _)
   | (with_reducible refine LeO.ite ?_ ?_)
   | (with_reducible refine LeO.bind ?_ (fun _ => ?_))
   | exact ih0 _ _ _
   | exact LeO.none _
   | refine LeO.ite ?_ ?_
   | refine LeO.bind ?_ (fun _ => ?_)
theorem laws_likeInts.mono : ∀ a0 a1 k, LeO (laws_likeInts.f k a0 a1) (laws_likeInts.f (k + 1) a0 a1) := by
 intro a0 a1 k
 have ih0 := laws_likeInts.mono_l k
 unfold laws_likeInts.f
 repeat' first
   | (with_reducible exact ih0 _ _ _)
   | (with_reducible exact LeO.refl _)
   | (with_reducible exact LeO.none _)
   | (with_reducible refine LeO.ite ?_ ?_)
   | (with_reducible refine LeO.bind ?_ (fun _ => ?_))
   | exact ih0 _ _ _
   | exact LeO.none _
   | refine LeO.ite ?_ ?_
   | refine LeO.bind ?_ (fun _ => ?_)
set_option maxHeartbeats 8000000 in
set_option maxRecDepth 100000 in
theorem laws_likeInts.calls (k : Nat) (A0 : Option Addr) (c0 : Nat) (l0 : List Int) (A1 : Option Addr) (c1 : Nat) (l1 : List Int) (r : Bool) (w : World) (hr0 : Kd.C (Kd.int .i64) w A0 l0.length l0) (hc0 : l0.length ≤ c0) (hr1 : Kd.C (Kd.int .i64) w A1 l1.length l1) (hc1 : l1.length ≤ c1) (h : laws_likeInts.f k l0 l1 = some r) :
  Calls Try.prog 12 #[.slice A0 l0.length c0, .slice A1 l1.length c1] w fun e w' => e = .returned (.bool r) ∧ Drawn0 w w' := by
 have HR0 := Aside0.mk hr0
 have HC0 := Aside0.mk hc0
 clear hr0 hc0
 have HR1 := Aside0.mk hr1
 have HC1 := Aside0.mk hc1
 clear hr1 hc1
 have H : (if (l0.length : Int) = (l1.length : Int) then (laws_likeInts.l0 k l0 l1 0) else (some false)) = some r := h
 clear h
 by_cases c3 : (l0.length : Int) = (l1.length : Int)
 ·rw [if_pos c3] at H
  have c3b0 : ((l0.length : Int) == (l1.length : Int)) = true := beq_iff_eq.mpr c3
  have c3b1 : ((l0.length : Int) != (l1.length : Int)) = false := bne_eq_false_iff_eq.mpr c3
  have c3b2 : (l0.length == l1.length) = true := by first | simpa using c3 | (simp at c3 ⊢; omega)
  clear c3
  have H' := Aside0.mk H
  clear H
  go_enter Try.func12, Try.ntmps12
  go_wp2
  repeat (go_quiet (fail); try go_wp2)
  go_loopg [5] k (fun kq v5 w' => ∃ (x5_1 : Int), v5 = .int .i64 x5_1 ∧ Aside0 (laws_likeInts.l0 kq l0 l1 x5_1 = some r) ∧ Aside0 (kq ≤ k) ∧ Drawn0 w w')
  case atStart => exact ⟨(0), (by first | rfl | (simp; done) | (simp [*]; done)), H', ⟨Nat.le_refl _⟩, by repeat (first | exact Drawn0.refl _ | apply Drawn0.step)⟩
  case round =>
   clear H'
   try clear c1
   try clear p2
   try clear c3
   try clear c3b0
   try clear c3b1
   try clear c3b2
   obtain ⟨x5_1, rfl, HA, HK1, ⟨m1, rfl⟩⟩ := hrel
   cases gk with
   | zero => exact absurd HA.out (by simp [laws_likeInts.l0])
   | succ k1 =>
    have H := HA.out
    clear HA
    simp only [laws_likeInts.l0] at H
    by_cases c4 : x5_1 < (l0.length : Int)
    ·rw [if_pos c4] at H
     have c4b0 : decide (x5_1 < (l0.length : Int)) = true := decide_eq_true c4
     clear c4
     by_cases c5 : 0 ≤ x5_1
     ·rw [if_pos c5] at H
      have c5b0 : decide (0 ≤ x5_1) = true := decide_eq_true c5
      clear c5
      by_cases c6 : x5_1 < (l1.length : Int)
      ·rw [if_pos c6] at H
       have c6b0 : decide (x5_1 < (l1.length : Int)) = true := decide_eq_true c6
       clear c6
       by_cases c7 : (rd l0 x5_1) = (rd l1 x5_1)
       ·rw [if_pos c7] at H
        have c7b0 : ((rd l0 x5_1) == (rd l1 x5_1)) = true := beq_iff_eq.mpr c7
        have c7b1 : ((rd l0 x5_1) != (rd l1 x5_1)) = false := bne_eq_false_iff_eq.mpr c7
        clear c7
        have H' := Aside0.mk H
        clear H
        have p386 : 0 ≤ (x5_1 : Int) := of_decide_eq_true (by first | (with_reducible assumption) | assumption)
        have q386 : x5_1 < (l0.length : Int) := of_decide_eq_true (by first | (with_reducible assumption) | assumption)
        obtain ⟨ad386, e386, hx386_0⟩ := Kd.at_int HR0.out x5_1 p386 q386
        cases e386
        replace p386 := eq_true p386
        replace q386 := eq_true q386
        have p387 : 0 ≤ (x5_1 : Int) := of_decide_eq_true (by first | (with_reducible assumption) | assumption)
        have q387 : x5_1 < (l1.length : Int) := of_decide_eq_true (by first | (with_reducible assumption) | assumption)
        obtain ⟨ad387, e387, hx387_0⟩ := Kd.at_int HR1.out x5_1 p387 q387
        cases e387
        replace p387 := eq_true p387
        replace q387 := eq_true q387
        go_wp2
        repeat (go_quiet (fail); try go_wp2)
        go_roundg k1
        case measure => have := HK1.out; omega
        case rel => exact ⟨(wrap64 (x5_1 + 1)), (by first | rfl | (simp; done) | (simp [*]; done)), H', ⟨by have := HK1.out; omega⟩, by repeat (first | exact Drawn0.refl _ | apply Drawn0.step)⟩
       ·rw [if_neg c7] at H
        have c7b0 : ((rd l0 x5_1) == (rd l1 x5_1)) = false := beq_eq_false_iff_ne.mpr c7
        have c7b1 : ((rd l0 x5_1) != (rd l1 x5_1)) = true := bne_iff_ne.mpr c7
        obtain rfl := Option.some.inj H
        have p386 : 0 ≤ (x5_1 : Int) := of_decide_eq_true (by first | (with_reducible assumption) | assumption)
        have q386 : x5_1 < (l0.length : Int) := of_decide_eq_true (by first | (with_reducible assumption) | assumption)
        obtain ⟨ad386, e386, hx386_0⟩ := Kd.at_int HR0.out x5_1 p386 q386
        cases e386
        replace p386 := eq_true p386
        replace q386 := eq_true q386
        have p387 : 0 ≤ (x5_1 : Int) := of_decide_eq_true (by first | (with_reducible assumption) | assumption)
        have q387 : x5_1 < (l1.length : Int) := of_decide_eq_true (by first | (with_reducible assumption) | assumption)
        obtain ⟨ad387, e387, hx387_0⟩ := Kd.at_int HR1.out x5_1 p387 q387
        cases e387
        replace p387 := eq_true p387
        replace q387 := eq_true q387
        go_wp2
        repeat (go_quiet (fail); try go_wp2)
        go_ret
        exact ⟨by first | rfl | (simp; done) | (simp [*]; done), by repeat (first | exact Drawn0.refl _ | apply Drawn0.step)⟩
      ·rw [if_neg c6] at H
       exact absurd H (by simp)
     ·rw [if_neg c5] at H
      exact absurd H (by simp)
    ·rw [if_neg c4] at H
     have c4b0 : decide (x5_1 < (l0.length : Int)) = false := decide_eq_false c4
     clear c4
     obtain rfl := Option.some.inj H
     go_wp2
     repeat (go_quiet (fail); try go_wp2)
     go_ret
     exact ⟨by first | rfl | (simp; done) | (simp [*]; done), by repeat (first | exact Drawn0.refl _ | apply Drawn0.step)⟩
 ·rw [if_neg c3] at H
  have c3b0 : ((l0.length : Int) == (l1.length : Int)) = false := beq_eq_false_iff_ne.mpr c3
  have c3b1 : ((l0.length : Int) != (l1.length : Int)) = true := bne_iff_ne.mpr c3
  have c3b2 : (l0.length == l1.length) = false := by first | simpa using c3 | (simp at c3 ⊢; omega)
  obtain rfl := Option.some.inj H
  go_enter Try.func12, Try.ntmps12
  go_wp2
  repeat (go_quiet (fail); try go_wp2)
  go_ret
  exact ⟨by first | rfl | (simp; done) | (simp [*]; done), by repeat (first | exact Drawn0.refl _ | apply Drawn0.step)⟩
end Go.Proofs.Ytlnfjhahnacmiaa.F
namespace Go.Proofs.Ytlnfjhahnacmiaa.F
open Go.RowKit Go.Proofs.YtlnfjhahnacmiaaW.PrintWords Go.Proofs.YtlnfjhahnacmiaaW.PrintLast Go.Proofs.YtlnfjhahnacmiaaW.PrintMore
attribute [local go_sem] max2_int min2_int max_two min_two max_three min_three max_four min_four   -- for this text's walks alone
set_option linter.unusedVariables false
set_option linter.unusedSimpArgs false
def impl_LitBetween.f (k : Nat) (a0 : Int) (l1 : List (S39)) (a2 : Int) : Option (Int × Int × Int) := (impl_nodeAsked.f k a0 l1 (([a2] : List Int))).bind fun t391 => (if t391 = 0 then ((impl_litTimes.f k a0 l1).bind fun bt392 => (if 0 ≤ a2 then (if a2 < (bt392.1.length : Int) then (if a2 < (bt392.2.length : Int) then (some (rd bt392.1 a2, rd bt392.2 a2, 0)) else (none)) else (none)) else (none))) else (some (0, 0, t391)))
theorem impl_LitBetween.mono : ∀ a0 a1 a2 k, LeO (impl_LitBetween.f k a0 a1 a2) (impl_LitBetween.f (k + 1) a0 a1 a2) := by
 intro a0 a1 a2 k
 unfold impl_LitBetween.f
 repeat' first
   | (with_reducible exact impl_litTimes.mono _ _ _)
   | (with_reducible exact impl_nodeAsked.mono _ _ _ _)
   | (with_reducible exact LeO.refl _)
   | (with_reducible exact LeO.none _)
   | (with_reducible refine LeO.ite ?_ ?_)
   | (with_reducible refine LeO.bind ?_ (fun _ => ?_))
   | exact impl_litTimes.mono _ _ _
   | exact impl_nodeAsked.mono _ _ _ _
   | exact LeO.none _
   | refine LeO.ite ?_ ?_
   | refine LeO.bind ?_ (fun _ => ?_)
set_option maxHeartbeats 8000000 in
set_option maxRecDepth 100000 in
theorem impl_LitBetween.calls (k : Nat) (a0 : Int) (A1 : Option Addr) (c1 : Nat) (l1 : List (S39)) (a2 : Int) (r1 : Int) (r2 : Int) (r3 : Int) (w : World) (hr1 : Kd.C k39 w A1 l1.length l1) (hc1 : l1.length ≤ c1) (h : impl_LitBetween.f k a0 l1 a2 = some (r1, r2, r3)) :
  Calls Try.prog 13 #[.int .i64 a0, .slice A1 l1.length c1, .int .i64 a2] w fun e w' => e = .returned (.tuple #[.int .i64 r1, .int .i64 r2, .int .i64 r3]) ∧ Below w.heap.size w w' := by
 have HR1 := Aside0.mk hr1
 have HC1 := Aside0.mk hc1
 clear hr1 hc1
 have HB := Aside0.mk (Below.refl w.heap.size w)
 have H : ((impl_nodeAsked.f k a0 l1 (([a2] : List Int))).bind fun t391 => (if t391 = 0 then ((impl_litTimes.f k a0 l1).bind fun bt392 => (if 0 ≤ a2 then (if a2 < (bt392.1.length : Int) then (if a2 < (bt392.2.length : Int) then (some (rd bt392.1 a2, rd bt392.2 a2, 0)) else (none)) else (none)) else (none))) else (some (0, 0, t391)))) = some (r1, r2, r3) := h
 clear h
 obtain ⟨y388, hy388⟩ : ∃ y_ : List Int, y_ = (([a2] : List Int)) := ⟨_, rfl⟩
 replace H : ((impl_nodeAsked.f k a0 l1 y388).bind fun t391 => (if t391 = 0 then ((impl_litTimes.f k a0 l1).bind fun bt392 => (if 0 ≤ a2 then (if a2 < (bt392.1.length : Int) then (if a2 < (bt392.2.length : Int) then (some (rd bt392.1 a2, rd bt392.2 a2, 0)) else (none)) else (none)) else (none))) else (some (0, 0, t391)))) = some (r1, r2, r3) := by first | (rw [hy388]; with_reducible exact H) | (have H2_ := (Option.bind_some _ _).symm.trans H; rw [hy388]; with_reducible exact H2_) | (have H2_ := (Option.bind_some _ _).symm.trans H; with_reducible exact H2_) | with_reducible exact H | (rw [hy388]; exact H) | exact H
 have Ny388 := Aside0.mk hy388
 clear hy388
 replace H := Option.bind_eq_some_iff.mp H
 obtain ⟨t391, A40, H⟩ := H
 replace H : (if t391 = 0 then ((impl_litTimes.f k a0 l1).bind fun bt392 => (if 0 ≤ a2 then (if a2 < (bt392.1.length : Int) then (if a2 < (bt392.2.length : Int) then (some (rd bt392.1 a2, rd bt392.2 a2, 0)) else (none)) else (none)) else (none))) else (some (0, 0, t391))) = some (r1, r2, r3) := H
 have A4 := Aside0.mk A40
 clear A40
 by_cases c5 : t391 = 0
 ·rw [if_pos c5] at H
  have c5b0 : (t391 == 0) = true := beq_iff_eq.mpr c5
  have c5b1 : (t391 != 0) = false := bne_eq_false_iff_eq.mpr c5
  clear c5
  replace H := Option.bind_eq_some_iff.mp H
  obtain ⟨⟨t392, t393⟩, A60, H⟩ := H
  replace H : (if 0 ≤ a2 then (if a2 < (t392.length : Int) then (if a2 < (t393.length : Int) then (some (rd t392 a2, rd t393 a2, 0)) else (none)) else (none)) else (none)) = some (r1, r2, r3) := H
  have A6 := Aside0.mk A60
  clear A60
  by_cases c7 : 0 ≤ a2
  ·rw [if_pos c7] at H
   have c7b0 : decide (0 ≤ a2) = true := decide_eq_true c7
   clear c7
   by_cases c8 : a2 < (t392.length : Int)
   ·rw [if_pos c8] at H
    have c8b0 : decide (a2 < (t392.length : Int)) = true := decide_eq_true c8
    clear c8
    by_cases c9 : a2 < (t393.length : Int)
    ·rw [if_pos c9] at H
     have c9b0 : decide (a2 < (t393.length : Int)) = true := decide_eq_true c9
     clear c9
     simp only [Option.some.injEq, Prod.mk.injEq] at H
     obtain ⟨rfl, rfl, rfl⟩ := H
     go_enter Try.func13, Try.ntmps13
     go_wp2_with (first | ((with_reducible refine gate_dst (N := 15) rfl ?_); refine Kd.R_lit (Kd.int .i64) _ 2 ?hg (N := 15) ?hd (xs := ([a2] : List Int)) (inner := [.int .i64 a2]) (ok := fun _ => True) (okp := fun _ => True) ?hr ?hp (fun _ hk => hk) trivial (Below.refl _ _) (Nat.le_refl _) (by simp) ?_; (case hd => rfl); (case hg => rfl); (case hr => first | (go_simp; done) | (go_simp; rfl)); (case hp => exact (Reps.one (show Kd.M (Kd.int .i64) _ _ _ a2 [.int .i64 a2] from rfl) (Reps.none _ _))); intro v389 w10 ho11 hb hg_ hnew_; clear hg_ hnew_; (first | rw [← Ny388.out] at ho11 | (simp only [Int.reduceToNat] at ho11; rw [← Ny388.out] at ho11)); have n0_ := Aside0.mk (Kd.R_lower ho11 (below_size (by repeat (first | (with_reducible first | exact HB.out | apply below_alloc | apply pw_below_drewN | apply below_drew1) | exact HB.out)))); have n1_ := Aside0.mk (below_step (by repeat (first | (with_reducible first | exact HB.out | apply below_alloc | apply pw_below_drewN | apply below_drew1) | exact HB.out)) hb); clear HB; have HO390 := n0_; have HB := n1_; clear n0_ n1_; clear hb ho11; obtain ⟨Ao12, co12, eo12⟩ := Kd.R_slice HO390.out; subst eo12) | (go_at_call 34; (with_reducible refine (impl_nodeAsked.calls k a0 _ _ l1 _ _ y388 t391 _ ?side1 ?side2 ?side3 ?side4 A4.out).mono ?_); (case side1 => repeat (first | exact (Kd.C_below HR1.out HB.out) | (with_reducible refine Kd.C_alloc ?_ _) | (with_reducible refine Kd.C_drewN ?_ _) | (with_reducible refine Kd.C_drew ?_))); (case side2 => exact HC1.out); (case side3 => repeat (first | exact (Kd.R_reads' HO390.out).2.2 | (with_reducible refine Kd.C_alloc ?_ _) | (with_reducible refine Kd.C_drewN ?_ _) | (with_reducible refine Kd.C_drew ?_))); (case side4 => exact (Kd.R_reads' HO390.out).2.1); rintro e w13 ⟨rfl, hb⟩; have n0_ := Aside0.mk (Kd.R_below (by (with_reducible repeat (first | apply Kd.R_alloc | apply Kd.R_drewN | apply Kd.R_drew)); exact HO390.out) hb); have n1_ := Aside0.mk (below_step (by repeat (first | (with_reducible first | exact HB.out | apply below_alloc | apply pw_below_drewN | apply below_drew1) | exact HB.out)) hb); clear HO390; clear HB; have HO390 := n0_; have HB := n1_; clear n0_ n1_; (try clear hb); (try clear hb2); (try clear hk); (try clear hi)) | (go_at_call 35; (with_reducible refine (impl_litTimes.calls k a0 _ _ l1 t392 t393 _ ?side1 ?side2 A6.out).mono ?_); (case side1 => repeat (first | exact (Kd.C_below HR1.out HB.out) | (with_reducible refine Kd.C_alloc ?_ _) | (with_reducible refine Kd.C_drewN ?_ _) | (with_reducible refine Kd.C_drew ?_))); (case side2 => exact HC1.out); rintro e w14 ⟨v394, v396, rfl, ho0, ho1, hb⟩; have n0_ := Aside0.mk (Kd.R_mono (Kd.R_told (Kd.R_told (Kd.R_old (by (with_reducible repeat (first | apply Kd.R_alloc | apply Kd.R_drewN | apply Kd.R_drew)); exact HO390.out) hb) (Kd.R_base ho0)) (Kd.R_base ho1)) (fun _ h_ => h_.1)); have n1_ := Aside0.mk (Kd.R_lower (Kd.R_new' ho0 (Kd.R_lt (by (with_reducible repeat (first | apply Kd.R_alloc | apply Kd.R_drewN | apply Kd.R_drew)); exact HO390.out))) (below_size (by repeat (first | (with_reducible first | exact HB.out | apply below_alloc | apply pw_below_drewN | apply below_drew1) | exact HB.out)))); have n2_ := Aside0.mk (Kd.R_lower (Kd.R_new' ho1 (Kd.R_lt (by (with_reducible repeat (first | apply Kd.R_alloc | apply Kd.R_drewN | apply Kd.R_drew)); exact HO390.out))) (below_size (by repeat (first | (with_reducible first | exact HB.out | apply below_alloc | apply pw_below_drewN | apply below_drew1) | exact HB.out)))); have n3_ := Aside0.mk (below_step (by repeat (first | (with_reducible first | exact HB.out | apply below_alloc | apply pw_below_drewN | apply below_drew1) | exact HB.out)) hb); clear HO390; clear HB; have HO390 := n0_; have HO395 := n1_; have HO397 := n2_; have HB := n3_; clear n0_ n1_ n2_ n3_; (try clear hb); (try clear hb2); (try clear hk); (try clear hi); (try clear ho0); (try clear ho1); obtain ⟨Ao15, co15, eo15⟩ := Kd.R_slice HO395.out; subst eo15; have p398 : 0 ≤ (a2 : Int) := of_decide_eq_true (by first | (with_reducible assumption) | assumption); have q398 : a2 < (t392.length : Int) := of_decide_eq_true (by first | (with_reducible assumption) | assumption); obtain ⟨ad398, e398, hx398_0⟩ := Kd.at_int (Kd.R_reads' HO395.out).2.2 a2 p398 q398; cases e398; replace p398 := eq_true p398; replace q398 := eq_true q398; obtain ⟨Ao16, co16, eo16⟩ := Kd.R_slice HO397.out; subst eo16; have p399 : 0 ≤ (a2 : Int) := of_decide_eq_true (by first | (with_reducible assumption) | assumption); have q399 : a2 < (t393.length : Int) := of_decide_eq_true (by first | (with_reducible assumption) | assumption); obtain ⟨ad399, e399, hx399_0⟩ := Kd.at_int (Kd.R_reads' HO397.out).2.2 a2 p399 q399; cases e399; replace p399 := eq_true p399; replace q399 := eq_true q399))
     repeat (go_quiet (first | ((with_reducible refine gate_dst (N := 15) rfl ?_); refine Kd.R_lit (Kd.int .i64) _ 2 ?hg (N := 15) ?hd (xs := ([a2] : List Int)) (inner := [.int .i64 a2]) (ok := fun _ => True) (okp := fun _ => True) ?hr ?hp (fun _ hk => hk) trivial (Below.refl _ _) (Nat.le_refl _) (by simp) ?_; (case hd => rfl); (case hg => rfl); (case hr => first | (go_simp; done) | (go_simp; rfl)); (case hp => exact (Reps.one (show Kd.M (Kd.int .i64) _ _ _ a2 [.int .i64 a2] from rfl) (Reps.none _ _))); intro v389 w10 ho11 hb hg_ hnew_; clear hg_ hnew_; (first | rw [← Ny388.out] at ho11 | (simp only [Int.reduceToNat] at ho11; rw [← Ny388.out] at ho11)); have n0_ := Aside0.mk (Kd.R_lower ho11 (below_size (by repeat (first | (with_reducible first | exact HB.out | apply below_alloc | apply pw_below_drewN | apply below_drew1) | exact HB.out)))); have n1_ := Aside0.mk (below_step (by repeat (first | (with_reducible first | exact HB.out | apply below_alloc | apply pw_below_drewN | apply below_drew1) | exact HB.out)) hb); clear HB; have HO390 := n0_; have HB := n1_; clear n0_ n1_; clear hb ho11; obtain ⟨Ao12, co12, eo12⟩ := Kd.R_slice HO390.out; subst eo12) | (go_at_call 34; (with_reducible refine (impl_nodeAsked.calls k a0 _ _ l1 _ _ y388 t391 _ ?side1 ?side2 ?side3 ?side4 A4.out).mono ?_); (case side1 => repeat (first | exact (Kd.C_below HR1.out HB.out) | (with_reducible refine Kd.C_alloc ?_ _) | (with_reducible refine Kd.C_drewN ?_ _) | (with_reducible refine Kd.C_drew ?_))); (case side2 => exact HC1.out); (case side3 => repeat (first | exact (Kd.R_reads' HO390.out).2.2 | (with_reducible refine Kd.C_alloc ?_ _) | (with_reducible refine Kd.C_drewN ?_ _) | (with_reducible refine Kd.C_drew ?_))); (case side4 => exact (Kd.R_reads' HO390.out).2.1); rintro e w13 ⟨rfl, hb⟩; have n0_ := Aside0.mk (Kd.R_below (by (with_reducible repeat (first | apply Kd.R_alloc | apply Kd.R_drewN | apply Kd.R_drew)); exact HO390.out) hb); have n1_ := Aside0.mk (below_step (by repeat (first | (with_reducible first | exact HB.out | apply below_alloc | apply pw_below_drewN | apply below_drew1) | exact HB.out)) hb); clear HO390; clear HB; have HO390 := n0_; have HB := n1_; clear n0_ n1_; (try clear hb); (try clear hb2); (try clear hk); (try clear hi)) | (go_at_call 35; (with_reducible refine (impl_litTimes.calls k a0 _ _ l1 t392 t393 _ ?side1 ?side2 A6.out).mono ?_); (case side1 => repeat (first | exact (Kd.C_below HR1.out HB.out) | (with_reducible refine Kd.C_alloc ?_ _) | (with_reducible refine Kd.C_drewN ?_ _) | (with_reducible refine Kd.C_drew ?_))); (case side2 => exact HC1.out); rintro e w14 ⟨v394, v396, rfl, ho0, ho1, hb⟩; have n0_ := Aside0.mk (Kd.R_mono (Kd.R_told (Kd.R_told (Kd.R_old (by (with_reducible repeat (first | apply Kd.R_alloc | apply Kd.R_drewN | apply Kd.R_drew)); exact HO390.out) hb) (Kd.R_base ho0)) (Kd.R_base ho1)) (fun _ h_ => h_.1)); have n1_ := Aside0.mk (Kd.R_lower (Kd.R_new' ho0 (Kd.R_lt (by (with_reducible repeat (first | apply Kd.R_alloc | apply Kd.R_drewN | apply Kd.R_drew)); exact HO390.out))) (below_size (by repeat (first | (with_reducible first | exact HB.out | apply below_alloc | apply pw_below_drewN | apply below_drew1) | exact HB.out)))); have n2_ := Aside0.mk (Kd.R_lower (Kd.R_new' ho1 (Kd.R_lt (by (with_reducible repeat (first | apply Kd.R_alloc | apply Kd.R_drewN | apply Kd.R_drew)); exact HO390.out))) (below_size (by repeat (first | (with_reducible first | exact HB.out | apply below_alloc | apply pw_below_drewN | apply below_drew1) | exact HB.out)))); have n3_ := Aside0.mk (below_step (by repeat (first | (with_reducible first | exact HB.out | apply below_alloc | apply pw_below_drewN | apply below_drew1) | exact HB.out)) hb); clear HO390; clear HB; have HO390 := n0_; have HO395 := n1_; have HO397 := n2_; have HB := n3_; clear n0_ n1_ n2_ n3_; (try clear hb); (try clear hb2); (try clear hk); (try clear hi); (try clear ho0); (try clear ho1); obtain ⟨Ao15, co15, eo15⟩ := Kd.R_slice HO395.out; subst eo15; have p398 : 0 ≤ (a2 : Int) := of_decide_eq_true (by first | (with_reducible assumption) | assumption); have q398 : a2 < (t392.length : Int) := of_decide_eq_true (by first | (with_reducible assumption) | assumption); obtain ⟨ad398, e398, hx398_0⟩ := Kd.at_int (Kd.R_reads' HO395.out).2.2 a2 p398 q398; cases e398; replace p398 := eq_true p398; replace q398 := eq_true q398; obtain ⟨Ao16, co16, eo16⟩ := Kd.R_slice HO397.out; subst eo16; have p399 : 0 ≤ (a2 : Int) := of_decide_eq_true (by first | (with_reducible assumption) | assumption); have q399 : a2 < (t393.length : Int) := of_decide_eq_true (by first | (with_reducible assumption) | assumption); obtain ⟨ad399, e399, hx399_0⟩ := Kd.at_int (Kd.R_reads' HO397.out).2.2 a2 p399 q399; cases e399; replace p399 := eq_true p399; replace q399 := eq_true q399)); try go_wp2_with (first | ((with_reducible refine gate_dst (N := 15) rfl ?_); refine Kd.R_lit (Kd.int .i64) _ 2 ?hg (N := 15) ?hd (xs := ([a2] : List Int)) (inner := [.int .i64 a2]) (ok := fun _ => True) (okp := fun _ => True) ?hr ?hp (fun _ hk => hk) trivial (Below.refl _ _) (Nat.le_refl _) (by simp) ?_; (case hd => rfl); (case hg => rfl); (case hr => first | (go_simp; done) | (go_simp; rfl)); (case hp => exact (Reps.one (show Kd.M (Kd.int .i64) _ _ _ a2 [.int .i64 a2] from rfl) (Reps.none _ _))); intro v389 w10 ho11 hb hg_ hnew_; clear hg_ hnew_; (first | rw [← Ny388.out] at ho11 | (simp only [Int.reduceToNat] at ho11; rw [← Ny388.out] at ho11)); have n0_ := Aside0.mk (Kd.R_lower ho11 (below_size (by repeat (first | (with_reducible first | exact HB.out | apply below_alloc | apply pw_below_drewN | apply below_drew1) | exact HB.out)))); have n1_ := Aside0.mk (below_step (by repeat (first | (with_reducible first | exact HB.out | apply below_alloc | apply pw_below_drewN | apply below_drew1) | exact HB.out)) hb); clear HB; have HO390 := n0_; have HB := n1_; clear n0_ n1_; clear hb ho11; obtain ⟨Ao12, co12, eo12⟩ := Kd.R_slice HO390.out; subst eo12) | (go_at_call 34; (with_reducible refine (impl_nodeAsked.calls k a0 _ _ l1 _ _ y388 t391 _ ?side1 ?side2 ?side3 ?side4 A4.out).mono ?_); (case side1 => repeat (first | exact (Kd.C_below HR1.out HB.out) | (with_reducible refine Kd.C_alloc ?_ _) | (with_reducible refine Kd.C_drewN ?_ _) | (with_reducible refine Kd.C_drew ?_))); (case side2 => exact HC1.out); (case side3 => repeat (first | exact (Kd.R_reads' HO390.out).2.2 | (with_reducible refine Kd.C_alloc ?_ _) | (with_reducible refine Kd.C_drewN ?_ _) | (with_reducible refine Kd.C_drew ?_))); (case side4 => exact (Kd.R_reads' HO390.out).2.1); rintro e w13 ⟨rfl, hb⟩; have n0_ := Aside0.mk (Kd.R_below (by (with_reducible repeat (first | apply Kd.R_alloc | apply Kd.R_drewN | apply Kd.R_drew)); exact HO390.out) hb); have n1_ := Aside0.mk (below_step (by repeat (first | (with_reducible first | exact HB.out | apply below_alloc | apply pw_below_drewN | apply below_drew1) | exact HB.out)) hb); clear HO390; clear HB; have HO390 := n0_; have HB := n1_; clear n0_ n1_; (try clear hb); (try clear hb2); (try clear hk); (try clear hi)) | (go_at_call 35; (with_reducible refine (impl_litTimes.calls k a0 _ _ l1 t392 t393 _ ?side1 ?side2 A6.out).mono ?_); (case side1 => repeat (first | exact (Kd.C_below HR1.out HB.out) | (with_reducible refine Kd.C_alloc ?_ _) | (with_reducible refine Kd.C_drewN ?_ _) | (with_reducible refine Kd.C_drew ?_))); (case side2 => exact HC1.out); rintro e w14 ⟨v394, v396, rfl, ho0, ho1, hb⟩; have n0_ := Aside0.mk (Kd.R_mono (Kd.R_told (Kd.R_told (Kd.R_old (by (with_reducible repeat (first | apply Kd.R_alloc | apply Kd.R_drewN | apply Kd.R_drew)); exact HO390.out) hb) (Kd.R_base ho0)) (Kd.R_base ho1)) (fun _ h_ => h_.1)); have n1_ := Aside0.mk (Kd.R_lower (Kd.R_new' ho0 (Kd.R_lt (by (with_reducible repeat (first | apply Kd.R_alloc | apply Kd.R_drewN | apply Kd.R_drew)); exact HO390.out))) (below_size (by repeat (first | (with_reducible first | exact HB.out | apply below_alloc | apply pw_below_drewN | apply below_drew1) | exact HB.out)))); have n2_ := Aside0.mk (Kd.R_lower (Kd.R_new' ho1 (Kd.R_lt (by (with_reducible repeat (first | apply Kd.R_alloc | apply Kd.R_drewN | apply Kd.R_drew)); exact HO390.out))) (below_size (by repeat (first | (with_reducible first | exact HB.out | apply below_alloc | apply pw_below_drewN | apply below_drew1) | exact HB.out)))); have n3_ := Aside0.mk (below_step (by repeat (first | (with_reducible first | exact HB.out | apply below_alloc | apply pw_below_drewN | apply below_drew1) | exact HB.out)) hb); clear HO390; clear HB; have HO390 := n0_; have HO395 := n1_; have HO397 := n2_; have HB := n3_; clear n0_ n1_ n2_ n3_; (try clear hb); (try clear hb2); (try clear hk); (try clear hi); (try clear ho0); (try clear ho1); obtain ⟨Ao15, co15, eo15⟩ := Kd.R_slice HO395.out; subst eo15; have p398 : 0 ≤ (a2 : Int) := of_decide_eq_true (by first | (with_reducible assumption) | assumption); have q398 : a2 < (t392.length : Int) := of_decide_eq_true (by first | (with_reducible assumption) | assumption); obtain ⟨ad398, e398, hx398_0⟩ := Kd.at_int (Kd.R_reads' HO395.out).2.2 a2 p398 q398; cases e398; replace p398 := eq_true p398; replace q398 := eq_true q398; obtain ⟨Ao16, co16, eo16⟩ := Kd.R_slice HO397.out; subst eo16; have p399 : 0 ≤ (a2 : Int) := of_decide_eq_true (by first | (with_reducible assumption) | assumption); have q399 : a2 < (t393.length : Int) := of_decide_eq_true (by first | (with_reducible assumption) | assumption); obtain ⟨ad399, e399, hx399_0⟩ := Kd.at_int (Kd.R_reads' HO397.out).2.2 a2 p399 q399; cases e399; replace p399 := eq_true p399; replace q399 := eq_true q399)))
     go_ret3
     exact ⟨by first | rfl | (simp [errW_none, errW_some] <;> rfl) | (simp [*, errW_none, errW_some] <;> rfl), by repeat (first | (with_reducible first | exact HB.out | apply below_alloc | apply pw_below_drewN | apply below_drew1) | exact HB.out)⟩
    ·rw [if_neg c9] at H
     exact absurd H (by simp)
   ·rw [if_neg c8] at H
    exact absurd H (by simp)
  ·rw [if_neg c7] at H
   exact absurd H (by simp)
 ·rw [if_neg c5] at H
  have c5b0 : (t391 == 0) = false := beq_eq_false_iff_ne.mpr c5
  have c5b1 : (t391 != 0) = true := bne_iff_ne.mpr c5
  simp only [Option.some.injEq, Prod.mk.injEq] at H
  obtain ⟨rfl, rfl, rfl⟩ := H
  go_enter Try.func13, Try.ntmps13
  go_wp2_with (first | ((with_reducible refine gate_dst (N := 15) rfl ?_); refine Kd.R_lit (Kd.int .i64) _ 2 ?hg (N := 15) ?hd (xs := ([a2] : List Int)) (inner := [.int .i64 a2]) (ok := fun _ => True) (okp := fun _ => True) ?hr ?hp (fun _ hk => hk) trivial (Below.refl _ _) (Nat.le_refl _) (by simp) ?_; (case hd => rfl); (case hg => rfl); (case hr => first | (go_simp; done) | (go_simp; rfl)); (case hp => exact (Reps.one (show Kd.M (Kd.int .i64) _ _ _ a2 [.int .i64 a2] from rfl) (Reps.none _ _))); intro v389 w17 ho18 hb hg_ hnew_; clear hg_ hnew_; (first | rw [← Ny388.out] at ho18 | (simp only [Int.reduceToNat] at ho18; rw [← Ny388.out] at ho18)); have n0_ := Aside0.mk (Kd.R_lower ho18 (below_size (by repeat (first | (with_reducible first | exact HB.out | apply below_alloc | apply pw_below_drewN | apply below_drew1) | exact HB.out)))); have n1_ := Aside0.mk (below_step (by repeat (first | (with_reducible first | exact HB.out | apply below_alloc | apply pw_below_drewN | apply below_drew1) | exact HB.out)) hb); clear HB; have HO390 := n0_; have HB := n1_; clear n0_ n1_; clear hb ho18; obtain ⟨Ao19, co19, eo19⟩ := Kd.R_slice HO390.out; subst eo19) | (go_at_call 34; (with_reducible refine (impl_nodeAsked.calls k a0 _ _ l1 _ _ y388 t391 _ ?side1 ?side2 ?side3 ?side4 A4.out).mono ?_); (case side1 => repeat (first | exact (Kd.C_below HR1.out HB.out) | (with_reducible refine Kd.C_alloc ?_ _) | (with_reducible refine Kd.C_drewN ?_ _) | (with_reducible refine Kd.C_drew ?_))); (case side2 => exact HC1.out); (case side3 => repeat (first | exact (Kd.R_reads' HO390.out).2.2 | (with_reducible refine Kd.C_alloc ?_ _) | (with_reducible refine Kd.C_drewN ?_ _) | (with_reducible refine Kd.C_drew ?_))); (case side4 => exact (Kd.R_reads' HO390.out).2.1); rintro e w20 ⟨rfl, hb⟩; have n0_ := Aside0.mk (Kd.R_below (by (with_reducible repeat (first | apply Kd.R_alloc | apply Kd.R_drewN | apply Kd.R_drew)); exact HO390.out) hb); have n1_ := Aside0.mk (below_step (by repeat (first | (with_reducible first | exact HB.out | apply below_alloc | apply pw_below_drewN | apply below_drew1) | exact HB.out)) hb); clear HO390; clear HB; have HO390 := n0_; have HB := n1_; clear n0_ n1_; (try clear hb); (try clear hb2); (try clear hk); (try clear hi)))
  repeat (go_quiet (first | ((with_reducible refine gate_dst (N := 15) rfl ?_); refine Kd.R_lit (Kd.int .i64) _ 2 ?hg (N := 15) ?hd (xs := ([a2] : List Int)) (inner := [.int .i64 a2]) (ok := fun _ => True) (okp := fun _ => True) ?hr ?hp (fun _ hk => hk) trivial (Below.refl _ _) (Nat.le_refl _) (by simp) ?_; (case hd => rfl); (case hg => rfl); (case hr => first | (go_simp; done) | (go_simp; rfl)); (case hp => exact (Reps.one (show Kd.M (Kd.int .i64) _ _ _ a2 [.int .i64 a2] from rfl) (Reps.none _ _))); intro v389 w17 ho18 hb hg_ hnew_; clear hg_ hnew_; (first | rw [← Ny388.out] at ho18 | (simp only [Int.reduceToNat] at ho18; rw [← Ny388.out] at ho18)); have n0_ := Aside0.mk (Kd.R_lower ho18 (below_size (by repeat (first | (with_reducible first | exact HB.out | apply below_alloc | apply pw_below_drewN | apply below_drew1) | exact HB.out)))); have n1_ := Aside0.mk (below_step (by repeat (first | (with_reducible first | exact HB.out | apply below_alloc | apply pw_below_drewN | apply below_drew1) | exact HB.out)) hb); clear HB; have HO390 := n0_; have HB := n1_; clear n0_ n1_; clear hb ho18; obtain ⟨Ao19, co19, eo19⟩ := Kd.R_slice HO390.out; subst eo19) | (go_at_call 34; (with_reducible refine (impl_nodeAsked.calls k a0 _ _ l1 _ _ y388 t391 _ ?side1 ?side2 ?side3 ?side4 A4.out).mono ?_); (case side1 => repeat (first | exact (Kd.C_below HR1.out HB.out) | (with_reducible refine Kd.C_alloc ?_ _) | (with_reducible refine Kd.C_drewN ?_ _) | (with_reducible refine Kd.C_drew ?_))); (case side2 => exact HC1.out); (case side3 => repeat (first | exact (Kd.R_reads' HO390.out).2.2 | (with_reducible refine Kd.C_alloc ?_ _) | (with_reducible refine Kd.C_drewN ?_ _) | (with_reducible refine Kd.C_drew ?_))); (case side4 => exact (Kd.R_reads' HO390.out).2.1); rintro e w20 ⟨rfl, hb⟩; have n0_ := Aside0.mk (Kd.R_below (by (with_reducible repeat (first | apply Kd.R_alloc | apply Kd.R_drewN | apply Kd.R_drew)); exact HO390.out) hb); have n1_ := Aside0.mk (below_step (by repeat (first | (with_reducible first | exact HB.out | apply below_alloc | apply pw_below_drewN | apply below_drew1) | exact HB.out)) hb); clear HO390; clear HB; have HO390 := n0_; have HB := n1_; clear n0_ n1_; (try clear hb); (try clear hb2); (try clear hk); (try clear hi))); try go_wp2_with (first | ((with_reducible refine gate_dst (N := 15) rfl ?_); refine Kd.R_lit (Kd.int .i64) _ 2 ?hg (N := 15) ?hd (xs := ([a2] : List Int)) (inner := [.int .i64 a2]) (ok := fun _ => True) (okp := fun _ => True) ?hr ?hp (fun _ hk => hk) trivial (Below.refl _ _) (Nat.le_refl _) (by simp) ?_; (case hd => rfl); (case hg => rfl); (case hr => first | (go_simp; done) | (go_simp; rfl)); (case hp => exact (Reps.one (show Kd.M (Kd.int .i64) _ _ _ a2 [.int .i64 a2] from rfl) (Reps.none _ _))); intro v389 w17 ho18 hb hg_ hnew_; clear hg_ hnew_; (first | rw [← Ny388.out] at ho18 | (simp only [Int.reduceToNat] at ho18; rw [← Ny388.out] at ho18)); have n0_ := Aside0.mk (Kd.R_lower ho18 (below_size (by repeat (first | (with_reducible first | exact HB.out | apply below_alloc | apply pw_below_drewN | apply below_drew1) | exact HB.out)))); have n1_ := Aside0.mk (below_step (by repeat (first | (with_reducible first | exact HB.out | apply below_alloc | apply pw_below_drewN | apply below_drew1) | exact HB.out)) hb); clear HB; have HO390 := n0_; have HB := n1_; clear n0_ n1_; clear hb ho18; obtain ⟨Ao19, co19, eo19⟩ := Kd.R_slice HO390.out; subst eo19) | (go_at_call 34; (with_reducible refine (impl_nodeAsked.calls k a0 _ _ l1 _ _ y388 t391 _ ?side1 ?side2 ?side3 ?side4 A4.out).mono ?_); (case side1 => repeat (first | exact (Kd.C_below HR1.out HB.out) | (with_reducible refine Kd.C_alloc ?_ _) | (with_reducible refine Kd.C_drewN ?_ _) | (with_reducible refine Kd.C_drew ?_))); (case side2 => exact HC1.out); (case side3 => repeat (first | exact (Kd.R_reads' HO390.out).2.2 | (with_reducible refine Kd.C_alloc ?_ _) | (with_reducible refine Kd.C_drewN ?_ _) | (with_reducible refine Kd.C_drew ?_))); (case side4 => exact (Kd.R_reads' HO390.out).2.1); rintro e w20 ⟨rfl, hb⟩; have n0_ := Aside0.mk (Kd.R_below (by (with_reducible repeat (first | apply Kd.R_alloc | apply Kd.R_drewN | apply Kd.R_drew)); exact HO390.out) hb); have n1_ := Aside0.mk (below_step (by repeat (first | (with_reducible first | exact HB.out | apply below_alloc | apply pw_below_drewN | apply below_drew1) | exact HB.out)) hb); clear HO390; clear HB; have HO390 := n0_; have HB := n1_; clear n0_ n1_; (try clear hb); (try clear hb2); (try clear hk); (try clear hi))))
  go_ret3
  exact ⟨by first | rfl | (simp [errW_none, errW_some] <;> rfl) | (simp [*, errW_none, errW_some] <;> rfl), by repeat (first | (with_reducible first | exact HB.out | apply below_alloc | apply pw_below_drewN | apply below_drew1) | exact HB.out)⟩
end Go.Proofs.Ytlnfjhahnacmiaa.F
namespace Go.Proofs.Ytlnfjhahnacmiaa.F
open Go.RowKit Go.Proofs.YtlnfjhahnacmiaaW.PrintWords Go.Proofs.YtlnfjhahnacmiaaW.PrintLast Go.Proofs.YtlnfjhahnacmiaaW.PrintMore
attribute [local go_sem] max2_int min2_int max_two min_two max_three min_three max_four min_four   -- for this text's walks alone
set_option linter.unusedVariables false
set_option linter.unusedSimpArgs false
def impl_isIndex.f (a0 : Int) (a1 : Int) : Option (Bool) := (impl_within.f a0 0 (wrap64 (a1 - 1))).bind fun t400 => (some t400)
set_option maxHeartbeats 8000000 in
set_option maxRecDepth 100000 in
theorem impl_isIndex.calls (a0 : Int) (a1 : Int) (r : Bool) (w : World) (h : impl_isIndex.f a0 a1 = some r) :
  Calls Try.prog 40 #[.int .i64 a0, .int .i64 a1] w fun e w' => e = .returned (.bool r) ∧ Drawn0 w w' := by
 have H : ((impl_within.f a0 0 (wrap64 (a1 - 1))).bind fun t400 => (some t400)) = some r := h
 clear h
 replace H := Option.bind_eq_some_iff.mp H
 obtain ⟨t400, A30, H⟩ := H
 replace H : (some t400) = some r := H
 have A3 := Aside0.mk A30
 clear A30
 obtain rfl := Option.some.inj H
 go_enter Try.func40, Try.ntmps40
 go_wp2_with (first | ((with_reducible refine gate_callee (f := 45) rfl ?_); refine goesL_ (some 8) rfl rfl Try.func45 (by kernel_rfl) rfl #[.int .i64 a0, .int .i64 0, .int .i64 (wrap64 (a1 - 1))] rfl (by (try simp only [List.map_toArray, List.map_cons, List.map_nil]); first | done | rfl | (simp only [List.length_drop, List.length_take]; rfl)) ?_; (with_reducible refine (impl_within.calls a0 0 (wrap64 (a1 - 1)) t400 _ A3.out).mono ?_); rintro e w' ⟨rfl, ⟨nd, rfl⟩⟩; refine ⟨_, rfl, ?_⟩))
 go_ret
 exact ⟨by first | rfl | (simp; done) | (simp [*]; done), by repeat (first | exact Drawn0.refl _ | apply Drawn0.step)⟩
end Go.Proofs.Ytlnfjhahnacmiaa.F
namespace Go.Proofs.Ytlnfjhahnacmiaa.F
open Go.RowKit Go.Proofs.YtlnfjhahnacmiaaW.PrintWords Go.Proofs.YtlnfjhahnacmiaaW.PrintLast Go.Proofs.YtlnfjhahnacmiaaW.PrintMore
attribute [local go_sem] max2_int min2_int max_two min_two max_three min_three max_four min_four   -- for this text's walks alone
set_option linter.unusedVariables false
set_option linter.unusedSimpArgs false
def impl_WithoutFuse.f (k : Nat) (a0 : Int) (l1 : List (S39)) (a2 : Int) : Option ((List (S39)) × Int) := (impl_AreFuses.f k a0 l1).bind fun t401 => (if t401 = true then ((impl_isIndex.f a2 (l1.length : Int)).bind fun t402 => (if t402 = true then ((impl_withoutFuse.f l1 a2).bind fun t403 => (some (t403, 0))) else (some (([] : List (S39)), 2)))) else (some (([] : List (S39)), 1)))
theorem impl_WithoutFuse.mono : ∀ a0 a1 a2 k, LeO (impl_WithoutFuse.f k a0 a1 a2) (impl_WithoutFuse.f (k + 1) a0 a1 a2) := by
 intro a0 a1 a2 k
 unfold impl_WithoutFuse.f
 repeat' first
   | (with_reducible exact impl_AreFuses.mono _ _ _)
   | (with_reducible exact LeO.refl _)
   | (with_reducible exact LeO.none _)
   | (with_reducible refine LeO.ite ?_ ?_)
   | (with_reducible refine LeO.bind ?_ (fun _ => ?_))
   | exact impl_AreFuses.mono _ _ _
   | exact LeO.none _
   | refine LeO.ite ?_ ?_
   | refine LeO.bind ?_ (fun _ => ?_)
set_option maxHeartbeats 8000000 in
set_option maxRecDepth 100000 in
theorem impl_WithoutFuse.calls (k : Nat) (a0 : Int) (A1 : Option Addr) (c1 : Nat) (l1 : List (S39)) (a2 : Int) (r1 : List (S39)) (r2 : Int) (w : World) (hr1 : Kd.C k39 w A1 l1.length l1) (hc1 : l1.length ≤ c1) (h : impl_WithoutFuse.f k a0 l1 a2 = some (r1, r2)) :
  Calls Try.prog 14 #[.int .i64 a0, .slice A1 l1.length c1, .int .i64 a2] w fun e w' => ∃ v0_ : Value, e = .returned (.tuple #[v0_, .int .i64 r2]) ∧ Kd.R k39 39 w' w.heap.size (fun _ => True) v0_ r1 ∧ Below w.heap.size w w' := by
 have HR1 := Aside0.mk hr1
 have HC1 := Aside0.mk hc1
 clear hr1 hc1
 have HB := Aside0.mk (Below.refl w.heap.size w)
 have H : ((impl_AreFuses.f k a0 l1).bind fun t401 => (if t401 = true then ((impl_isIndex.f a2 (l1.length : Int)).bind fun t402 => (if t402 = true then ((impl_withoutFuse.f l1 a2).bind fun t403 => (some (t403, 0))) else (some (([] : List (S39)), 2)))) else (some (([] : List (S39)), 1)))) = some (r1, r2) := h
 clear h
 replace H := Option.bind_eq_some_iff.mp H
 obtain ⟨t401, A40, H⟩ := H
 replace H : (if t401 = true then ((impl_isIndex.f a2 (l1.length : Int)).bind fun t402 => (if t402 = true then ((impl_withoutFuse.f l1 a2).bind fun t403 => (some (t403, 0))) else (some (([] : List (S39)), 2)))) else (some (([] : List (S39)), 1))) = some (r1, r2) := H
 have A4 := Aside0.mk A40
 clear A40
 by_cases c5 : t401 = true
 ·subst c5
  have H1 : ((impl_isIndex.f a2 (l1.length : Int)).bind fun t402 => (if t402 = true then ((impl_withoutFuse.f l1 a2).bind fun t403 => (some (t403, 0))) else (some (([] : List (S39)), 2)))) = some (r1, r2) := by rw [if_pos rfl] at H; exact H
  clear H
  have H := H1
  clear H1
  replace H := Option.bind_eq_some_iff.mp H
  obtain ⟨t402, A60, H⟩ := H
  replace H : (if t402 = true then ((impl_withoutFuse.f l1 a2).bind fun t403 => (some (t403, 0))) else (some (([] : List (S39)), 2))) = some (r1, r2) := H
  have A6 := Aside0.mk A60
  clear A60
  by_cases c7 : t402 = true
  ·subst c7
   have H1 : ((impl_withoutFuse.f l1 a2).bind fun t403 => (some (t403, 0))) = some (r1, r2) := by rw [if_pos rfl] at H; exact H
   clear H
   have H := H1
   clear H1
   replace H := Option.bind_eq_some_iff.mp H
   obtain ⟨t403, A80, H⟩ := H
   replace H : (some (t403, 0)) = some (r1, r2) := H
   have A8 := Aside0.mk A80
   clear A80
   simp only [Option.some.injEq, Prod.mk.injEq] at H
   obtain ⟨rfl, rfl⟩ := H
   go_enter Try.func14, Try.ntmps14
   go_wp2_with (first | ((with_reducible refine gate_callee (f := 20) rfl ?_); refine goesL_ (some 10) rfl rfl Try.func20 (by kernel_rfl) rfl #[.int .i64 a0, .slice A1 l1.length c1] rfl (by (try simp only [List.map_toArray, List.map_cons, List.map_nil]); first | done | rfl | (simp only [List.length_drop, List.length_take]; rfl)) ?_; (with_reducible refine (impl_AreFuses.calls k a0 _ _ l1 true _ ?side1 ?side2 A4.out).mono ?_); (case side1 => repeat (first | exact HR1.out | (with_reducible refine Kd.C_alloc ?_ _) | (with_reducible refine Kd.C_drewN ?_ _) | (with_reducible refine Kd.C_drew ?_))); (case side2 => exact HC1.out); rintro e w9 ⟨rfl, hb⟩; refine ⟨_, rfl, ?_⟩; have n0_ := Aside0.mk (below_step (by repeat (first | (with_reducible first | exact HB.out | apply below_alloc | apply pw_below_drewN | apply below_drew1) | exact HB.out)) hb); clear HB; have HB := n0_; clear n0_; (try clear hb); (try clear hb2); (try clear hk); (try clear hi)) | ((with_reducible refine gate_callee (f := 40) rfl ?_); refine goesL_ (some 15) rfl rfl Try.func40 (by kernel_rfl) rfl #[.int .i64 a2, .int .i64 (l1.length : Int)] rfl (by (try simp only [List.map_toArray, List.map_cons, List.map_nil]); first | done | rfl | (simp only [List.length_drop, List.length_take]; rfl)) ?_; (with_reducible refine (impl_isIndex.calls a2 (l1.length : Int) true _ A6.out).mono ?_); rintro e w' ⟨rfl, ⟨nd, rfl⟩⟩; refine ⟨_, rfl, ?_⟩) | ((with_reducible refine gate_callee (f := 36) rfl ?_); refine goesL_ (some 19) rfl rfl Try.func36 (by kernel_rfl) rfl #[.slice A1 l1.length c1, .int .i64 a2] rfl (by (try simp only [List.map_toArray, List.map_cons, List.map_nil]); first | done | rfl | (simp only [List.length_drop, List.length_take]; rfl)) ?_; (with_reducible refine (impl_withoutFuse.calls _ _ l1 a2 t403 _ ?side1 ?side2 A8.out).mono ?_); (case side1 => repeat (first | exact (Kd.C_below HR1.out (by repeat (first | (with_reducible first | exact HB.out | apply below_alloc | apply pw_below_drewN | apply below_drew1) | exact HB.out))) | (with_reducible refine Kd.C_alloc ?_ _) | (with_reducible refine Kd.C_drewN ?_ _) | (with_reducible refine Kd.C_drew ?_))); (case side2 => exact HC1.out); rintro e w10 ⟨v404, rfl, ho0, hb⟩; refine ⟨_, rfl, ?_⟩; have n0_ := Aside0.mk (Kd.R_lower ho0 (below_size (by repeat (first | (with_reducible first | exact HB.out | apply below_alloc | apply pw_below_drewN | apply below_drew1) | exact HB.out)))); have n1_ := Aside0.mk (below_step (by repeat (first | (with_reducible first | exact HB.out | apply below_alloc | apply pw_below_drewN | apply below_drew1) | exact HB.out)) hb); clear HB; have HO405 := n0_; have HB := n1_; clear n0_ n1_; (try clear hb); (try clear hb2); (try clear hk); (try clear hi); (try clear ho0)))
   go_ret2
   exact ⟨_, by first | rfl | (simp [errW_none, errW_some] <;> rfl) | (simp [*, errW_none, errW_some] <;> rfl), by (with_reducible repeat (first | apply Kd.R_alloc | apply Kd.R_drewN | apply Kd.R_drew)); exact HO405.out, by repeat (first | (with_reducible first | exact HB.out | apply below_alloc | apply pw_below_drewN | apply below_drew1) | exact HB.out)⟩
  ·replace c7 := Bool.eq_false_iff.mpr c7
   subst c7
   have H1 : (some (([] : List (S39)), 2)) = some (r1, r2) := by rw [if_neg (show ¬ (false = true) by decide)] at H; exact H
   clear H
   have H := H1
   clear H1
   simp only [Option.some.injEq, Prod.mk.injEq] at H
   obtain ⟨rfl, rfl⟩ := H
   go_enter Try.func14, Try.ntmps14
   go_wp2_with (first | ((with_reducible refine gate_callee (f := 20) rfl ?_); refine goesL_ (some 10) rfl rfl Try.func20 (by kernel_rfl) rfl #[.int .i64 a0, .slice A1 l1.length c1] rfl (by (try simp only [List.map_toArray, List.map_cons, List.map_nil]); first | done | rfl | (simp only [List.length_drop, List.length_take]; rfl)) ?_; (with_reducible refine (impl_AreFuses.calls k a0 _ _ l1 true _ ?side1 ?side2 A4.out).mono ?_); (case side1 => repeat (first | exact HR1.out | (with_reducible refine Kd.C_alloc ?_ _) | (with_reducible refine Kd.C_drewN ?_ _) | (with_reducible refine Kd.C_drew ?_))); (case side2 => exact HC1.out); rintro e w11 ⟨rfl, hb⟩; refine ⟨_, rfl, ?_⟩; have n0_ := Aside0.mk (below_step (by repeat (first | (with_reducible first | exact HB.out | apply below_alloc | apply pw_below_drewN | apply below_drew1) | exact HB.out)) hb); clear HB; have HB := n0_; clear n0_; (try clear hb); (try clear hb2); (try clear hk); (try clear hi)) | ((with_reducible refine gate_callee (f := 40) rfl ?_); refine goesL_ (some 15) rfl rfl Try.func40 (by kernel_rfl) rfl #[.int .i64 a2, .int .i64 (l1.length : Int)] rfl (by (try simp only [List.map_toArray, List.map_cons, List.map_nil]); first | done | rfl | (simp only [List.length_drop, List.length_take]; rfl)) ?_; (with_reducible refine (impl_isIndex.calls a2 (l1.length : Int) false _ A6.out).mono ?_); rintro e w' ⟨rfl, ⟨nd, rfl⟩⟩; refine ⟨_, rfl, ?_⟩))
   go_ret2
   exact ⟨_, by first | rfl | (simp [errW_none, errW_some] <;> rfl) | (simp [*, errW_none, errW_some] <;> rfl), by first | exact Kd.R_nil _ _ _ _ _ | exact Kd.N_nil _ _ _ _ _ | exact Kd.V_nil _ _ _ _ _ | exact Kd.Q_nil _ _ _ _ _ | exact Kd.S_nil _ _ _ _ _, by repeat (first | (with_reducible first | exact HB.out | apply below_alloc | apply pw_below_drewN | apply below_drew1) | exact HB.out)⟩
 ·replace c5 := Bool.eq_false_iff.mpr c5
  subst c5
  have H1 : (some (([] : List (S39)), 1)) = some (r1, r2) := by rw [if_neg (show ¬ (false = true) by decide)] at H; exact H
  clear H
  have H := H1
  clear H1
  simp only [Option.some.injEq, Prod.mk.injEq] at H
  obtain ⟨rfl, rfl⟩ := H
  go_enter Try.func14, Try.ntmps14
  go_wp2_with (first | ((with_reducible refine gate_callee (f := 20) rfl ?_); refine goesL_ (some 10) rfl rfl Try.func20 (by kernel_rfl) rfl #[.int .i64 a0, .slice A1 l1.length c1] rfl (by (try simp only [List.map_toArray, List.map_cons, List.map_nil]); first | done | rfl | (simp only [List.length_drop, List.length_take]; rfl)) ?_; (with_reducible refine (impl_AreFuses.calls k a0 _ _ l1 false _ ?side1 ?side2 A4.out).mono ?_); (case side1 => repeat (first | exact HR1.out | (with_reducible refine Kd.C_alloc ?_ _) | (with_reducible refine Kd.C_drewN ?_ _) | (with_reducible refine Kd.C_drew ?_))); (case side2 => exact HC1.out); rintro e w12 ⟨rfl, hb⟩; refine ⟨_, rfl, ?_⟩; have n0_ := Aside0.mk (below_step (by repeat (first | (with_reducible first | exact HB.out | apply below_alloc | apply pw_below_drewN | apply below_drew1) | exact HB.out)) hb); clear HB; have HB := n0_; clear n0_; (try clear hb); (try clear hb2); (try clear hk); (try clear hi)))
  go_ret2
  exact ⟨_, by first | rfl | (simp [errW_none, errW_some] <;> rfl) | (simp [*, errW_none, errW_some] <;> rfl), by first | exact Kd.R_nil _ _ _ _ _ | exact Kd.N_nil _ _ _ _ _ | exact Kd.V_nil _ _ _ _ _ | exact Kd.Q_nil _ _ _ _ _ | exact Kd.S_nil _ _ _ _ _, by repeat (first | (with_reducible first | exact HB.out | apply below_alloc | apply pw_below_drewN | apply below_drew1) | exact HB.out)⟩
end Go.Proofs.Ytlnfjhahnacmiaa.F
namespace Go.Proofs.Ytlnfjhahnacmiaa.F
open Go.RowKit Go.Proofs.YtlnfjhahnacmiaaW.PrintWords Go.Proofs.YtlnfjhahnacmiaaW.PrintLast Go.Proofs.YtlnfjhahnacmiaaW.PrintMore
attribute [local go_sem] max2_int min2_int max_two min_two max_three min_three max_four min_four   -- for this text's walks alone
set_option linter.unusedVariables false
set_option linter.unusedSimpArgs false
def laws_hasInt.l0 : Nat → List Int → Int → Int → Option (Bool)
 | 0, _, _, _ => none
 | k + 1, x0, x1, x5 => if x5 < (x0.length : Int) then (if 0 ≤ x5 then (if (rd x0 x5) = x1 then (some true) else (laws_hasInt.l0 k x0 x1 (wrap64 (x5 + 1)))) else (none)) else (some false)
def laws_hasInt.f (k : Nat) (l0 : List Int) (a1 : Int) : Option (Bool) := laws_hasInt.l0 k l0 a1 0
theorem laws_hasInt.mono_l : ∀ k, (∀ y0 y1 y2, LeO (laws_hasInt.l0 k y0 y1 y2) (laws_hasInt.l0 (k + 1) y0 y1 y2))
 | 0 => fun _ _ _ r h => by simp [laws_hasInt.l0] at h
 | k + 1 => by
  have ih0 := laws_hasInt.mono_l k
  ·intro y0 y1 y2
   unfold laws_hasInt.l0
   repeat' first
   | (with_reducible exact ih0 _ _ _)
   | (with_reducible exact LeO.refl _)
   | (with_reducible exact LeO.none _)
   | (with_reducible refine LeO.ite ?_ ?_)
   | (with_reducible refine LeO.bind ?_ (fun _ => ?_))
   | exact ih0 _ _ _
   | exact LeO.none _
   | refine LeO.ite ?_ ?_
   | refine LeO.bind ?_ (fun _ => ?_)
theorem laws_hasInt.mono : ∀ a0 a1 k, LeO (laws_hasInt.f k a0 a1) (laws_hasInt.f (k + 1) a0 a1) := by
 intro a0 a1 k
 have ih0 := laws_hasInt.mono_l k
 unfold laws_hasInt.f
 repeat' first
   | (with_reducible exact ih0 _ _ _)
   | (with_reducible exact LeO.refl _)
   | (with_reducible exact LeO.none _)
   | (with_reducible refine LeO.ite ?_ ?_)
   | (with_reducible refine LeO.bind ?_ (fun _ => ?_))
   | exact ih0 _ _ _
   | exact LeO.none _
   | refine LeO.ite ?_ ?_
   | refine LeO.bind ?_ (fun _ => ?_)
set_option maxHeartbeats 8000000 in
set_option maxRecDepth 100000 in
theorem laws_hasInt.calls (k : Nat) (A0 : Option Addr) (c0 : Nat) (l0 : List Int) (a1 : Int) (r : Bool) (w : World) (hr0 : Kd.C (Kd.int .i64) w A0 l0.length l0) (hc0 : l0.length ≤ c0) (h : laws_hasInt.f k l0 a1 = some r) :
  Calls Try.prog 15 #[.slice A0 l0.length c0, .int .i64 a1] w fun e w' => e = .returned (.bool r) ∧ Drawn0 w w' := by
 have HR0 := Aside0.mk hr0
 have HC0 := Aside0.mk hc0
 clear hr0 hc0
 have H : (laws_hasInt.l0 k l0 a1 0) = some r := h
 clear h
 have H' := Aside0.mk H
 clear H
 go_enter Try.func15, Try.ntmps15
 go_wp2
 go_loopg [5] k (fun kq v5 w' => ∃ (x5_1 : Int), v5 = .int .i64 x5_1 ∧ Aside0 (laws_hasInt.l0 kq l0 a1 x5_1 = some r) ∧ Aside0 (kq ≤ k) ∧ Drawn0 w w')
 case atStart => exact ⟨(0), (by first | rfl | (simp; done) | (simp [*]; done)), H', ⟨Nat.le_refl _⟩, by repeat (first | exact Drawn0.refl _ | apply Drawn0.step)⟩
 case round =>
  clear H'
  try clear c1
  try clear p2
  obtain ⟨x5_1, rfl, HA, HK1, ⟨m1, rfl⟩⟩ := hrel
  cases gk with
  | zero => exact absurd HA.out (by simp [laws_hasInt.l0])
  | succ k1 =>
   have H := HA.out
   clear HA
   simp only [laws_hasInt.l0] at H
   by_cases c3 : x5_1 < (l0.length : Int)
   ·rw [if_pos c3] at H
    have c3b0 : decide (x5_1 < (l0.length : Int)) = true := decide_eq_true c3
    clear c3
    by_cases c4 : 0 ≤ x5_1
    ·rw [if_pos c4] at H
     have c4b0 : decide (0 ≤ x5_1) = true := decide_eq_true c4
     clear c4
     by_cases c5 : (rd l0 x5_1) = a1
     ·rw [if_pos c5] at H
      have c5b0 : ((rd l0 x5_1) == a1) = true := beq_iff_eq.mpr c5
      have c5b1 : ((rd l0 x5_1) != a1) = false := bne_eq_false_iff_eq.mpr c5
      clear c5
      obtain rfl := Option.some.inj H
      have p406 : 0 ≤ (x5_1 : Int) := of_decide_eq_true (by first | (with_reducible assumption) | assumption)
      have q406 : x5_1 < (l0.length : Int) := of_decide_eq_true (by first | (with_reducible assumption) | assumption)
      obtain ⟨ad406, e406, hx406_0⟩ := Kd.at_int HR0.out x5_1 p406 q406
      cases e406
      replace p406 := eq_true p406
      replace q406 := eq_true q406
      go_wp2
      go_ret
      exact ⟨by first | rfl | (simp; done) | (simp [*]; done), by repeat (first | exact Drawn0.refl _ | apply Drawn0.step)⟩
     ·rw [if_neg c5] at H
      have c5b0 : ((rd l0 x5_1) == a1) = false := beq_eq_false_iff_ne.mpr c5
      have c5b1 : ((rd l0 x5_1) != a1) = true := bne_iff_ne.mpr c5
      have H' := Aside0.mk H
      clear H
      have p406 : 0 ≤ (x5_1 : Int) := of_decide_eq_true (by first | (with_reducible assumption) | assumption)
      have q406 : x5_1 < (l0.length : Int) := of_decide_eq_true (by first | (with_reducible assumption) | assumption)
      obtain ⟨ad406, e406, hx406_0⟩ := Kd.at_int HR0.out x5_1 p406 q406
      cases e406
      replace p406 := eq_true p406
      replace q406 := eq_true q406
      go_wp2
      go_roundg k1
      case measure => have := HK1.out; omega
      case rel => exact ⟨(wrap64 (x5_1 + 1)), (by first | rfl | (simp; done) | (simp [*]; done)), H', ⟨by have := HK1.out; omega⟩, by repeat (first | exact Drawn0.refl _ | apply Drawn0.step)⟩
    ·rw [if_neg c4] at H
     exact absurd H (by simp)
   ·rw [if_neg c3] at H
    have c3b0 : decide (x5_1 < (l0.length : Int)) = false := decide_eq_false c3
    clear c3
    obtain rfl := Option.some.inj H
    go_wp2
    go_ret
    exact ⟨by first | rfl | (simp; done) | (simp [*]; done), by repeat (first | exact Drawn0.refl _ | apply Drawn0.step)⟩
end Go.Proofs.Ytlnfjhahnacmiaa.F
namespace Go.Proofs.Ytlnfjhahnacmiaa.F
open Go.RowKit Go.Proofs.YtlnfjhahnacmiaaW.PrintWords Go.Proofs.YtlnfjhahnacmiaaW.PrintLast Go.Proofs.YtlnfjhahnacmiaaW.PrintMore
attribute [local go_sem] max2_int min2_int max_two min_two max_three min_three max_four min_four   -- for this text's walks alone
set_option linter.unusedVariables false
set_option linter.unusedSimpArgs false
mutual
def laws_FnNeeded.j0 : Nat → Int → List (S39) → Int → List Int → Int → List Int → Bool → Option (Bool)
 | 0, _, _, _, _, _, _, _ => none
 | k + 1, x3, x4, x5, x6, x7, x10, x76 => if x76 = true then (some false) else (if x7 = 0 then ((impl_LitBetween.f k x3 x4 x5).bind fun bt431 => (laws_FnNeeded.l0 k x3 x4 x5 x6 x10 bt431.1 bt431.2.1 bt431.2.2 0)) else (some true))
def laws_FnNeeded.l0 : Nat → Int → List (S39) → Int → List Int → List Int → Int → Int → Int → Int → Option (Bool)
 | 0, _, _, _, _, _, _, _, _, _ => none
 | k + 1, x3, x4, x5, x6, x10, x14, x15, x16, x17 => if x17 < (x4.length : Int) then ((impl_WithoutFuse.f k x3 x4 x17).bind fun bt434 => ((impl_LitBetween.f k x3 bt434.1 x5).bind fun bt438 => (if x16 = 0 then (if bt434.2 = 0 then ((laws_hasInt.f k x6 x17).bind fun t441 => (laws_FnNeeded.j2 k x3 x4 x5 x6 x10 x14 x15 x16 x17 bt438.1 bt438.2.1 bt438.2.2 (t441 != (bt438.2.2 == 4)))) else (laws_FnNeeded.j2 k x3 x4 x5 x6 x10 x14 x15 x16 x17 bt438.1 bt438.2.1 bt438.2.2 true)) else (laws_FnNeeded.j2 k x3 x4 x5 x6 x10 x14 x15 x16 x17 bt438.1 bt438.2.1 bt438.2.2 true)))) else (some true)
def laws_FnNeeded.j2 : Nat → Int → List (S39) → Int → List Int → List Int → Int → Int → Int → Int → Int → Int → Int → Bool → Option (Bool)
 | 0, _, _, _, _, _, _, _, _, _, _, _, _, _ => none
 | k + 1, x3, x4, x5, x6, x10, x14, x15, x16, x17, x20, x21, x22, x121 => if x121 = true then (some false) else ((laws_hasInt.f k x10 x17).bind fun t442 => (if t442 = true then (if x22 = 0 then (if x20 = x14 then (if x21 = x15 then (laws_FnNeeded.l0 k x3 x4 x5 x6 x10 x14 x15 x16 (wrap64 (x17 + 1))) else (some false)) else (some false)) else (some false)) else (laws_FnNeeded.l0 k x3 x4 x5 x6 x10 x14 x15 x16 (wrap64 (x17 + 1)))))
end
def laws_FnNeeded.f (k : Nat) (l0 : List Int) : Option (Bool) := (laws_big.f l0).bind fun t407 => (if t407 = true then (some true) else ((spec_DrawNeededFuses.f k l0).bind fun bt408 => ((impl_NeededFuses.f k bt408.1 bt408.2.1 bt408.2.2).bind fun bt413 => ((spec_NeededFuses.f k bt408.1 bt408.2.1 bt408.2.2).bind fun bt417 => ((impl_IdleFuses.f k bt408.1 bt408.2.1).bind fun bt421 => ((spec_IdleFuses.f k bt408.1 bt408.2.1).bind fun bt425 => (if bt413.2 = bt417.2 then ((laws_likeInts.f k bt413.1 bt417.1).bind fun t429 => (if t429 = true then (if bt421.2 = bt425.2 then ((laws_likeInts.f k bt421.1 bt425.1).bind fun t430 => (laws_FnNeeded.j0 k bt408.1 bt408.2.1 bt408.2.2 bt413.1 bt413.2 bt421.1 (!t430))) else (laws_FnNeeded.j0 k bt408.1 bt408.2.1 bt408.2.2 bt413.1 bt413.2 bt421.1 true)) else (laws_FnNeeded.j0 k bt408.1 bt408.2.1 bt408.2.2 bt413.1 bt413.2 bt421.1 true))) else (laws_FnNeeded.j0 k bt408.1 bt408.2.1 bt408.2.2 bt413.1 bt413.2 bt421.1 true))))))))
theorem laws_FnNeeded.mono_l : ∀ k, (∀ y0 y1 y2 y3 y4 y5 y6, LeO (laws_FnNeeded.j0 k y0 y1 y2 y3 y4 y5 y6) (laws_FnNeeded.j0 (k + 1) y0 y1 y2 y3 y4 y5 y6)) ∧ (∀ y0 y1 y2 y3 y4 y5 y6 y7 y8, LeO (laws_FnNeeded.l0 k y0 y1 y2 y3 y4 y5 y6 y7 y8) (laws_FnNeeded.l0 (k + 1) y0 y1 y2 y3 y4 y5 y6 y7 y8)) ∧ (∀ y0 y1 y2 y3 y4 y5 y6 y7 y8 y9 y10 y11 y12, LeO (laws_FnNeeded.j2 k y0 y1 y2 y3 y4 y5 y6 y7 y8 y9 y10 y11 y12) (laws_FnNeeded.j2 (k + 1) y0 y1 y2 y3 y4 y5 y6 y7 y8 y9 y10 y11 y12))
 | 0 => ⟨fun _ _ _ _ _ _ _ r h => by simp [laws_FnNeeded.j0] at h, fun _ _ _ _ _ _ _ _ _ r h => by simp [laws_FnNeeded.l0] at h, fun _ _ _ _ _ _ _ _ _ _ _ _ _ r h => by simp [laws_FnNeeded.j2] at h⟩
 | k + 1 => by
  obtain ⟨ih0, ih1, ih2⟩ := laws_FnNeeded.mono_l k
  refine ⟨?_, ?_, ?_⟩
  ·intro y0 y1 y2 y3 y4 y5 y6
   unfold laws_FnNeeded.j0
   repeat' first
   | (with_reducible exact ih0 _ _ _ _ _ _ _)
   | (with_reducible exact ih1 _ _ _ _ _ _ _ _ _)
   | (with_reducible exact ih2 _ _ _ _ _ _ _ _ _ _ _ _ _)
   | (with_reducible exact impl_IdleFuses.mono _ _ _)
   | (with_reducible exact impl_LitBetween.mono _ _ _ _)
   | (with_reducible exact impl_NeededFuses.mono _ _ _ _)
   | (with_reducible exact impl_WithoutFuse.mono _ _ _ _)
   | (with_reducible exact laws_hasInt.mono _ _ _)
   | (with_reducible exact laws_likeInts.mono _ _ _)
   | (with_reducible exact spec_DrawNeededFuses.mono _ _)
   | (with_reducible exact spec_IdleFuses.mono _ _ _)
   | (with_reducible exact spec_NeededFuses.mono _ _ _ _)
   | (with_reducible exact LeO.refl _)
   | (with_reducible exact LeO.none _)
   | (with_reducible refine LeO.ite ?_ ?_)
   | (with_reducible refine LeO.bind ?_ (fun _ => ?_))
   | exact ih0 _ _ _ _ _ _ _
   | exact ih1 _ _ _ _ _ _ _ _ _
   | exact ih2 _ _ _ _ _ _ _ _ _ _ _ _ _
   | exact impl_IdleFuses.mono _ _ _
   | exact impl_LitBetween.mono _ _ _ _
   | exact impl_NeededFuses.mono _ _ _ _
   | exact impl_WithoutFuse.mono _ _ _ _
   | exact laws_hasInt.mono _ _ _
   | exact laws_likeInts.mono _ _ _
   | exact spec_DrawNeededFuses.mono _ _
   | exact spec_IdleFuses.mono _ _ _
   | exact spec_NeededFuses.mono _ _ _ _
   | exact LeO.none _
   | refine LeO.ite ?_ ?_
   | refine LeO.bind ?_ (fun _ => ?_)
  ·intro y0 y1 y2 y3 y4 y5 y6 y7 y8
   unfold laws_FnNeeded.l0
   repeat' first
   | (with_reducible exact ih0 _ _ _ _ _ _ _)
   | (with_reducible exact ih1 _ _ _ _ _ _ _ _ _)
   | (with_reducible exact ih2 _ _ _ _ _ _ _ _ _ _ _ _ _)
   | (with_reducible exact impl_IdleFuses.mono _ _ _)
   | (with_reducible exact impl_LitBetween.mono _ _ _ _)
   | (with_reducible exact impl_NeededFuses.mono _ _ _ _)
   | (with_reducible exact impl_WithoutFuse.mono _ _ _ _)
   | (with_reducible exact laws_hasInt.mono _ _ _)
   | (with_reducible exact laws_likeInts.mono _ _ _)
   | (with_reducible exact spec_DrawNeededFuses.mono _ _)
   | (with_reducible exact spec_IdleFuses.mono _ _ _)
   | (with_reducible exact spec_NeededFuses.mono _ _ _ _)
   | (with_reducible exact LeO.refl _)
   | (with_reducible exact LeO.none _)
   | (with_reducible refine LeO.ite ?_ ?_)
   | (with_reducible refine LeO.bind ?_ (fun _ => ?_))
   | exact ih0 _ _ _ _ _ _ _
   | exact ih1 _ _ _ _ _ _ _ _ _
   | exact ih2 _ _ _ _ _ _ _ _ _ _ _ _ _
   | exact impl_IdleFuses.mono _ _ _
   | exact impl_LitBetween.mono _ _ _ _
   | exact impl_NeededFuses.mono _ _ _ _
   | exact impl_WithoutFuse.mono _ _ _ _
   | exact laws_hasInt.mono _ _ _
   | exact laws_likeInts.mono _ _ _
   | exact spec_DrawNeededFuses.mono _ _
   | exact spec_IdleFuses.mono _ _ _
   | exact spec_NeededFuses.mono _ _ _ _
   | exact LeO.none _
   | refine LeO.ite ?_ ?_
   | refine LeO.bind ?_ (fun _ => ?_)
  ·intro y0 y1 y2 y3 y4 y5 y6 y7 y8 y9 y10 y11 y12
   unfold laws_FnNeeded.j2
   repeat' first
   | (with_reducible exact ih0 _ _ _ _ _ _ _)
   | (with_reducible exact ih1 _ _ _ _ _ _ _ _ _)
   | (with_reducible exact ih2 _ _ _ _ _ _ _ _ _ _ _ _ _)
   | (with_reducible exact impl_IdleFuses.mono _ _ _)
   | (with_reducible exact impl_LitBetween.mono _ _ _ _)
   | (with_reducible exact impl_NeededFuses.mono _ _ _ _)
   | (with_reducible exact impl_WithoutFuse.mono _ _ _ _)
   | (with_reducible exact laws_hasInt.mono _ _ _)
   | (with_reducible exact laws_likeInts.mono _ _ _)
   | (with_reducible exact spec_DrawNeededFuses.mono _ _)
   | (with_reducible exact spec_IdleFuses.mono _ _ _)
   | (with_reducible exact spec_NeededFuses.mono _ _ _ _)
   | (with_reducible exact LeO.refl _)
   | (with_reducible exact LeO.none _)
   | (with_reducible refine LeO.ite ?_ ?_)
   | (with_reducible refine LeO.bind ?_ (fun _ => ?_))
   | exact ih0 _ _ _ _ _ _ _
   | exact ih1 _ _ _ _ _ _ _ _ _
   | exact ih2 _ _ _ _ _ _ _ _ _ _ _ _ _
   | exact impl_IdleFuses.mono _ _ _
   | exact impl_LitBetween.mono _ _ _ _
   | exact impl_NeededFuses.mono _ _ _ _
   | exact impl_WithoutFuse.mono _ _ _ _
   | exact laws_hasInt.mono _ _ _
   | exact laws_likeInts.mono _ _ _
   | exact spec_DrawNeededFuses.mono _ _
   | exact spec_IdleFuses.mono _ _ _
   | exact spec_NeededFuses.mono _ _ _ _
   | exact LeO.none _
   | refine LeO.ite ?_ ?_
   | refine LeO.bind ?_ (fun _ => ?_)
theorem laws_FnNeeded.mono : ∀ a0 k, LeO (laws_FnNeeded.f k a0) (laws_FnNeeded.f (k + 1) a0) := by
 intro a0 k
 obtain ⟨ih0, ih1, ih2⟩ := laws_FnNeeded.mono_l k
 unfold laws_FnNeeded.f
 repeat' first
   | (with_reducible exact ih0 _ _ _ _ _ _ _)
   | (with_reducible exact ih1 _ _ _ _ _ _ _ _ _)
   | (with_reducible exact ih2 _ _ _ _ _ _ _ _ _ _ _ _ _)
   | (with_reducible exact impl_IdleFuses.mono _ _ _)
   | (with_reducible exact impl_LitBetween.mono _ _ _ _)
   | (with_reducible exact impl_NeededFuses.mono _ _ _ _)
   | (with_reducible exact impl_WithoutFuse.mono _ _ _ _)
   | (with_reducible exact laws_hasInt.mono _ _ _)
   | (with_reducible exact laws_likeInts.mono _ _ _)
   | (with_reducible exact spec_DrawNeededFuses.mono _ _)
   | (with_reducible exact spec_IdleFuses.mono _ _ _)
   | (with_reducible exact spec_NeededFuses.mono _ _ _ _)
   | (with_reducible exact LeO.refl _)
   | (with_reducible exact LeO.none _)
   | (with_reducible refine LeO.ite ?_ ?_)
   | (with_reducible refine LeO.bind ?_ (fun _ => ?_))
   | exact ih0 _ _ _ _ _ _ _
   | exact ih1 _ _ _ _ _ _ _ _ _
   | exact ih2 _ _ _ _ _ _ _ _ _ _ _ _ _
   | exact impl_IdleFuses.mono _ _ _
   | exact impl_LitBetween.mono _ _ _ _
   | exact impl_NeededFuses.mono _ _ _ _
   | exact impl_WithoutFuse.mono _ _ _ _
   | exact laws_hasInt.mono _ _ _
   | exact laws_likeInts.mono _ _ _
   | exact spec_DrawNeededFuses.mono _ _
   | exact spec_IdleFuses.mono _ _ _
   | exact spec_NeededFuses.mono _ _ _ _
   | exact LeO.none _
   | refine LeO.ite ?_ ?_
   | refine LeO.bind ?_ (fun _ => ?_)
theorem laws_FnNeeded.j0_true (k : Nat) (x3 : Int) (x4 : List (S39)) (x5 : Int) (x6 : List Int) (x7 : Int) (x10 : List Int) : ¬ laws_FnNeeded.j0 k x3 x4 x5 x6 x7 x10 true = some true := by
 cases k with
 | zero => simp [laws_FnNeeded.j0]
 | succ k => simp [laws_FnNeeded.j0]
theorem laws_FnNeeded.j2_true (k : Nat) (x3 : Int) (x4 : List (S39)) (x5 : Int) (x6 : List Int) (x10 : List Int) (x14 : Int) (x15 : Int) (x16 : Int) (x17 : Int) (x20 : Int) (x21 : Int) (x22 : Int) : ¬ laws_FnNeeded.j2 k x3 x4 x5 x6 x10 x14 x15 x16 x17 x20 x21 x22 true = some true := by
 cases k with
 | zero => simp [laws_FnNeeded.j2]
 | succ k => simp [laws_FnNeeded.j2]
set_option maxHeartbeats 8000000 in
set_option maxRecDepth 100000 in
theorem laws_FnNeeded.calls (k : Nat) (A0 : Option Addr) (c0 : Nat) (l0 : List Int) (r : Bool) (w : World) (hr0 : Kd.C (Kd.int .u8) w A0 l0.length l0) (hc0 : l0.length ≤ c0) (h : laws_FnNeeded.f k l0 = some r) (hr_ : r = true) :
  Calls Try.prog 3 #[.slice A0 l0.length c0] w fun e w' => e = .returned (.bool r) ∧ Below w.heap.size w w' := by
 have HR_ := Aside0.mk hr_
 clear hr_
 have HR0 := Aside0.mk hr0
 have HC0 := Aside0.mk hc0
 clear hr0 hc0
 have HB := Aside0.mk (Below.refl w.heap.size w)
 have H : ((laws_big.f l0).bind fun t407 => (if t407 = true then (some true) else ((spec_DrawNeededFuses.f k l0).bind fun bt408 => ((impl_NeededFuses.f k bt408.1 bt408.2.1 bt408.2.2).bind fun bt413 => ((spec_NeededFuses.f k bt408.1 bt408.2.1 bt408.2.2).bind fun bt417 => ((impl_IdleFuses.f k bt408.1 bt408.2.1).bind fun bt421 => ((spec_IdleFuses.f k bt408.1 bt408.2.1).bind fun bt425 => (if bt413.2 = bt417.2 then ((laws_likeInts.f k bt413.1 bt417.1).bind fun t429 => (if t429 = true then (if bt421.2 = bt425.2 then ((laws_likeInts.f k bt421.1 bt425.1).bind fun t430 => (laws_FnNeeded.j0 k bt408.1 bt408.2.1 bt408.2.2 bt413.1 bt413.2 bt421.1 (!t430))) else (laws_FnNeeded.j0 k bt408.1 bt408.2.1 bt408.2.2 bt413.1 bt413.2 bt421.1 true)) else (laws_FnNeeded.j0 k bt408.1 bt408.2.1 bt408.2.2 bt413.1 bt413.2 bt421.1 true))) else (laws_FnNeeded.j0 k bt408.1 bt408.2.1 bt408.2.2 bt413.1 bt413.2 bt421.1 true))))))))) = some r := h
 clear h
 replace H := Option.bind_eq_some_iff.mp H
 obtain ⟨t407, A20, H⟩ := H
 replace H : (if t407 = true then (some true) else ((spec_DrawNeededFuses.f k l0).bind fun bt408 => ((impl_NeededFuses.f k bt408.1 bt408.2.1 bt408.2.2).bind fun bt413 => ((spec_NeededFuses.f k bt408.1 bt408.2.1 bt408.2.2).bind fun bt417 => ((impl_IdleFuses.f k bt408.1 bt408.2.1).bind fun bt421 => ((spec_IdleFuses.f k bt408.1 bt408.2.1).bind fun bt425 => (if bt413.2 = bt417.2 then ((laws_likeInts.f k bt413.1 bt417.1).bind fun t429 => (if t429 = true then (if bt421.2 = bt425.2 then ((laws_likeInts.f k bt421.1 bt425.1).bind fun t430 => (laws_FnNeeded.j0 k bt408.1 bt408.2.1 bt408.2.2 bt413.1 bt413.2 bt421.1 (!t430))) else (laws_FnNeeded.j0 k bt408.1 bt408.2.1 bt408.2.2 bt413.1 bt413.2 bt421.1 true)) else (laws_FnNeeded.j0 k bt408.1 bt408.2.1 bt408.2.2 bt413.1 bt413.2 bt421.1 true))) else (laws_FnNeeded.j0 k bt408.1 bt408.2.1 bt408.2.2 bt413.1 bt413.2 bt421.1 true)))))))) = some r := H
 have A2 := Aside0.mk A20
 clear A20
 by_cases c3 : t407 = true
 ·subst c3
  have H1 : (some true) = some r := by rw [if_pos rfl] at H; exact H
  clear H
  have H := H1
  clear H1
  obtain rfl := Option.some.inj H
  go_enter Try.func3, Try.ntmps3
  go_wp2_with (first | ((with_reducible refine gate_callee (f := 6) rfl ?_); refine goesL_ (some 24) rfl rfl Try.func6 (by kernel_rfl) rfl #[.slice A0 l0.length c0] rfl (by (try simp only [List.map_toArray, List.map_cons, List.map_nil]); first | done | rfl | (simp only [List.length_drop, List.length_take]; rfl)) ?_; (with_reducible refine (laws_big.calls _ _ l0 true _ ?side1 ?side2 A2.out).mono ?_); (case side1 => repeat (first | exact HR0.out | (with_reducible refine Kd.C_alloc ?_ _) | (with_reducible refine Kd.C_drewN ?_ _) | (with_reducible refine Kd.C_drew ?_))); (case side2 => exact HC0.out); rintro e w' ⟨rfl, ⟨nd, rfl⟩⟩; refine ⟨_, rfl, ?_⟩))
  go_ret
  exact ⟨by first | rfl | (simp [errW_none, errW_some] <;> rfl) | (simp [*, errW_none, errW_some] <;> rfl), by repeat (first | (with_reducible first | exact HB.out | apply below_alloc | apply pw_below_drewN | apply below_drew1) | exact HB.out)⟩
 ·replace c3 := Bool.eq_false_iff.mpr c3
  subst c3
  have H1 : ((spec_DrawNeededFuses.f k l0).bind fun bt408 => ((impl_NeededFuses.f k bt408.1 bt408.2.1 bt408.2.2).bind fun bt413 => ((spec_NeededFuses.f k bt408.1 bt408.2.1 bt408.2.2).bind fun bt417 => ((impl_IdleFuses.f k bt408.1 bt408.2.1).bind fun bt421 => ((spec_IdleFuses.f k bt408.1 bt408.2.1).bind fun bt425 => (if bt413.2 = bt417.2 then ((laws_likeInts.f k bt413.1 bt417.1).bind fun t429 => (if t429 = true then (if bt421.2 = bt425.2 then ((laws_likeInts.f k bt421.1 bt425.1).bind fun t430 => (laws_FnNeeded.j0 k bt408.1 bt408.2.1 bt408.2.2 bt413.1 bt413.2 bt421.1 (!t430))) else (laws_FnNeeded.j0 k bt408.1 bt408.2.1 bt408.2.2 bt413.1 bt413.2 bt421.1 true)) else (laws_FnNeeded.j0 k bt408.1 bt408.2.1 bt408.2.2 bt413.1 bt413.2 bt421.1 true))) else (laws_FnNeeded.j0 k bt408.1 bt408.2.1 bt408.2.2 bt413.1 bt413.2 bt421.1 true))))))) = some r := by rw [if_neg (show ¬ (false = true) by decide)] at H; exact H
  clear H
  have H := H1
  clear H1
  replace H := Option.bind_eq_some_iff.mp H
  obtain ⟨⟨t408, t409, t410⟩, A40, H⟩ := H
  replace H : ((impl_NeededFuses.f k t408 t409 t410).bind fun bt413 => ((spec_NeededFuses.f k t408 t409 t410).bind fun bt417 => ((impl_IdleFuses.f k t408 t409).bind fun bt421 => ((spec_IdleFuses.f k t408 t409).bind fun bt425 => (if bt413.2 = bt417.2 then ((laws_likeInts.f k bt413.1 bt417.1).bind fun t429 => (if t429 = true then (if bt421.2 = bt425.2 then ((laws_likeInts.f k bt421.1 bt425.1).bind fun t430 => (laws_FnNeeded.j0 k t408 t409 t410 bt413.1 bt413.2 bt421.1 (!t430))) else (laws_FnNeeded.j0 k t408 t409 t410 bt413.1 bt413.2 bt421.1 true)) else (laws_FnNeeded.j0 k t408 t409 t410 bt413.1 bt413.2 bt421.1 true))) else (laws_FnNeeded.j0 k t408 t409 t410 bt413.1 bt413.2 bt421.1 true)))))) = some r := H
  have A4 := Aside0.mk A40
  clear A40
  replace H := Option.bind_eq_some_iff.mp H
  obtain ⟨⟨t413, t414⟩, A50, H⟩ := H
  replace H : ((spec_NeededFuses.f k t408 t409 t410).bind fun bt417 => ((impl_IdleFuses.f k t408 t409).bind fun bt421 => ((spec_IdleFuses.f k t408 t409).bind fun bt425 => (if t414 = bt417.2 then ((laws_likeInts.f k t413 bt417.1).bind fun t429 => (if t429 = true then (if bt421.2 = bt425.2 then ((laws_likeInts.f k bt421.1 bt425.1).bind fun t430 => (laws_FnNeeded.j0 k t408 t409 t410 t413 t414 bt421.1 (!t430))) else (laws_FnNeeded.j0 k t408 t409 t410 t413 t414 bt421.1 true)) else (laws_FnNeeded.j0 k t408 t409 t410 t413 t414 bt421.1 true))) else (laws_FnNeeded.j0 k t408 t409 t410 t413 t414 bt421.1 true))))) = some r := H
  have A5 := Aside0.mk A50
  clear A50
  replace H := Option.bind_eq_some_iff.mp H
  obtain ⟨⟨t417, t418⟩, A60, H⟩ := H
  replace H : ((impl_IdleFuses.f k t408 t409).bind fun bt421 => ((spec_IdleFuses.f k t408 t409).bind fun bt425 => (if t414 = t418 then ((laws_likeInts.f k t413 t417).bind fun t429 => (if t429 = true then (if bt421.2 = bt425.2 then ((laws_likeInts.f k bt421.1 bt425.1).bind fun t430 => (laws_FnNeeded.j0 k t408 t409 t410 t413 t414 bt421.1 (!t430))) else (laws_FnNeeded.j0 k t408 t409 t410 t413 t414 bt421.1 true)) else (laws_FnNeeded.j0 k t408 t409 t410 t413 t414 bt421.1 true))) else (laws_FnNeeded.j0 k t408 t409 t410 t413 t414 bt421.1 true)))) = some r := H
  have A6 := Aside0.mk A60
  clear A60
  replace H := Option.bind_eq_some_iff.mp H
  obtain ⟨⟨t421, t422⟩, A70, H⟩ := H
  replace H : ((spec_IdleFuses.f k t408 t409).bind fun bt425 => (if t414 = t418 then ((laws_likeInts.f k t413 t417).bind fun t429 => (if t429 = true then (if t422 = bt425.2 then ((laws_likeInts.f k t421 bt425.1).bind fun t430 => (laws_FnNeeded.j0 k t408 t409 t410 t413 t414 t421 (!t430))) else (laws_FnNeeded.j0 k t408 t409 t410 t413 t414 t421 true)) else (laws_FnNeeded.j0 k t408 t409 t410 t413 t414 t421 true))) else (laws_FnNeeded.j0 k t408 t409 t410 t413 t414 t421 true))) = some r := H
  have A7 := Aside0.mk A70
  clear A70
  replace H := Option.bind_eq_some_iff.mp H
  obtain ⟨⟨t425, t426⟩, A80, H⟩ := H
  replace H : (if t414 = t418 then ((laws_likeInts.f k t413 t417).bind fun t429 => (if t429 = true then (if t422 = t426 then ((laws_likeInts.f k t421 t425).bind fun t430 => (laws_FnNeeded.j0 k t408 t409 t410 t413 t414 t421 (!t430))) else (laws_FnNeeded.j0 k t408 t409 t410 t413 t414 t421 true)) else (laws_FnNeeded.j0 k t408 t409 t410 t413 t414 t421 true))) else (laws_FnNeeded.j0 k t408 t409 t410 t413 t414 t421 true)) = some r := H
  have A8 := Aside0.mk A80
  clear A80
  have HC9 := Aside0.mk H
  clear H
  go_enter Try.func3, Try.ntmps3
  go_upto_region 8 with (first | ((with_reducible refine gate_callee (f := 6) rfl ?_); refine goesL_ (some 24) rfl rfl Try.func6 (by kernel_rfl) rfl #[.slice A0 l0.length c0] rfl (by (try simp only [List.map_toArray, List.map_cons, List.map_nil]); first | done | rfl | (simp only [List.length_drop, List.length_take]; rfl)) ?_; (with_reducible refine (laws_big.calls _ _ l0 false _ ?side1 ?side2 A2.out).mono ?_); (case side1 => repeat (first | exact HR0.out | (with_reducible refine Kd.C_alloc ?_ _) | (with_reducible refine Kd.C_drewN ?_ _) | (with_reducible refine Kd.C_drew ?_))); (case side2 => exact HC0.out); rintro e w' ⟨rfl, ⟨nd, rfl⟩⟩; refine ⟨_, rfl, ?_⟩) | ((with_reducible refine gate_callee (f := 7) rfl ?_); refine goesL_ (some 27) rfl rfl Try.func7 (by kernel_rfl) rfl #[.slice A0 l0.length c0] rfl (by (try simp only [List.map_toArray, List.map_cons, List.map_nil]); first | done | rfl | (simp only [List.length_drop, List.length_take]; rfl)) ?_; (with_reducible refine (spec_DrawNeededFuses.calls k _ _ l0 t408 t409 t410 _ ?side1 ?side2 A4.out).mono ?_); (case side1 => repeat (first | exact HR0.out | (with_reducible refine Kd.C_alloc ?_ _) | (with_reducible refine Kd.C_drewN ?_ _) | (with_reducible refine Kd.C_drew ?_))); (case side2 => exact HC0.out); rintro e w10 ⟨v411, rfl, ho0, hb⟩; refine ⟨_, rfl, ?_⟩; have n0_ := Aside0.mk (Kd.R_lower ho0 (below_size (by repeat (first | (with_reducible first | exact HB.out | apply below_alloc | apply pw_below_drewN | apply below_drew1) | exact HB.out)))); have n1_ := Aside0.mk (below_step (by repeat (first | (with_reducible first | exact HB.out | apply below_alloc | apply pw_below_drewN | apply below_drew1) | exact HB.out)) hb); clear HB; have HO412 := n0_; have HB := n1_; clear n0_ n1_; (try clear hb); (try clear hb2); (try clear hk); (try clear hi); (try clear ho0); obtain ⟨Ao11, co11, eo11⟩ := Kd.R_slice HO412.out; subst eo11) | ((with_reducible refine gate_callee (f := 8) rfl ?_); refine goesL_ (some 35) rfl rfl Try.func8 (by kernel_rfl) rfl #[.int .i64 t408, .slice Ao11 t409.length co11, .int .i64 t410] rfl (by (try simp only [List.map_toArray, List.map_cons, List.map_nil]); first | done | rfl | (simp only [List.length_drop, List.length_take]; rfl)) ?_; (with_reducible refine (impl_NeededFuses.calls k t408 _ _ t409 t410 t413 t414 _ ?side1 ?side2 A5.out).mono ?_); (case side1 => repeat (first | exact (Kd.R_reads' HO412.out).2.2 | (with_reducible refine Kd.C_alloc ?_ _) | (with_reducible refine Kd.C_drewN ?_ _) | (with_reducible refine Kd.C_drew ?_))); (case side2 => exact (Kd.R_reads' HO412.out).2.1); rintro e w12 ⟨v415, rfl, ho0, hb⟩; refine ⟨_, rfl, ?_⟩; have n0_ := Aside0.mk (Kd.R_below (by (with_reducible repeat (first | apply Kd.R_alloc | apply Kd.R_drewN | apply Kd.R_drew)); exact HO412.out) hb); have n1_ := Aside0.mk (Kd.R_lower ho0 (below_size (by repeat (first | (with_reducible first | exact HB.out | apply below_alloc | apply pw_below_drewN | apply below_drew1) | exact HB.out)))); have n2_ := Aside0.mk (below_step (by repeat (first | (with_reducible first | exact HB.out | apply below_alloc | apply pw_below_drewN | apply below_drew1) | exact HB.out)) hb); clear HO412; clear HB; have HO412 := n0_; have HO416 := n1_; have HB := n2_; clear n0_ n1_ n2_; (try clear hb); (try clear hb2); (try clear hk); (try clear hi); (try clear ho0)) | ((with_reducible refine gate_callee (f := 9) rfl ?_); refine goesL_ (some 42) rfl rfl Try.func9 (by kernel_rfl) rfl #[.int .i64 t408, .slice Ao11 t409.length co11, .int .i64 t410] rfl (by (try simp only [List.map_toArray, List.map_cons, List.map_nil]); first | done | rfl | (simp only [List.length_drop, List.length_take]; rfl)) ?_; (with_reducible refine (spec_NeededFuses.calls k t408 _ _ t409 t410 t417 t418 _ ?side1 ?side2 A6.out).mono ?_); (case side1 => repeat (first | exact (Kd.R_reads' HO412.out).2.2 | (with_reducible refine Kd.C_alloc ?_ _) | (with_reducible refine Kd.C_drewN ?_ _) | (with_reducible refine Kd.C_drew ?_))); (case side2 => exact (Kd.R_reads' HO412.out).2.1); rintro e w13 ⟨v419, rfl, ho0, hb⟩; refine ⟨_, rfl, ?_⟩; have n0_ := Aside0.mk (Kd.R_below (by (with_reducible repeat (first | apply Kd.R_alloc | apply Kd.R_drewN | apply Kd.R_drew)); exact HO412.out) hb); have n1_ := Aside0.mk (Kd.R_elder' (by (with_reducible repeat (first | apply Kd.R_alloc | apply Kd.R_drewN | apply Kd.R_drew)); exact HO416.out) (Kd.R_base ho0) hb); have n2_ := Aside0.mk (Kd.R_lower (Kd.R_new' ho0 (Kd.R_lt (by (with_reducible repeat (first | apply Kd.R_alloc | apply Kd.R_drewN | apply Kd.R_drew)); exact HO416.out))) (below_size (by repeat (first | (with_reducible first | exact HB.out | apply below_alloc | apply pw_below_drewN | apply below_drew1) | exact HB.out)))); have n3_ := Aside0.mk (below_step (by repeat (first | (with_reducible first | exact HB.out | apply below_alloc | apply pw_below_drewN | apply below_drew1) | exact HB.out)) hb); clear HO412; clear HO416; clear HB; have HO412 := n0_; have HO416 := n1_; have HO420 := n2_; have HB := n3_; clear n0_ n1_ n2_ n3_; (try clear hb); (try clear hb2); (try clear hk); (try clear hi); (try clear ho0)) | ((with_reducible refine gate_callee (f := 10) rfl ?_); refine goesL_ (some 48) rfl rfl Try.func10 (by kernel_rfl) rfl #[.int .i64 t408, .slice Ao11 t409.length co11] rfl (by (try simp only [List.map_toArray, List.map_cons, List.map_nil]); first | done | rfl | (simp only [List.length_drop, List.length_take]; rfl)) ?_; (with_reducible refine (impl_IdleFuses.calls k t408 _ _ t409 t421 t422 _ ?side1 ?side2 A7.out).mono ?_); (case side1 => repeat (first | exact (Kd.R_reads' HO412.out).2.2 | (with_reducible refine Kd.C_alloc ?_ _) | (with_reducible refine Kd.C_drewN ?_ _) | (with_reducible refine Kd.C_drew ?_))); (case side2 => exact (Kd.R_reads' HO412.out).2.1); rintro e w14 ⟨v423, rfl, ho0, hb⟩; refine ⟨_, rfl, ?_⟩; have n0_ := Aside0.mk (Kd.R_below (by (with_reducible repeat (first | apply Kd.R_alloc | apply Kd.R_drewN | apply Kd.R_drew)); exact HO412.out) hb); have n1_ := Aside0.mk (Kd.R_elder' (by (with_reducible repeat (first | apply Kd.R_alloc | apply Kd.R_drewN | apply Kd.R_drew)); exact HO416.out) (Kd.R_base ho0) hb); have n2_ := Aside0.mk (Kd.R_elder' (by (with_reducible repeat (first | apply Kd.R_alloc | apply Kd.R_drewN | apply Kd.R_drew)); exact HO420.out) (Kd.R_base ho0) hb); have n3_ := Aside0.mk (Kd.R_lower (Kd.R_new' (Kd.R_new' ho0 (Kd.R_lt (by (with_reducible repeat (first | apply Kd.R_alloc | apply Kd.R_drewN | apply Kd.R_drew)); exact HO416.out))) (Kd.R_lt (by (with_reducible repeat (first | apply Kd.R_alloc | apply Kd.R_drewN | apply Kd.R_drew)); exact HO420.out))) (below_size (by repeat (first | (with_reducible first | exact HB.out | apply below_alloc | apply pw_below_drewN | apply below_drew1) | exact HB.out)))); have n4_ := Aside0.mk (below_step (by repeat (first | (with_reducible first | exact HB.out | apply below_alloc | apply pw_below_drewN | apply below_drew1) | exact HB.out)) hb); clear HO412; clear HO416; clear HO420; clear HB; have HO412 := n0_; have HO416 := n1_; have HO420 := n2_; have HO424 := n3_; have HB := n4_; clear n0_ n1_ n2_ n3_ n4_; (try clear hb); (try clear hb2); (try clear hk); (try clear hi); (try clear ho0)) | ((with_reducible refine gate_callee (f := 11) rfl ?_); refine goesL_ (some 54) rfl rfl Try.func11 (by kernel_rfl) rfl #[.int .i64 t408, .slice Ao11 t409.length co11] rfl (by (try simp only [List.map_toArray, List.map_cons, List.map_nil]); first | done | rfl | (simp only [List.length_drop, List.length_take]; rfl)) ?_; (with_reducible refine (spec_IdleFuses.calls k t408 _ _ t409 t425 t426 _ ?side1 ?side2 A8.out).mono ?_); (case side1 => repeat (first | exact (Kd.R_reads' HO412.out).2.2 | (with_reducible refine Kd.C_alloc ?_ _) | (with_reducible refine Kd.C_drewN ?_ _) | (with_reducible refine Kd.C_drew ?_))); (case side2 => exact (Kd.R_reads' HO412.out).2.1); rintro e w15 ⟨v427, rfl, ho0, hb⟩; refine ⟨_, rfl, ?_⟩; have n0_ := Aside0.mk (Kd.R_below (by (with_reducible repeat (first | apply Kd.R_alloc | apply Kd.R_drewN | apply Kd.R_drew)); exact HO412.out) hb); have n1_ := Aside0.mk (Kd.R_elder' (by (with_reducible repeat (first | apply Kd.R_alloc | apply Kd.R_drewN | apply Kd.R_drew)); exact HO416.out) (Kd.R_base ho0) hb); have n2_ := Aside0.mk (Kd.R_elder' (by (with_reducible repeat (first | apply Kd.R_alloc | apply Kd.R_drewN | apply Kd.R_drew)); exact HO420.out) (Kd.R_base ho0) hb); have n3_ := Aside0.mk (Kd.R_elder' (by (with_reducible repeat (first | apply Kd.R_alloc | apply Kd.R_drewN | apply Kd.R_drew)); exact HO424.out) (Kd.R_base ho0) hb); have n4_ := Aside0.mk (Kd.R_lower (Kd.R_new' (Kd.R_new' (Kd.R_new' ho0 (Kd.R_lt (by (with_reducible repeat (first | apply Kd.R_alloc | apply Kd.R_drewN | apply Kd.R_drew)); exact HO416.out))) (Kd.R_lt (by (with_reducible repeat (first | apply Kd.R_alloc | apply Kd.R_drewN | apply Kd.R_drew)); exact HO420.out))) (Kd.R_lt (by (with_reducible repeat (first | apply Kd.R_alloc | apply Kd.R_drewN | apply Kd.R_drew)); exact HO424.out))) (below_size (by repeat (first | (with_reducible first | exact HB.out | apply below_alloc | apply pw_below_drewN | apply below_drew1) | exact HB.out)))); have n5_ := Aside0.mk (below_step (by repeat (first | (with_reducible first | exact HB.out | apply below_alloc | apply pw_below_drewN | apply below_drew1) | exact HB.out)) hb); clear HO412; clear HO416; clear HO420; clear HO424; clear HB; have HO412 := n0_; have HO416 := n1_; have HO420 := n2_; have HO424 := n3_; have HO428 := n4_; have HB := n5_; clear n0_ n1_ n2_ n3_ n4_ n5_; (try clear hb); (try clear hb2); (try clear hk); (try clear hi); (try clear ho0)))
  (try simp only [Act.put, List.setIfInBounds_toArray, List.set_cons_zero, List.set_cons_succ])
  go_cut [76] (fun v76 wc => ∃ (kq : Nat) (x76_8 : Bool), v76 = .bool x76_8 ∧ Aside0 (laws_FnNeeded.j0 kq t408 t409 t410 t413 t414 t421 x76_8 = some r) ∧ Aside0 (kq ≤ k) ∧ Aside0 (Kd.R k39 39 wc w.heap.size (fun _ => True) (.slice Ao11 t409.length co11) t409) ∧ Aside0 (Kd.R (Kd.int .i64) 2 wc w.heap.size (fun k_ => some k_ ≠ (v423 : Value).ownBlock) v415 t413) ∧ Aside0 (Kd.R (Kd.int .i64) 2 wc w.heap.size (fun k_ => some k_ ≠ (v415 : Value).ownBlock) v423 t421) ∧ Aside0 (Below w.heap.size w wc))
  case first => as_aux_lemma =>
   have H := HC9.out
   clear HC9
   by_cases c16 : t414 = t418
   ·rw [if_pos c16] at H
    have c16b0 : (t414 == t418) = true := beq_iff_eq.mpr c16
    have c16b1 : (t414 != t418) = false := bne_eq_false_iff_eq.mpr c16
    clear c16
    (first | rw [c16b0] | (simp only [i64_w, i32_w]; rw [c16b0]) | skip)
    replace H := Option.bind_eq_some_iff.mp H
    obtain ⟨t429, A170, H⟩ := H
    replace H : (if t429 = true then (if t422 = t426 then ((laws_likeInts.f k t421 t425).bind fun t430 => (laws_FnNeeded.j0 k t408 t409 t410 t413 t414 t421 (!t430))) else (laws_FnNeeded.j0 k t408 t409 t410 t413 t414 t421 true)) else (laws_FnNeeded.j0 k t408 t409 t410 t413 t414 t421 true)) = some r := H
    have A17 := Aside0.mk A170
    clear A170
    by_cases c18 : t429 = true
    ·subst c18
     have H1 : (if t422 = t426 then ((laws_likeInts.f k t421 t425).bind fun t430 => (laws_FnNeeded.j0 k t408 t409 t410 t413 t414 t421 (!t430))) else (laws_FnNeeded.j0 k t408 t409 t410 t413 t414 t421 true)) = some r := by rw [if_pos rfl] at H; exact H
     clear H
     have H := H1
     clear H1
     by_cases c19 : t422 = t426
     ·rw [if_pos c19] at H
      have c19b0 : (t422 == t426) = true := beq_iff_eq.mpr c19
      have c19b1 : (t422 != t426) = false := bne_eq_false_iff_eq.mpr c19
      clear c19
      replace H := Option.bind_eq_some_iff.mp H
      obtain ⟨t430, A200, H⟩ := H
      replace H : (laws_FnNeeded.j0 k t408 t409 t410 t413 t414 t421 (!t430)) = some r := H
      have A20 := Aside0.mk A200
      clear A200
      have H' := Aside0.mk H
      clear H
      obtain ⟨Ao21, co21, eo21⟩ := Kd.R_slice HO416.out
      subst eo21
      obtain ⟨Ao22, co22, eo22⟩ := Kd.R_slice HO420.out
      subst eo22
      go_wp2_with (first | (go_at_call 12; (with_reducible refine (laws_likeInts.calls k _ _ t413 _ _ t417 true _ ?side1 ?side2 ?side3 ?side4 A17.out).mono ?_); (case side1 => repeat (first | exact (Kd.R_reads' HO416.out).2.2 | (with_reducible refine Kd.C_alloc ?_ _) | (with_reducible refine Kd.C_drewN ?_ _) | (with_reducible refine Kd.C_drew ?_))); (case side2 => exact (Kd.R_reads' HO416.out).2.1); (case side3 => repeat (first | exact (Kd.R_reads' HO420.out).2.2 | (with_reducible refine Kd.C_alloc ?_ _) | (with_reducible refine Kd.C_drewN ?_ _) | (with_reducible refine Kd.C_drew ?_))); (case side4 => exact (Kd.R_reads' HO420.out).2.1); rintro e w' ⟨rfl, ⟨nd, rfl⟩⟩; obtain ⟨Ao23, co23, eo23⟩ := Kd.R_slice HO424.out; subst eo23; obtain ⟨Ao24, co24, eo24⟩ := Kd.R_slice HO428.out; subst eo24) | (go_at_call 12; (with_reducible refine (laws_likeInts.calls k _ _ t421 _ _ t425 t430 _ ?side1 ?side2 ?side3 ?side4 A20.out).mono ?_); (case side1 => repeat (first | exact (Kd.R_reads' HO424.out).2.2 | (with_reducible refine Kd.C_alloc ?_ _) | (with_reducible refine Kd.C_drewN ?_ _) | (with_reducible refine Kd.C_drew ?_))); (case side2 => exact (Kd.R_reads' HO424.out).2.1); (case side3 => repeat (first | exact (Kd.R_reads' HO428.out).2.2 | (with_reducible refine Kd.C_alloc ?_ _) | (with_reducible refine Kd.C_drewN ?_ _) | (with_reducible refine Kd.C_drew ?_))); (case side4 => exact (Kd.R_reads' HO428.out).2.1); rintro e w' ⟨rfl, ⟨nd, rfl⟩⟩))
      go_meet
      case rel => exact ⟨_, (!t430), (by first | rfl | (simp; done) | (simp [*]; done)), H', ⟨by first | omega | exact Nat.le_refl _⟩, ⟨by (with_reducible repeat (first | apply Kd.R_alloc | apply Kd.R_drewN | apply Kd.R_drew)); exact HO412.out⟩, ⟨by (with_reducible repeat (first | apply Kd.R_alloc | apply Kd.R_drewN | apply Kd.R_drew)); exact Kd.R_mono HO416.out (fun _ hk => hk.1.2)⟩, ⟨by (with_reducible repeat (first | apply Kd.R_alloc | apply Kd.R_drewN | apply Kd.R_drew)); exact Kd.R_mono HO424.out (fun _ hk => hk.1.1.2)⟩, ⟨by repeat (first | (with_reducible first | exact HB.out | apply below_alloc | apply pw_below_drewN | apply below_drew1) | exact HB.out)⟩⟩
     ·rw [if_neg c19] at H
      have c19b0 : (t422 == t426) = false := beq_eq_false_iff_ne.mpr c19
      have c19b1 : (t422 != t426) = true := bne_iff_ne.mpr c19
      exact absurd (H.trans (congrArg some HR_.out)) (laws_FnNeeded.j0_true _ _ _ _ _ _ _)
    ·replace c18 := Bool.eq_false_iff.mpr c18
     subst c18
     have H1 : (laws_FnNeeded.j0 k t408 t409 t410 t413 t414 t421 true) = some r := by rw [if_neg (show ¬ (false = true) by decide)] at H; exact H
     clear H
     have H := H1
     clear H1
     exact absurd (H.trans (congrArg some HR_.out)) (laws_FnNeeded.j0_true _ _ _ _ _ _ _)
   ·rw [if_neg c16] at H
    have c16b0 : (t414 == t418) = false := beq_eq_false_iff_ne.mpr c16
    have c16b1 : (t414 != t418) = true := bne_iff_ne.mpr c16
    (first | rw [c16b0] | (simp only [i64_w, i32_w]; rw [c16b0]) | skip)
    exact absurd (H.trans (congrArg some HR_.out)) (laws_FnNeeded.j0_true _ _ _ _ _ _ _)
  case rest => as_aux_lemma =>
   clear HC9
   try clear c1
   try clear p2
   try clear c3
   try clear c6
   try clear c7
   try clear c8
   try clear c9
   try clear c10
   try clear c11
   try clear c16
   try clear c16b0
   try clear c16b1
   try clear c18
   try clear c19
   try clear c19b0
   try clear c19b1
   obtain ⟨kq, x76_8, rfl, HA, HJ8, HO_4, HO_6, HO_10, HB⟩ := hcut
   cases kq with
   | zero => exact absurd HA.out (by simp [laws_FnNeeded.j0])
   | succ kj8 =>
    have H := HA.out
    clear HA
    simp only [laws_FnNeeded.j0] at H
    by_cases c29 : x76_8 = true
    ·subst c29
     have H1 : (some false) = some r := by rw [if_pos rfl] at H; exact H
     clear H
     have H := H1
     clear H1
     exact absurd ((Option.some.inj H).trans HR_.out) (by decide)
    ·replace c29 := Bool.eq_false_iff.mpr c29
     subst c29
     have H1 : (if t414 = 0 then ((impl_LitBetween.f kj8 t408 t409 t410).bind fun bt431 => (laws_FnNeeded.l0 kj8 t408 t409 t410 t413 t421 bt431.1 bt431.2.1 bt431.2.2 0)) else (some true)) = some r := by rw [if_neg (show ¬ (false = true) by decide)] at H; exact H
     clear H
     have H := H1
     clear H1
     by_cases c30 : t414 = 0
     ·rw [if_pos c30] at H
      have c30b0 : (t414 == 0) = true := beq_iff_eq.mpr c30
      have c30b1 : (t414 != 0) = false := bne_eq_false_iff_eq.mpr c30
      clear c30
      replace H := Option.bind_eq_some_iff.mp H
      obtain ⟨⟨t431, t432, t433⟩, A310, H⟩ := H
      replace H : (laws_FnNeeded.l0 kj8 t408 t409 t410 t413 t421 t431 t432 t433 0) = some r := H
      have A31 := Aside0.mk A310
      clear A310
      have H' := Aside0.mk H
      clear H
      go_wp2_with (first | ((with_reducible refine gate_callee (f := 13) rfl ?_); refine goesL_ (some 83) rfl rfl Try.func13 (by kernel_rfl) rfl #[.int .i64 t408, .slice Ao11 t409.length co11, .int .i64 t410] rfl (by (try simp only [List.map_toArray, List.map_cons, List.map_nil]); first | done | rfl | (simp only [List.length_drop, List.length_take]; rfl)) ?_; (with_reducible refine (impl_LitBetween.calls kj8 t408 _ _ t409 t410 t431 t432 t433 _ ?side1 ?side2 A31.out).mono ?_); (case side1 => repeat (first | exact (Kd.R_reads' HO_4.out).2.2 | (with_reducible refine Kd.C_alloc ?_ _) | (with_reducible refine Kd.C_drewN ?_ _) | (with_reducible refine Kd.C_drew ?_))); (case side2 => exact (Kd.R_reads' HO_4.out).2.1); rintro e w32 ⟨rfl, hb⟩; refine ⟨_, rfl, ?_⟩; have n0_ := Aside0.mk (Kd.R_below (by (with_reducible repeat (first | apply Kd.R_alloc | apply Kd.R_drewN | apply Kd.R_drew)); exact HO_4.out) hb); have n1_ := Aside0.mk (Kd.R_below (by (with_reducible repeat (first | apply Kd.R_alloc | apply Kd.R_drewN | apply Kd.R_drew)); exact HO_6.out) hb); have n2_ := Aside0.mk (Kd.R_below (by (with_reducible repeat (first | apply Kd.R_alloc | apply Kd.R_drewN | apply Kd.R_drew)); exact HO_10.out) hb); have n3_ := Aside0.mk (below_step (by repeat (first | (with_reducible first | exact HB.out | apply below_alloc | apply pw_below_drewN | apply below_drew1) | exact HB.out)) hb); clear HO_4; clear HO_6; clear HO_10; clear HB; have HO_4 := n0_; have HO_6 := n1_; have HO_10 := n2_; have HB := n3_; clear n0_ n1_ n2_ n3_; (try clear hb); (try clear hb2); (try clear hk); (try clear hi)))
      go_loopg [17] kj8 (fun kq v17 w' => ∃ (x17_2 : Int), v17 = .int .i64 x17_2 ∧ Aside0 (laws_FnNeeded.l0 kq t408 t409 t410 t413 t421 t431 t432 t433 x17_2 = some r) ∧ Aside0 (kq ≤ kj8) ∧ Aside0 (Kd.R k39 39 w' w.heap.size (fun _ => True) (.slice Ao11 t409.length co11) t409) ∧ Aside0 (Kd.R (Kd.int .i64) 2 w' w.heap.size (fun k_ => some k_ ≠ (v423 : Value).ownBlock) v415 t413) ∧ Aside0 (Kd.R (Kd.int .i64) 2 w' w.heap.size (fun k_ => some k_ ≠ (v415 : Value).ownBlock) v423 t421) ∧ Aside0 (Below w.heap.size w w'))
      case atStart => exact ⟨(0), (by first | rfl | (simp; done) | (simp [*]; done)), H', ⟨Nat.le_refl _⟩, ⟨by (with_reducible repeat (first | apply Kd.R_alloc | apply Kd.R_drewN | apply Kd.R_drew)); exact HO_4.out⟩, ⟨by (with_reducible repeat (first | apply Kd.R_alloc | apply Kd.R_drewN | apply Kd.R_drew)); exact HO_6.out⟩, ⟨by (with_reducible repeat (first | apply Kd.R_alloc | apply Kd.R_drewN | apply Kd.R_drew)); exact HO_10.out⟩, ⟨by repeat (first | (with_reducible first | exact HB.out | apply below_alloc | apply pw_below_drewN | apply below_drew1) | exact HB.out)⟩⟩
      case round => as_aux_lemma =>
       clear H'
       try clear c1
       try clear c2
       try clear p2
       try clear c3
       try clear c6
       try clear c7
       try clear c8
       try clear c9
       try clear c10
       try clear c11
       try clear c13
       try clear c16
       try clear c16b0
       try clear c16b1
       try clear c18
       try clear c19
       try clear c19b0
       try clear c19b1
       try clear c29
       try clear c30
       try clear c30b0
       try clear c30b1
       try clear p2
       obtain ⟨x17_2, rfl, HA, HK2, HO_4, HO_6, HO_10, HB⟩ := hrel
       cases gk with
       | zero => exact absurd HA.out (by simp [laws_FnNeeded.l0])
       | succ k2 =>
        have H := HA.out
        clear HA
        simp only [laws_FnNeeded.l0] at H
        by_cases c33 : x17_2 < (t409.length : Int)
        ·rw [if_pos c33] at H
         have c33b0 : decide (x17_2 < (t409.length : Int)) = true := decide_eq_true c33
         clear c33
         replace H := Option.bind_eq_some_iff.mp H
         obtain ⟨⟨t434, t435⟩, A340, H⟩ := H
         replace H : ((impl_LitBetween.f k2 t408 t434 t410).bind fun bt438 => (if t433 = 0 then (if t435 = 0 then ((laws_hasInt.f k2 t413 x17_2).bind fun t441 => (laws_FnNeeded.j2 k2 t408 t409 t410 t413 t421 t431 t432 t433 x17_2 bt438.1 bt438.2.1 bt438.2.2 (t441 != (bt438.2.2 == 4)))) else (laws_FnNeeded.j2 k2 t408 t409 t410 t413 t421 t431 t432 t433 x17_2 bt438.1 bt438.2.1 bt438.2.2 true)) else (laws_FnNeeded.j2 k2 t408 t409 t410 t413 t421 t431 t432 t433 x17_2 bt438.1 bt438.2.1 bt438.2.2 true))) = some r := H
         have A34 := Aside0.mk A340
         clear A340
         replace H := Option.bind_eq_some_iff.mp H
         obtain ⟨⟨t438, t439, t440⟩, A350, H⟩ := H
         replace H : (if t433 = 0 then (if t435 = 0 then ((laws_hasInt.f k2 t413 x17_2).bind fun t441 => (laws_FnNeeded.j2 k2 t408 t409 t410 t413 t421 t431 t432 t433 x17_2 t438 t439 t440 (t441 != (t440 == 4)))) else (laws_FnNeeded.j2 k2 t408 t409 t410 t413 t421 t431 t432 t433 x17_2 t438 t439 t440 true)) else (laws_FnNeeded.j2 k2 t408 t409 t410 t413 t421 t431 t432 t433 x17_2 t438 t439 t440 true)) = some r := H
         have A35 := Aside0.mk A350
         clear A350
         have HC36 := Aside0.mk H
         clear H
         go_upto_region 18 with (first | ((with_reducible refine gate_callee (f := 14) rfl ?_); refine goesL_ (some 97) rfl rfl Try.func14 (by kernel_rfl) rfl #[.int .i64 t408, .slice Ao11 t409.length co11, .int .i64 x17_2] rfl (by (try simp only [List.map_toArray, List.map_cons, List.map_nil]); first | done | rfl | (simp only [List.length_drop, List.length_take]; rfl)) ?_; (with_reducible refine (impl_WithoutFuse.calls k2 t408 _ _ t409 x17_2 t434 t435 _ ?side1 ?side2 A34.out).mono ?_); (case side1 => repeat (first | exact (Kd.R_reads' HO_4.out).2.2 | (with_reducible refine Kd.C_alloc ?_ _) | (with_reducible refine Kd.C_drewN ?_ _) | (with_reducible refine Kd.C_drew ?_))); (case side2 => exact (Kd.R_reads' HO_4.out).2.1); rintro e w37 ⟨v436, rfl, ho0, hb⟩; refine ⟨_, rfl, ?_⟩; have n0_ := Aside0.mk (Kd.R_elder' (by (with_reducible repeat (first | apply Kd.R_alloc | apply Kd.R_drewN | apply Kd.R_drew)); exact HO_4.out) (Kd.R_base ho0) hb); have n1_ := Aside0.mk (Kd.R_below (by (with_reducible repeat (first | apply Kd.R_alloc | apply Kd.R_drewN | apply Kd.R_drew)); exact HO_6.out) hb); have n2_ := Aside0.mk (Kd.R_below (by (with_reducible repeat (first | apply Kd.R_alloc | apply Kd.R_drewN | apply Kd.R_drew)); exact HO_10.out) hb); have n3_ := Aside0.mk (Kd.R_lower (Kd.R_new' ho0 (Kd.R_lt (by (with_reducible repeat (first | apply Kd.R_alloc | apply Kd.R_drewN | apply Kd.R_drew)); exact HO_4.out))) (below_size (by repeat (first | (with_reducible first | exact HB.out | apply below_alloc | apply pw_below_drewN | apply below_drew1) | exact HB.out)))); have n4_ := Aside0.mk (below_step (by repeat (first | (with_reducible first | exact HB.out | apply below_alloc | apply pw_below_drewN | apply below_drew1) | exact HB.out)) hb); clear HO_4; clear HO_6; clear HO_10; clear HB; have HO_4 := n0_; have HO_6 := n1_; have HO_10 := n2_; have HO437 := n3_; have HB := n4_; clear n0_ n1_ n2_ n3_ n4_; (try clear hb); (try clear hb2); (try clear hk); (try clear hi); (try clear ho0); obtain ⟨Ao38, co38, eo38⟩ := Kd.R_slice HO437.out; subst eo38) | ((with_reducible refine gate_callee (f := 13) rfl ?_); refine goesL_ (some 104) rfl rfl Try.func13 (by kernel_rfl) rfl #[.int .i64 t408, .slice Ao38 t434.length co38, .int .i64 t410] rfl (by (try simp only [List.map_toArray, List.map_cons, List.map_nil]); first | done | rfl | (simp only [List.length_drop, List.length_take]; rfl)) ?_; (with_reducible refine (impl_LitBetween.calls k2 t408 _ _ t434 t410 t438 t439 t440 _ ?side1 ?side2 A35.out).mono ?_); (case side1 => repeat (first | exact (Kd.R_reads' HO437.out).2.2 | (with_reducible refine Kd.C_alloc ?_ _) | (with_reducible refine Kd.C_drewN ?_ _) | (with_reducible refine Kd.C_drew ?_))); (case side2 => exact (Kd.R_reads' HO437.out).2.1); rintro e w39 ⟨rfl, hb⟩; refine ⟨_, rfl, ?_⟩; have n0_ := Aside0.mk (Kd.R_below (by (with_reducible repeat (first | apply Kd.R_alloc | apply Kd.R_drewN | apply Kd.R_drew)); exact HO_4.out) hb); have n1_ := Aside0.mk (Kd.R_below (by (with_reducible repeat (first | apply Kd.R_alloc | apply Kd.R_drewN | apply Kd.R_drew)); exact HO_6.out) hb); have n2_ := Aside0.mk (Kd.R_below (by (with_reducible repeat (first | apply Kd.R_alloc | apply Kd.R_drewN | apply Kd.R_drew)); exact HO_10.out) hb); have n3_ := Aside0.mk (Kd.R_below (by (with_reducible repeat (first | apply Kd.R_alloc | apply Kd.R_drewN | apply Kd.R_drew)); exact HO437.out) hb); have n4_ := Aside0.mk (below_step (by repeat (first | (with_reducible first | exact HB.out | apply below_alloc | apply pw_below_drewN | apply below_drew1) | exact HB.out)) hb); clear HO_4; clear HO_6; clear HO_10; clear HO437; clear HB; have HO_4 := n0_; have HO_6 := n1_; have HO_10 := n2_; have HO437 := n3_; have HB := n4_; clear n0_ n1_ n2_ n3_ n4_; (try clear hb); (try clear hb2); (try clear hk); (try clear hi)))
         (try simp only [Act.put, List.setIfInBounds_toArray, List.set_cons_zero, List.set_cons_succ])
         go_cut [121] (fun v121 wc => ∃ (kq : Nat) (x121_35 : Bool), v121 = .bool x121_35 ∧ Aside0 (laws_FnNeeded.j2 kq t408 t409 t410 t413 t421 t431 t432 t433 x17_2 t438 t439 t440 x121_35 = some r) ∧ Aside0 (kq ≤ k2) ∧ Aside0 (Kd.R k39 39 wc w.heap.size (fun _ => True) (.slice Ao11 t409.length co11) t409) ∧ Aside0 (Kd.R (Kd.int .i64) 2 wc w.heap.size (fun k_ => some k_ ≠ (v423 : Value).ownBlock) v415 t413) ∧ Aside0 (Kd.R (Kd.int .i64) 2 wc w.heap.size (fun k_ => some k_ ≠ (v415 : Value).ownBlock) v423 t421) ∧ Aside0 (Below w.heap.size w wc))
         case first => as_aux_lemma =>
          have H := HC36.out
          clear HC36
          by_cases c40 : t433 = 0
          ·rw [if_pos c40] at H
           have c40b0 : (t433 == 0) = true := beq_iff_eq.mpr c40
           have c40b1 : (t433 != 0) = false := bne_eq_false_iff_eq.mpr c40
           clear c40
           (first | rw [c40b0] | (simp only [i64_w, i32_w]; rw [c40b0]) | skip)
           by_cases c41 : t435 = 0
           ·rw [if_pos c41] at H
            have c41b0 : (t435 == 0) = true := beq_iff_eq.mpr c41
            have c41b1 : (t435 != 0) = false := bne_eq_false_iff_eq.mpr c41
            clear c41
            replace H := Option.bind_eq_some_iff.mp H
            obtain ⟨t441, A420, H⟩ := H
            replace H : (laws_FnNeeded.j2 k2 t408 t409 t410 t413 t421 t431 t432 t433 x17_2 t438 t439 t440 (t441 != (t440 == 4))) = some r := H
            have A42 := Aside0.mk A420
            clear A420
            have H' := Aside0.mk H
            clear H
            obtain ⟨Ao43, co43, eo43⟩ := Kd.R_slice HO_6.out
            subst eo43
            go_wp2_with (first | (go_at_call 15; (with_reducible refine (laws_hasInt.calls k2 _ _ t413 x17_2 t441 _ ?side1 ?side2 A42.out).mono ?_); (case side1 => repeat (first | exact (Kd.R_reads' HO_6.out).2.2 | (with_reducible refine Kd.C_alloc ?_ _) | (with_reducible refine Kd.C_drewN ?_ _) | (with_reducible refine Kd.C_drew ?_))); (case side2 => exact (Kd.R_reads' HO_6.out).2.1); rintro e w' ⟨rfl, ⟨nd, rfl⟩⟩))
            go_meet
            case rel => exact ⟨_, ((t441 != (t440 == 4))), (by first | rfl | (simp; done) | (simp [*]; done)), H', ⟨by have := HJ8.out; have := HK2.out; first | omega | exact Nat.le_refl _⟩, ⟨by (with_reducible repeat (first | apply Kd.R_alloc | apply Kd.R_drewN | apply Kd.R_drew)); exact Kd.R_mono HO_4.out (fun _ hk => trivial)⟩, ⟨by (with_reducible repeat (first | apply Kd.R_alloc | apply Kd.R_drewN | apply Kd.R_drew)); exact HO_6.out⟩, ⟨by (with_reducible repeat (first | apply Kd.R_alloc | apply Kd.R_drewN | apply Kd.R_drew)); exact HO_10.out⟩, ⟨by repeat (first | (with_reducible first | exact HB.out | apply below_alloc | apply pw_below_drewN | apply below_drew1) | exact HB.out)⟩⟩
           ·rw [if_neg c41] at H
            have c41b0 : (t435 == 0) = false := beq_eq_false_iff_ne.mpr c41
            have c41b1 : (t435 != 0) = true := bne_iff_ne.mpr c41
            exact absurd (H.trans (congrArg some HR_.out)) (laws_FnNeeded.j2_true _ _ _ _ _ _ _ _ _ _ _ _ _)
          ·rw [if_neg c40] at H
           have c40b0 : (t433 == 0) = false := beq_eq_false_iff_ne.mpr c40
           have c40b1 : (t433 != 0) = true := bne_iff_ne.mpr c40
           (first | rw [c40b0] | (simp only [i64_w, i32_w]; rw [c40b0]) | skip)
           exact absurd (H.trans (congrArg some HR_.out)) (laws_FnNeeded.j2_true _ _ _ _ _ _ _ _ _ _ _ _ _)
         case rest => as_aux_lemma =>
          clear HC36
          try clear c1
          try clear c2
          try clear p2
          try clear c3
          try clear c4
          try clear c6
          try clear c7
          try clear c8
          try clear c9
          try clear c10
          try clear c11
          try clear c13
          try clear c14
          try clear c16
          try clear c16b0
          try clear c16b1
          try clear c18
          try clear c19
          try clear c19b0
          try clear c19b1
          try clear c29
          try clear c30
          try clear c30b0
          try clear c30b1
          try clear c33
          try clear c33b0
          try clear c40
          try clear c40b0
          try clear c40b1
          try clear c41
          try clear c41b0
          try clear c41b1
          try clear p2
          obtain ⟨kq, x121_35, rfl, HA, HJ35, HO_4, HO_6, HO_10, HB⟩ := hcut
          cases kq with
          | zero => exact absurd HA.out (by simp [laws_FnNeeded.j2])
          | succ kj35 =>
           have H := HA.out
           clear HA
           simp only [laws_FnNeeded.j2] at H
           by_cases c44 : x121_35 = true
           ·subst c44
            have H1 : (some false) = some r := by rw [if_pos rfl] at H; exact H
            clear H
            have H := H1
            clear H1
            exact absurd ((Option.some.inj H).trans HR_.out) (by decide)
           ·replace c44 := Bool.eq_false_iff.mpr c44
            subst c44
            have H1 : ((laws_hasInt.f kj35 t421 x17_2).bind fun t442 => (if t442 = true then (if t440 = 0 then (if t438 = t431 then (if t439 = t432 then (laws_FnNeeded.l0 kj35 t408 t409 t410 t413 t421 t431 t432 t433 (wrap64 (x17_2 + 1))) else (some false)) else (some false)) else (some false)) else (laws_FnNeeded.l0 kj35 t408 t409 t410 t413 t421 t431 t432 t433 (wrap64 (x17_2 + 1))))) = some r := by rw [if_neg (show ¬ (false = true) by decide)] at H; exact H
            clear H
            have H := H1
            clear H1
            replace H := Option.bind_eq_some_iff.mp H
            obtain ⟨t442, A450, H⟩ := H
            replace H : (if t442 = true then (if t440 = 0 then (if t438 = t431 then (if t439 = t432 then (laws_FnNeeded.l0 kj35 t408 t409 t410 t413 t421 t431 t432 t433 (wrap64 (x17_2 + 1))) else (some false)) else (some false)) else (some false)) else (laws_FnNeeded.l0 kj35 t408 t409 t410 t413 t421 t431 t432 t433 (wrap64 (x17_2 + 1)))) = some r := H
            have A45 := Aside0.mk A450
            clear A450
            by_cases c46 : t442 = true
            ·subst c46
             have H1 : (if t440 = 0 then (if t438 = t431 then (if t439 = t432 then (laws_FnNeeded.l0 kj35 t408 t409 t410 t413 t421 t431 t432 t433 (wrap64 (x17_2 + 1))) else (some false)) else (some false)) else (some false)) = some r := by rw [if_pos rfl] at H; exact H
             clear H
             have H := H1
             clear H1
             by_cases c47 : t440 = 0
             ·rw [if_pos c47] at H
              have c47b0 : (t440 == 0) = true := beq_iff_eq.mpr c47
              have c47b1 : (t440 != 0) = false := bne_eq_false_iff_eq.mpr c47
              clear c47
              by_cases c48 : t438 = t431
              ·rw [if_pos c48] at H
               have c48b0 : (t438 == t431) = true := beq_iff_eq.mpr c48
               have c48b1 : (t438 != t431) = false := bne_eq_false_iff_eq.mpr c48
               clear c48
               by_cases c49 : t439 = t432
               ·rw [if_pos c49] at H
                have c49b0 : (t439 == t432) = true := beq_iff_eq.mpr c49
                have c49b1 : (t439 != t432) = false := bne_eq_false_iff_eq.mpr c49
                clear c49
                have H' := Aside0.mk H
                clear H
                obtain ⟨Ao50, co50, eo50⟩ := Kd.R_slice HO_10.out
                subst eo50
                go_wp2_with (first | ((with_reducible refine gate_callee (f := 15) rfl ?_); refine goesL_ (some 124) rfl rfl Try.func15 (by kernel_rfl) rfl #[.slice Ao50 t421.length co50, .int .i64 x17_2] rfl (by (try simp only [List.map_toArray, List.map_cons, List.map_nil]); first | done | rfl | (simp only [List.length_drop, List.length_take]; rfl)) ?_; (with_reducible refine (laws_hasInt.calls kj35 _ _ t421 x17_2 true _ ?side1 ?side2 A45.out).mono ?_); (case side1 => repeat (first | exact (Kd.R_reads' HO_10.out).2.2 | (with_reducible refine Kd.C_alloc ?_ _) | (with_reducible refine Kd.C_drewN ?_ _) | (with_reducible refine Kd.C_drew ?_))); (case side2 => exact (Kd.R_reads' HO_10.out).2.1); rintro e w' ⟨rfl, ⟨nd, rfl⟩⟩; refine ⟨_, rfl, ?_⟩))
                go_roundg kj35
                case measure => have := HJ8.out; have := HK2.out; have := HJ35.out; omega
                case rel => exact ⟨(wrap64 (x17_2 + 1)), (by first | rfl | (simp; done) | (simp [*]; done)), H', ⟨by have := HJ8.out; have := HK2.out; have := HJ35.out; omega⟩, ⟨by (with_reducible repeat (first | apply Kd.R_alloc | apply Kd.R_drewN | apply Kd.R_drew)); exact HO_4.out⟩, ⟨by (with_reducible repeat (first | apply Kd.R_alloc | apply Kd.R_drewN | apply Kd.R_drew)); exact HO_6.out⟩, ⟨by (with_reducible repeat (first | apply Kd.R_alloc | apply Kd.R_drewN | apply Kd.R_drew)); exact HO_10.out⟩, ⟨by repeat (first | (with_reducible first | exact HB.out | apply below_alloc | apply pw_below_drewN | apply below_drew1) | exact HB.out)⟩⟩
               ·rw [if_neg c49] at H
                have c49b0 : (t439 == t432) = false := beq_eq_false_iff_ne.mpr c49
                have c49b1 : (t439 != t432) = true := bne_iff_ne.mpr c49
                exact absurd ((Option.some.inj H).trans HR_.out) (by decide)
              ·rw [if_neg c48] at H
               have c48b0 : (t438 == t431) = false := beq_eq_false_iff_ne.mpr c48
               have c48b1 : (t438 != t431) = true := bne_iff_ne.mpr c48
               exact absurd ((Option.some.inj H).trans HR_.out) (by decide)
             ·rw [if_neg c47] at H
              have c47b0 : (t440 == 0) = false := beq_eq_false_iff_ne.mpr c47
              have c47b1 : (t440 != 0) = true := bne_iff_ne.mpr c47
              exact absurd ((Option.some.inj H).trans HR_.out) (by decide)
            ·replace c46 := Bool.eq_false_iff.mpr c46
             subst c46
             have H1 : (laws_FnNeeded.l0 kj35 t408 t409 t410 t413 t421 t431 t432 t433 (wrap64 (x17_2 + 1))) = some r := by rw [if_neg (show ¬ (false = true) by decide)] at H; exact H
             clear H
             have H := H1
             clear H1
             have H' := Aside0.mk H
             clear H
             obtain ⟨Ao54, co54, eo54⟩ := Kd.R_slice HO_10.out
             subst eo54
             go_wp2_with (first | ((with_reducible refine gate_callee (f := 15) rfl ?_); refine goesL_ (some 124) rfl rfl Try.func15 (by kernel_rfl) rfl #[.slice Ao54 t421.length co54, .int .i64 x17_2] rfl (by (try simp only [List.map_toArray, List.map_cons, List.map_nil]); first | done | rfl | (simp only [List.length_drop, List.length_take]; rfl)) ?_; (with_reducible refine (laws_hasInt.calls kj35 _ _ t421 x17_2 false _ ?side1 ?side2 A45.out).mono ?_); (case side1 => repeat (first | exact (Kd.R_reads' HO_10.out).2.2 | (with_reducible refine Kd.C_alloc ?_ _) | (with_reducible refine Kd.C_drewN ?_ _) | (with_reducible refine Kd.C_drew ?_))); (case side2 => exact (Kd.R_reads' HO_10.out).2.1); rintro e w' ⟨rfl, ⟨nd, rfl⟩⟩; refine ⟨_, rfl, ?_⟩))
             go_roundg kj35
             case measure => have := HJ8.out; have := HK2.out; have := HJ35.out; omega
             case rel => exact ⟨(wrap64 (x17_2 + 1)), (by first | rfl | (simp; done) | (simp [*]; done)), H', ⟨by have := HJ8.out; have := HK2.out; have := HJ35.out; omega⟩, ⟨by (with_reducible repeat (first | apply Kd.R_alloc | apply Kd.R_drewN | apply Kd.R_drew)); exact HO_4.out⟩, ⟨by (with_reducible repeat (first | apply Kd.R_alloc | apply Kd.R_drewN | apply Kd.R_drew)); exact HO_6.out⟩, ⟨by (with_reducible repeat (first | apply Kd.R_alloc | apply Kd.R_drewN | apply Kd.R_drew)); exact HO_10.out⟩, ⟨by repeat (first | (with_reducible first | exact HB.out | apply below_alloc | apply pw_below_drewN | apply below_drew1) | exact HB.out)⟩⟩
        ·rw [if_neg c33] at H
         have c33b0 : decide (x17_2 < (t409.length : Int)) = false := decide_eq_false c33
         clear c33
         obtain rfl := Option.some.inj H
         go_wp2
         go_ret
         exact ⟨by first | rfl | (simp [errW_none, errW_some] <;> rfl) | (simp [*, errW_none, errW_some] <;> rfl), by repeat (first | (with_reducible first | exact HB.out | apply below_alloc | apply pw_below_drewN | apply below_drew1) | exact HB.out)⟩
     ·rw [if_neg c30] at H
      have c30b0 : (t414 == 0) = false := beq_eq_false_iff_ne.mpr c30
      have c30b1 : (t414 != 0) = true := bne_iff_ne.mpr c30
      obtain rfl := Option.some.inj H
      go_wp2
      go_ret
      exact ⟨by first | rfl | (simp [errW_none, errW_some] <;> rfl) | (simp [*, errW_none, errW_some] <;> rfl), by repeat (first | (with_reducible first | exact HB.out | apply below_alloc | apply pw_below_drewN | apply below_drew1) | exact HB.out)⟩
def laws_FnNeeded.Pure : Prop := ∀ (l0 : List Int), l0.length ≤ maxLen → l0.length * 1 ≤ 140737488351232 → (∀ x ∈ l0, (Lit.int .u8 x).wf = true) → ∃ k, laws_FnNeeded.f k l0 = some true
theorem laws_FnNeeded.walk (P : laws_FnNeeded.Pure) (a0 : Option Addr) (len0 cap0 : Nat) (z0 : List Int) (w : World) (w0 : (a0 = none ∧ len0 = 0 ∧ cap0 = 0 ∧ z0 = []) ∨ ∃ x, a0 = some x ∧ len0 ≤ cap0 ∧ cap0 ≤ maxLen ∧ z0.length = cap0 ∧ (∀ i, i < z0.length → w.cell? (x.add i) = some (.int .u8 (z0.getD i 0))) ∧ ∀ n ∈ z0, (Lit.int .u8 n).wf = true) (y0 : len0 * 1 ≤ 140737488351232) :
  Calls Try.prog 3 #[.slice a0 len0 cap0] w fun e w' => e = .returned (.bool true) ∧ Below w.heap.size w w' := by
 obtain ⟨l0, rfl, hr0, hm0, hw0, hc0⟩ := ReadsInt.ofRowC w0
 obtain ⟨k, h⟩ := P l0 hm0 y0 hw0
 refine (laws_FnNeeded.calls k _ _ l0 true w (Kd.C_of_reads (d := (0 : Int)) (h1 := fun _ => rfl) hr0) hc0 h rfl).mono ?_
 rintro e w' ⟨rfl, hd⟩
 exact ⟨rfl, hd⟩
end Go.Proofs.Ytlnfjhahnacmiaa.F
namespace Go.Proofs.Ytlnfjhahnacmiaa.F
open Go.RowKit Go.Proofs.YtlnfjhahnacmiaaW.PrintWords Go.Proofs.YtlnfjhahnacmiaaW.PrintLast Go.Proofs.YtlnfjhahnacmiaaW.PrintMore
set_option linter.unusedVariables false
set_option linter.unusedSimpArgs false
def Evt (P : Nat → Prop) : Prop := ∃ K, ∀ k, K ≤ k → P k
theorem Evt.mono {P Q : Nat → Prop} (h : Evt P) (hq : ∀ k, P k → Q k) : Evt Q := by
 obtain ⟨K, h⟩ := h
 exact ⟨K, fun k hk => hq k (h k hk)⟩
theorem Evt.succ {P : Nat → Prop} (h : Evt (fun k => P (k + 1))) : Evt P := by
 obtain ⟨K, h⟩ := h
 refine ⟨K + 1, fun k hk => ?_⟩
 obtain ⟨m, rfl⟩ : ∃ m, k = m + 1 := ⟨k - 1, by omega⟩
 exact h m (by omega)
theorem w64 {n : Int} (h : -9223372036854775808 ≤ n ∧ n ≤ 9223372036854775807) : wrap64 n = n := by unfold wrap64; omega
def allF (p : Nat → Bool) : Nat → Nat → Bool
 | _, 0 => true
 | i, d + 1 => p i && allF p (i + 1) d
theorem allF_true {p : Nat → Bool} : ∀ (d i : Nat), allF p i d = true ↔ ∀ j, i ≤ j → j < i + d → p j = true
 | 0, i => by simp [allF]; intro j h1 h2; omega
 | d + 1, i => by
  unfold allF
  rw [Bool.and_eq_true, allF_true d (i + 1)]
  constructor
  ·rintro ⟨h1, h2⟩ j h3 h4
   rcases Nat.eq_or_lt_of_le h3 with e | e
   ·exact e ▸ h1
   ·exact h2 j e (by omega)
  ·exact fun h => ⟨h i (Nat.le_refl _) (by omega), fun j h1 h2 => h j (by omega) (by omega)⟩
theorem all_loopF {f : Nat → Nat → Option Bool} {p : Nat → Bool} {e : Bool} (a n : Nat) (hs : ∀ k i, a ≤ i → i < n → f (k + 1) i = if p i = true then f k (i + 1) else some false) (he : ∀ k, f (k + 1) n = some e) :
  ∀ d k i, a ≤ i → n - i = d → i ≤ n → d < k → f k i = some (allF p i d && e) := by
 intro d
 induction d with
 | zero =>
  intro k i ha hd hi hk
  obtain ⟨k, rfl⟩ : ∃ m, k = m + 1 := ⟨k - 1, by omega⟩
  have : i = n := by omega
  subst this
  rw [he]
  rfl
 | succ d ih =>
  intro k i ha hd hi hk
  obtain ⟨k, rfl⟩ : ∃ m, k = m + 1 := ⟨k - 1, by omega⟩
  rw [hs k i ha (by omega)]
  unfold allF
  by_cases hp : p i = true
  ·rw [if_pos hp, ih k (i + 1) (by omega) (by omega) (by omega) (by omega), hp, Bool.true_and]
  ·rw [if_neg hp]
   replace hp := Bool.eq_false_iff.mpr hp
   rw [hp, Bool.false_and, Bool.false_and]
theorem all_loop {f : Nat → Nat → Option Bool} {p : Nat → Bool} {e : Bool} (n : Nat) (hs : ∀ k i, i < n → f (k + 1) i = if p i = true then f k (i + 1) else some false) (he : ∀ k, f (k + 1) n = some e) :
  ∀ d k i, n - i = d → i ≤ n → d < k → f k i = some (allF p i d && e) := fun d k i => all_loopF 0 n (fun k i _ h => hs k i h) he d k i (Nat.zero_le _)
def inB (n lo hi : Int) : Bool := decide (lo ≤ n ∧ n ≤ hi)
theorem inB_true {n lo hi : Int} : inB n lo hi = true ↔ lo ≤ n ∧ n ≤ hi := by unfold inB; exact decide_eq_true_iff
theorem getD_set {α : Type} (xs : List α) (i : Nat) (v z : α) (h : i < xs.length) : (xs.set i v).getD i z = v := by
 rw [List.getD_eq_getElem?_getD, List.getElem?_set_self h]; rfl
end Go.Proofs.Ytlnfjhahnacmiaa.F
namespace Go.Proofs.Ytlnfjhahnacmiaa.F
open Go.RowKit Go.Proofs.YtlnfjhahnacmiaaW.PrintWords Go.Proofs.YtlnfjhahnacmiaaW.PrintLast Go.Proofs.YtlnfjhahnacmiaaW.PrintMore
set_option linter.unusedVariables false
set_option linter.unusedSimpArgs false
theorem In_eq (n lo hi : Int) : spec_l01In.f n lo hi = some (inB n lo hi) := by
 unfold spec_l01In.f inB
 by_cases h : n ≥ lo
 ·rw [if_pos h]; congr 1; simp; omega
 ·rw [if_neg h]; congr 1; simp; omega
theorem Wi_eq (n lo hi : Int) : impl_within.f n lo hi = some (inB n lo hi) := by
 unfold impl_within.f inB
 by_cases h : lo ≤ n
 ·rw [if_pos h]; congr 1; simp; omega
 ·rw [if_neg h]; congr 1; simp; omega
end Go.Proofs.Ytlnfjhahnacmiaa.F
namespace Go.Proofs.Ytlnfjhahnacmiaa.F
open Go.RowKit Go.Proofs.YtlnfjhahnacmiaaW.PrintWords Go.Proofs.YtlnfjhahnacmiaaW.PrintLast Go.Proofs.YtlnfjhahnacmiaaW.PrintMore
set_option linter.unusedVariables false
set_option linter.unusedSimpArgs false
def fu_at (xs : List S39) (i : Nat) : S39 := xs.getD i z39
def fuseAt (n : Int) (xs : List S39) (i : Nat) : Bool := inB (fu_at xs i).f0 0 (wrap64 (n - 1)) && (inB (fu_at xs i).f1 (wrap64 ((fu_at xs i).f0 + 1)) (wrap64 (n - 1)) && (inB (fu_at xs i).f2 0 100000 && inB (fu_at xs i).f3 (fu_at xs i).f2 100000))
def areFuses (n : Int) (xs : List S39) : Bool := allF (fuseAt n xs) 0 xs.length && (inB n 1 10 && decide ((xs.length : Int) ≤ 20))
theorem rd_fuse (xs : List S39) (i : Nat) : rd_T39 xs (i : Int) = fu_at xs i := by unfold rd_T39 fu_at; rw [Int.toNat_natCast]
theorem spec_fuses (n : Int) (xs : List S39) (hx : xs.length ≤ 4000000) (k : Nat) (hk : xs.length < k) : spec_AreFuses.f k n xs = some (areFuses n xs) := by
 refine all_loop (f := fun k i => spec_AreFuses.l0 k n xs (i : Int)) xs.length (fun k i hi => ?_) (fun k => ?_) xs.length k 0 (by omega) (by omega) (by omega)
 ·show spec_AreFuses.l0 (k + 1) n xs i = _
  simp only [spec_AreFuses.l0, In_eq, Option.bind_some]
  rw [if_pos (by omega), if_pos (by omega), w64 (n := (i : Int) + 1) (by omega), rd_fuse]
  unfold fuseAt
  cases inB (fu_at xs i).f0 0 (wrap64 (n - 1)) <;> cases inB (fu_at xs i).f1 (wrap64 ((fu_at xs i).f0 + 1)) (wrap64 (n - 1)) <;> cases inB (fu_at xs i).f2 0 100000 <;> cases inB (fu_at xs i).f3 (fu_at xs i).f2 100000 <;> rfl
 ·show spec_AreFuses.l0 (k + 1) n xs _ = _
  simp only [spec_AreFuses.l0, In_eq, Option.bind_some]
  rw [if_neg (by omega)]
  cases inB n 1 10 <;> rfl
theorem impl_fuses (n : Int) (xs : List S39) (hx : xs.length ≤ 4000000) (k : Nat) (hk : xs.length + 1 < k) : impl_AreFuses.f k n xs = some (areFuses n xs) := by
 obtain ⟨k, rfl⟩ : ∃ m, k = m + 1 := ⟨k - 1, by omega⟩
 unfold impl_AreFuses.f areFuses
 simp only [impl_AreFuses.j0, Wi_eq, Option.bind_some]
 cases h1 : inB n 1 10 with
 | false => rw [if_neg (by decide), if_pos trivial, Bool.false_and, Bool.and_false]
 | true =>
  rw [if_pos rfl, Bool.true_and]
  by_cases h2 : (xs.length : Int) > 20
  ·rw [if_pos (decide_eq_true h2), decide_eq_false (by omega : ¬ ((xs.length : Int) ≤ 20)), Bool.and_false]
  ·rw [if_neg (by simpa using h2), decide_eq_true (by omega : ((xs.length : Int) ≤ 20))]
   refine all_loop (f := fun k i => impl_AreFuses.l0 k n xs (xs.length : Int) (i : Int)) xs.length (fun k i hi => ?_) (fun k => ?_) xs.length k 0 (by omega) (by omega) (by omega)
   ·show impl_AreFuses.l0 (k + 1) n xs (xs.length : Int) i = _
    simp only [impl_AreFuses.l0, Wi_eq, Option.bind_some]
    rw [if_pos (by omega), if_pos (by omega), if_pos (by omega), w64 (n := (i : Int) + 1) (by omega), rd_fuse]
    unfold fuseAt
    cases inB (fu_at xs i).f0 0 (wrap64 (n - 1)) <;> cases inB (fu_at xs i).f1 (wrap64 ((fu_at xs i).f0 + 1)) (wrap64 (n - 1)) <;> cases inB (fu_at xs i).f2 0 100000 <;> cases inB (fu_at xs i).f3 (fu_at xs i).f2 100000 <;> rfl
   ·show impl_AreFuses.l0 (k + 1) n xs (xs.length : Int) _ = _
    simp only [impl_AreFuses.l0]
    rw [if_neg (by omega)]
end Go.Proofs.Ytlnfjhahnacmiaa.F
namespace Go.Proofs.Ytlnfjhahnacmiaa.F
open Go.RowKit Go.Proofs.YtlnfjhahnacmiaaW.PrintWords Go.Proofs.YtlnfjhahnacmiaaW.PrintLast Go.Proofs.YtlnfjhahnacmiaaW.PrintMore
set_option linter.unusedVariables false
set_option linter.unusedSimpArgs false
theorem areFuses_true {n : Int} {xs : List S39} (h : areFuses n xs = true) : ∃ m : Nat, n = (m : Int) ∧ 1 ≤ m ∧ m ≤ 10 ∧ xs.length ≤ 20 ∧ ∀ i, i < xs.length → 0 ≤ (fu_at xs i).f0 ∧ (fu_at xs i).f0 < (fu_at xs i).f1 ∧ (fu_at xs i).f1 < (m : Int) ∧ 0 ≤ (fu_at xs i).f2 ∧ (fu_at xs i).f2 ≤ (fu_at xs i).f3 ∧ (fu_at xs i).f3 ≤ 100000 := by
 unfold areFuses at h
 rw [Bool.and_eq_true, Bool.and_eq_true, allF_true, inB_true, decide_eq_true_iff] at h
 obtain ⟨h1, h2, h3⟩ := h
 refine ⟨n.toNat, by omega, by omega, by omega, by omega, fun i hi => ?_⟩
 have := h1 i (by omega) (by omega)
 unfold fuseAt at this
 rw [Bool.and_eq_true, Bool.and_eq_true, Bool.and_eq_true, inB_true, inB_true, inB_true, inB_true, w64 (by omega)] at this
 obtain ⟨a, b, c, d⟩ := this
 rw [w64 (by omega)] at b
 omega
theorem fu_mem {xs : List S39} {i : Nat} (h : i < xs.length) : fu_at xs i ∈ xs := by
 unfold fu_at
 rw [List.getD_eq_getElem?_getD, List.getElem?_eq_getElem h]
 exact List.getElem_mem _
end Go.Proofs.Ytlnfjhahnacmiaa.F
namespace Go.Proofs.Ytlnfjhahnacmiaa.F
open Go.RowKit Go.Proofs.YtlnfjhahnacmiaaW.PrintWords Go.Proofs.YtlnfjhahnacmiaaW.PrintLast Go.Proofs.YtlnfjhahnacmiaaW.PrintMore
set_option linter.unusedVariables false
set_option linter.unusedSimpArgs false
def StepE (xs : List S39) (E E' : List Int) (v i : Nat) : Prop :=
 (E' = E ∧ ((fu_at xs i).f1 = (v : Int) → rd E (fu_at xs i).f0 < 0 ∨ (0 ≤ rd E (v : Int) ∧ rd E (v : Int) ≤ wrap64 (rd E (fu_at xs i).f0 + (fu_at xs i).f2)))) ∨
 (E' = E.set v (wrap64 (rd E (fu_at xs i).f0 + (fu_at xs i).f2)) ∧ (fu_at xs i).f1 = (v : Int) ∧ 0 ≤ rd E (fu_at xs i).f0 ∧ (rd E (v : Int) < 0 ∨ wrap64 (rd E (fu_at xs i).f0 + (fu_at xs i).f2) < rd E (v : Int)))
theorem rd_set_eq (E : List Int) (v : Nat) (x : Int) (h : v < E.length) : rd (E.set v x) (v : Int) = x := by
 unfold rd
 rw [Int.toNat_natCast, getD_set _ _ _ _ h]
theorem rd_set_ne (E : List Int) (v : Nat) (x u : Int) (h0 : 0 ≤ u) (h : u ≠ (v : Int)) : rd (E.set v x) u = rd E u := by
 unfold rd
 rw [List.getD_eq_getElem?_getD, List.getD_eq_getElem?_getD, List.getElem?_set_ne (by omega)]
def GoodE (xs : List S39) (E : List Int) (u : Int) (n : Nat) : Prop :=
 rd E u ≤ 100000 * u ∧ (∀ j, j < n → (fu_at xs j).f1 = u → 0 ≤ rd E (fu_at xs j).f0 → 0 ≤ rd E u ∧ rd E u ≤ rd E (fu_at xs j).f0 + (fu_at xs j).f2) ∧
  (0 ≤ rd E u → ∃ j, j < n ∧ (fu_at xs j).f1 = u ∧ 0 ≤ rd E (fu_at xs j).f0 ∧ rd E u = rd E (fu_at xs j).f0 + (fu_at xs j).f2)
def FOk (m : Nat) (xs : List S39) : Prop := ∀ i, i < xs.length → 0 ≤ (fu_at xs i).f0 ∧ (fu_at xs i).f0 < (fu_at xs i).f1 ∧ (fu_at xs i).f1 < (m : Int) ∧ 0 ≤ (fu_at xs i).f2 ∧ (fu_at xs i).f2 ≤ 100000
def PE (m : Nat) (xs : List S39) (v : Nat) (E : List Int) : Prop := E.length = m ∧ rd E 0 = 0 ∧ ∀ u : Int, 0 < u → u < (v : Int) → GoodE xs E u xs.length
def QE (m : Nat) (xs : List S39) (v i : Nat) (E : List Int) : Prop := PE m xs v E ∧ GoodE xs E (v : Int) i
theorem good_set {m : Nat} {xs : List S39} (hf : FOk m xs) {E : List Int} {v : Nat} (x : Int) {u : Int} (h0 : 0 ≤ u) (hu : u < (v : Int)) {n : Nat} (hn : n ≤ xs.length) (h : GoodE xs E u n) : GoodE xs (E.set v x) u n := by
 obtain ⟨a, b, c⟩ := h
 have e : ∀ w : Int, 0 ≤ w → w < (v : Int) → rd (E.set v x) w = rd E w := fun w h1 h2 => rd_set_ne E v x w h1 (by omega)
 refine ⟨by rw [e u h0 hu]; exact a, fun j hj h1 h2 => ?_, fun h1 => ?_⟩
 ·have g := hf j (by omega)
  rw [e _ g.1 (by omega)] at h2 ⊢
  rw [e u h0 hu]
  exact b j hj h1 h2
 ·rw [e u h0 hu] at h1 ⊢
  obtain ⟨j, j1, j2, j3, j4⟩ := c h1
  have g := hf j (by omega)
  exact ⟨j, j1, j2, by rw [e _ g.1 (by omega)]; exact j3, by rw [e _ g.1 (by omega)]; exact j4⟩
theorem pe_set {m : Nat} {xs : List S39} (hf : FOk m xs) {E : List Int} {v : Nat} (hv0 : 0 < v) (x : Int) (h : PE m xs v E) : PE m xs v (E.set v x) := by
 obtain ⟨a, b, c⟩ := h
 refine ⟨by rw [List.length_set]; exact a, by rw [rd_set_ne E v x 0 (by omega) (by omega)]; exact b, fun u h1 h2 => good_set hf x (by omega) h2 (Nat.le_refl _) (c u h1 h2)⟩
theorem qe_start {m : Nat} {xs : List S39} (hf : FOk m xs) {E : List Int} {v : Nat} (hv0 : 0 < v) (hv : v < m) (h : PE m xs v E) : QE m xs v 0 (E.set v (-1)) := by
 have e := rd_set_eq E v (-1) (by rw [h.1]; exact hv)
 refine ⟨pe_set hf hv0 _ h, ⟨by rw [e]; omega, fun j hj => absurd hj (by omega), fun h1 => ?_⟩⟩
 rw [e] at h1; omega
theorem qe_end {m : Nat} {xs : List S39} {E : List Int} {v : Nat} (h : QE m xs v xs.length E) : PE m xs (v + 1) E := by
 obtain ⟨⟨a, b, c⟩, d⟩ := h
 refine ⟨a, b, fun u h1 h2 => ?_⟩
 by_cases e : u = (v : Int)
 ·rw [e]; exact d
 ·exact c u h1 (by omega)
theorem qe_step {m : Nat} {xs : List S39} (hf : FOk m xs) (hm : m ≤ 10) {E E' : List Int} {v i : Nat} (hv0 : 0 < v) (hv : v < m) (hi : i < xs.length) (h : QE m xs v i E) (st : StepE xs E E' v i) : QE m xs v (i + 1) E' := by
 have g := hf i hi
 rcases st with ⟨rfl, st⟩ | ⟨rfl, s1, s2, s3⟩
 ·obtain ⟨p, a, b, c⟩ := h
  refine ⟨p, a, fun j hj h1 h2 => ?_, fun h1 => ?_⟩
  ·by_cases e : j = i
   ·subst e
    rcases st h1 with s | s
    ·omega
    ·have hb : rd E' (fu_at xs j).f0 ≤ 1000000 := by
      rcases Int.lt_or_le 0 (fu_at xs j).f0 with z | z
      ·have := (p.2.2 (fu_at xs j).f0 z (by omega)).1
       omega
      ·have z0 : (fu_at xs j).f0 = 0 := by omega
       have := p.2.1
       rw [z0]; omega
     rw [w64 (by omega)] at s
     exact s
   ·exact b j (by omega) h1 h2
  ·obtain ⟨j, j1, j2⟩ := c h1
   exact ⟨j, by omega, j2⟩
 ·obtain ⟨p, a, b, c⟩ := h
  have hb : rd E (fu_at xs i).f0 ≤ 100000 * (fu_at xs i).f0 := by
   rcases Int.lt_or_le 0 (fu_at xs i).f0 with z | z
   ·exact (p.2.2 (fu_at xs i).f0 z (by omega)).1
   ·have z0 : (fu_at xs i).f0 = 0 := by omega
    have := p.2.1
    rw [z0]; omega
  have hw : wrap64 (rd E (fu_at xs i).f0 + (fu_at xs i).f2) = rd E (fu_at xs i).f0 + (fu_at xs i).f2 := w64 (by omega)
  rw [hw] at s3 ⊢
  have e := rd_set_eq E v (rd E (fu_at xs i).f0 + (fu_at xs i).f2) (by rw [p.1]; exact hv)
  have ne : ∀ w : Int, 0 ≤ w → w < (v : Int) → rd (E.set v (rd E (fu_at xs i).f0 + (fu_at xs i).f2)) w = rd E w := fun w h1 h2 => rd_set_ne E v _ w h1 (by omega)
  refine ⟨pe_set hf hv0 _ p, by rw [e]; omega, fun j hj h1 h2 => ?_, fun _ => ⟨i, by omega, s1, ?_, ?_⟩⟩
  ·have gj := hf j (by omega)
   rw [ne _ gj.1 (by omega)] at h2 ⊢
   rw [e]
   by_cases ej : j = i
   ·subst ej; omega
   ·have := b j (by omega) h1 h2
    omega
  ·rw [ne _ g.1 (by omega)]; exact s2
  ·rw [e, ne _ g.1 (by omega)]
end Go.Proofs.Ytlnfjhahnacmiaa.F
