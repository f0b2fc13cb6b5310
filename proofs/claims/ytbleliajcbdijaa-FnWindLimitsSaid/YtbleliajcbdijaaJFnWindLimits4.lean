import Derived.Test.YtbleliajcbdijaaJFnWindLimits3
import Derived.Below
import Derived.Deep.Draws
import Derived.Deep.AppendLies
import Derived.Maps.AppendAt
import Derived.OwnWalk
import Derived.Laws.BytesArg
import Derived.Laws.MakeOwn
import Derived.Laws.OwnMore
import Derived.Tactics
import Derived.Lib.ConvBytes
import Derived.Laws.Slices
import Derived.WalkKit
import Derived.KernelRfl
import Derived.RowKit3
import Derived.Deep.LoopGhost
import Derived.Deep.QuietTactic
import Derived.BigQuiet
import Derived.WideLaws
import Derived.Deep.DeepCutAuto
import Derived.Deep.CutBlock
import Derived.Deep.RegionHeld3
import Derived.Lib.AppendStr
import Derived.ArgAppend
import Derived.Laws.IdiomCopy
import Derived.RowKit
import Derived.OrdersHeld
import Derived.Laws.BitsLemmas
import Derived.Laws.StructEq
import Derived.Test.YtbleliajcbdijaaProg
namespace Go.Proofs.Ytbleliajcbdijaa.F
open Go.RowKit Go.Proofs.YtbleliajcbdijaaW.PrintWords Go.Proofs.YtbleliajcbdijaaW.PrintLast Go.Proofs.YtbleliajcbdijaaW.PrintMore
attribute [local go_sem] max2_int min2_int max_two min_two max_three min_three max_four min_four   -- for this text's walks alone
set_option linter.unusedVariables false
set_option linter.unusedSimpArgs false
mutual
def spec_MostWind.j0 : Nat → Int → Int → Bool → Int → Int → Int → Int → Option (Int × Int)
 | 0, _, _, _, _, _, _, _ => none
 | k + 1, x1, x6, x19, x309000, x309001, x309002, x309003 => if x19 = true then (spec_MostWind.j1 k x1 2 x309000 x309001 x309002 x309003) else (spec_MostWind.j1 k x1 x6 x309000 x309001 x309002 x309003)
def spec_MostWind.j1 : Nat → Int → Int → Int → Int → Int → Int → Option (Int × Int)
 | 0, _, _, _, _, _, _ => none
 | k + 1, x1, x6, x309000, x309001, x309002, x309003 => if x6 = 0 then ((spec_l06Within.f k x309000 x309001 x309002 x309003 0 x1).bind fun t314 => (spec_MostWind.j2 k x1 x6 (!t314) x309000 x309001 x309002 x309003)) else (spec_MostWind.j2 k x1 x6 false x309000 x309001 x309002 x309003)
def spec_MostWind.j2 : Nat → Int → Int → Bool → Int → Int → Int → Int → Option (Int × Int)
 | 0, _, _, _, _, _, _, _ => none
 | k + 1, x1, x6, x27, x309000, x309001, x309002, x309003 => if x27 = true then (spec_MostWind.j3 k x1 4 x309000 x309001 x309002 x309003) else (spec_MostWind.j3 k x1 x6 x309000 x309001 x309002 x309003)
def spec_MostWind.j3 : Nat → Int → Int → Int → Int → Int → Int → Option (Int × Int)
 | 0, _, _, _, _, _, _ => none
 | k + 1, x1, x6, x309000, x309001, x309002, x309003 => if x6 = 0 then (spec_MostWind.l0 k x1 0 50001 x309000 x309001 x309002 x309003) else (some (0, x6))
def spec_MostWind.l0 : Nat → Int → Int → Int → Int → Int → Int → Int → Option (Int × Int)
 | 0, _, _, _, _, _, _, _ => none
 | k + 1, x1, x7, x8, x309000, x309001, x309002, x309003 => if (wrap64 (x7 + 1)) < x8 then ((spec_l06Within.f k x309000 x309001 x309002 x309003 (wrap64 (Int.tdiv (wrap64 (x7 + x8)) 2)) x1).bind fun t315 => (if t315 = true then (spec_MostWind.l0 k x1 (wrap64 (Int.tdiv (wrap64 (x7 + x8)) 2)) x8 x309000 x309001 x309002 x309003) else (spec_MostWind.l0 k x1 x7 (wrap64 (Int.tdiv (wrap64 (x7 + x8)) 2)) x309000 x309001 x309002 x309003))) else (some (x7, 0))
end
def spec_MostWind.f (k : Nat) (a0_0 : Int) (a0_1 : Int) (a0_2 : Int) (a0_3 : Int) (a1 : Int) : Option (Int × Int) := (spec_l06Code.f k (([(⟨a0_0, a0_1, a0_2, a0_3⟩ : S25)] : List (S25))) 0 0).bind fun t312 => (if t312 = 0 then ((spec_l01In.f a1 0 100000000).bind fun t313 => (spec_MostWind.j0 k a1 t312 (!t313) a0_0 a0_1 a0_2 a0_3)) else (spec_MostWind.j0 k a1 t312 false a0_0 a0_1 a0_2 a0_3))
theorem spec_MostWind.mono_l : ∀ k, (∀ y0 y1 y2 y3 y4 y5 y6, LeO (spec_MostWind.j0 k y0 y1 y2 y3 y4 y5 y6) (spec_MostWind.j0 (k + 1) y0 y1 y2 y3 y4 y5 y6)) ∧ (∀ y0 y1 y2 y3 y4 y5, LeO (spec_MostWind.j1 k y0 y1 y2 y3 y4 y5) (spec_MostWind.j1 (k + 1) y0 y1 y2 y3 y4 y5)) ∧ (∀ y0 y1 y2 y3 y4 y5 y6, LeO (spec_MostWind.j2 k y0 y1 y2 y3 y4 y5 y6) (spec_MostWind.j2 (k + 1) y0 y1 y2 y3 y4 y5 y6)) ∧ (∀ y0 y1 y2 y3 y4 y5, LeO (spec_MostWind.j3 k y0 y1 y2 y3 y4 y5) (spec_MostWind.j3 (k + 1) y0 y1 y2 y3 y4 y5)) ∧ (∀ y0 y1 y2 y3 y4 y5 y6, LeO (spec_MostWind.l0 k y0 y1 y2 y3 y4 y5 y6) (spec_MostWind.l0 (k + 1) y0 y1 y2 y3 y4 y5 y6))
 | 0 => ⟨fun _ _ _ _ _ _ _ r h => by simp [spec_MostWind.j0] at h, fun _ _ _ _ _ _ r h => by simp [spec_MostWind.j1] at h, fun _ _ _ _ _ _ _ r h => by simp [spec_MostWind.j2] at h, fun _ _ _ _ _ _ r h => by simp [spec_MostWind.j3] at h, fun _ _ _ _ _ _ _ r h => by simp [spec_MostWind.l0] at h⟩
 | k + 1 => by
  obtain ⟨ih0, ih1, ih2, ih3, ih4⟩ := spec_MostWind.mono_l k
  refine ⟨?_, ?_, ?_, ?_, ?_⟩
  ·intro y0 y1 y2 y3 y4 y5 y6
   unfold spec_MostWind.j0
   repeat' first
   | (with_reducible exact ih0 _ _ _ _ _ _ _)
   | (with_reducible exact ih1 _ _ _ _ _ _)
   | (with_reducible exact ih2 _ _ _ _ _ _ _)
   | (with_reducible exact ih3 _ _ _ _ _ _)
   | (with_reducible exact ih4 _ _ _ _ _ _ _)
   | (with_reducible exact spec_l06Code.mono _ _ _ _)
   | (with_reducible exact spec_l06Within.mono _ _ _ _ _ _ _)
   | (with_reducible exact LeO.refl _)
   | (with_reducible exact LeO.none _)
   | (with_reducible refine LeO.ite ?_ ?_)
   | (with_reducible refine LeO.bind ?_ (fun _ => ?_))
   | exact ih0 _ _ _ _ _ _ _
   | exact ih1 _ _ _ _ _ _
   | exact ih2 _ _ _ _ _ _ _
   | exact ih3 _ _ _ _ _ _
   | exact ih4 _ _ _ _ _ _ _
   | exact spec_l06Code.mono _ _ _ _
   | exact spec_l06Within.mono _ _ _ _ _ _ _
   | exact LeO.none _
   | refine LeO.ite ?_ ?_
   | refine LeO.bind ?_ (fun _ => ?_)
  ·intro y0 y1 y2 y3 y4 y5
   unfold spec_MostWind.j1
   repeat' first
   | (with_reducible exact ih0 _ _ _ _ _ _ _)
   | (with_reducible exact ih1 _ _ _ _ _ _)
   | (with_reducible exact ih2 _ _ _ _ _ _ _)
   | (with_reducible exact ih3 _ _ _ _ _ _)
   | (with_reducible exact ih4 _ _ _ _ _ _ _)
   | (with_reducible exact spec_l06Code.mono _ _ _ _)
   | (with_reducible exact spec_l06Within.mono _ _ _ _ _ _ _)
   | (with_reducible exact LeO.refl _)
   | (with_reducible exact LeO.none _)
   | (with_reducible refine LeO.ite ?_ ?_)
   | (with_reducible refine LeO.bind ?_ (fun _ => ?_))
   | exact ih0 _ _ _ _ _ _ _
   | exact ih1 _ _ _ _ _ _
   | exact ih2 _ _ _ _ _ _ _
   | exact ih3 _ _ _ _ _ _
   | exact ih4 _ _ _ _ _ _ _
   | exact spec_l06Code.mono _ _ _ _
   | exact spec_l06Within.mono _ _ _ _ _ _ _
   | exact LeO.none _
   | refine LeO.ite ?_ ?_
   | refine LeO.bind ?_ (fun _ => ?_)
  ·intro y0 y1 y2 y3 y4 y5 y6
   unfold spec_MostWind.j2
   repeat' first
   | (with_reducible exact ih0 _ _ _ _ _ _ _)
   | (with_reducible exact ih1 _ _ _ _ _ _)
   | (with_reducible exact ih2 _ _ _ _ _ _ _)
   | (with_reducible exact ih3 _ _ _ _ _ _)
   | (with_reducible exact ih4 _ _ _ _ _ _ _)
   | (with_reducible exact spec_l06Code.mono _ _ _ _)
   | (with_reducible exact spec_l06Within.mono _ _ _ _ _ _ _)
   | (with_reducible exact LeO.refl _)
   | (with_reducible exact LeO.none _)
   | (with_reducible refine LeO.ite ?_ ?_)
   | (with_reducible refine LeO.bind ?_ (fun _ => ?_))
   | exact ih0 _ _ _ _ _ _ _
   | exact ih1 _ _ _ _ _ _
   | exact ih2 _ _ _ _ _ _ _
   | exact ih3 _ _ _ _ _ _
   | exact ih4 _ _ _ _ _ _ _
   | exact spec_l06Code.mono _ _ _ _
   | exact spec_l06Within.mono _ _ _ _ _ _ _
   | exact LeO.none _
   | refine LeO.ite ?_ ?_
   | refine LeO.bind ?_ (fun _ => ?_)
  ·intro y0 y1 y2 y3 y4 y5
   unfold spec_MostWind.j3
   repeat' first
   | (with_reducible exact ih0 _ _ _ _ _ _ _)
   | (with_reducible exact ih1 _ _ _ _ _ _)
   | (with_reducible exact ih2 _ _ _ _ _ _ _)
   | (with_reducible exact ih3 _ _ _ _ _ _)
   | (with_reducible exact ih4 _ _ _ _ _ _ _)
   | (with_reducible exact spec_l06Code.mono _ _ _ _)
   | (with_reducible exact spec_l06Within.mono _ _ _ _ _ _ _)
   | (with_reducible exact LeO.refl _)
   | (with_reducible exact LeO.none _)
   | (with_reducible refine LeO.ite ?_ ?_)
   | (with_reducible refine LeO.bind ?_ (fun _ => ?_))
   | exact ih0 _ _ _ _ _ _ _
   | exact ih1 _ _ _ _ _ _
   | exact ih2 _ _ _ _ _ _ _
   | exact ih3 _ _ _ _ _ _
   | exact ih4 _ _ _ _ _ _ _
   | exact spec_l06Code.mono _ _ _ _
   | exact spec_l06Within.mono _ _ _ _ _ _ _
   | exact LeO.none _
   | refine LeO.ite ?_ ?_
   | refine LeO.bind ?_ (fun _ => ?_)
  ·intro y0 y1 y2 y3 y4 y5 y6
   unfold spec_MostWind.l0
   repeat' first
   | (with_reducible exact ih0 _ _ _ _ _ _ _)
   | (with_reducible exact ih1 _ _ _ _ _ _)
   | (with_reducible exact ih2 _ _ _ _ _ _ _)
   | (with_reducible exact ih3 _ _ _ _ _ _)
   | (with_reducible exact ih4 _ _ _ _ _ _ _)
   | (with_reducible exact spec_l06Code.mono _ _ _ _)
   | (with_reducible exact spec_l06Within.mono _ _ _ _ _ _ _)
   | (with_reducible exact LeO.refl _)
   | (with_reducible exact LeO.none _)
   | (with_reducible refine LeO.ite ?_ ?_)
   | (with_reducible refine LeO.bind ?_ (fun _ => ?_))
   | exact ih0 _ _ _ _ _ _ _
   | exact ih1 _ _ _ _ _ _
   | exact ih2 _ _ _ _ _ _ _
   | exact ih3 _ _ _ _ _ _
   | exact ih4 _ _ _ _ _ _ _
   | exact spec_l06Code.mono _ _ _ _
   | exact spec_l06Within.mono _ _ _ _ _ _ _
   | exact LeO.none _
   | refine LeO.ite ?_ ?_
   | refine LeO.bind ?_ (fun _ => ?_)
theorem spec_MostWind.mono : ∀ a0 a1 a2 a3 a4 k, LeO (spec_MostWind.f k a0 a1 a2 a3 a4) (spec_MostWind.f (k + 1) a0 a1 a2 a3 a4) := by
 intro a0 a1 a2 a3 a4 k
 obtain ⟨ih0, ih1, ih2, ih3, ih4⟩ := spec_MostWind.mono_l k
 unfold spec_MostWind.f
 repeat' first
   | (with_reducible exact ih0 _ _ _ _ _ _ _)
   | (with_reducible exact ih1 _ _ _ _ _ _)
   | (with_reducible exact ih2 _ _ _ _ _ _ _)
   | (with_reducible exact ih3 _ _ _ _ _ _)
   | (with_reducible exact ih4 _ _ _ _ _ _ _)
   | (with_reducible exact spec_l06Code.mono _ _ _ _)
   | (with_reducible exact spec_l06Within.mono _ _ _ _ _ _ _)
   | (with_reducible exact LeO.refl _)
   | (with_reducible exact LeO.none _)
   | (with_reducible refine LeO.ite ?_ ?_)
   | (with_reducible refine LeO.bind ?_ (fun _ => ?_))
   | exact ih0 _ _ _ _ _ _ _
   | exact ih1 _ _ _ _ _ _
   | exact ih2 _ _ _ _ _ _ _
   | exact ih3 _ _ _ _ _ _
   | exact ih4 _ _ _ _ _ _ _
   | exact spec_l06Code.mono _ _ _ _
   | exact spec_l06Within.mono _ _ _ _ _ _ _
   | exact LeO.none _
   | refine LeO.ite ?_ ?_
   | refine LeO.bind ?_ (fun _ => ?_)
set_option maxHeartbeats 8000000 in
set_option maxRecDepth 100000 in
theorem spec_MostWind.calls (k : Nat) (a0_0 : Int) (a0_1 : Int) (a0_2 : Int) (a0_3 : Int) (a1 : Int) (r1 : Int) (r2 : Int) (w : World) (h : spec_MostWind.f k a0_0 a0_1 a0_2 a0_3 a1 = some (r1, r2)) :
  Calls Try.prog 9 #[.agg #[.int .i64 a0_0, .int .i64 a0_1, .int .i64 a0_2, .int .i64 a0_3], .int .i64 a1] w fun e w' => e = .returned (.tuple #[.int .i64 r1, .int .i64 r2]) ∧ Below w.heap.size w w' := by
 have hu25 := Try.underlying25
 have HB := Aside0.mk (Below.refl w.heap.size w)
 have H : ((spec_l06Code.f k (([(⟨a0_0, a0_1, a0_2, a0_3⟩ : S25)] : List (S25))) 0 0).bind fun t312 => (if t312 = 0 then ((spec_l01In.f a1 0 100000000).bind fun t313 => (spec_MostWind.j0 k a1 t312 (!t313) a0_0 a0_1 a0_2 a0_3)) else (spec_MostWind.j0 k a1 t312 false a0_0 a0_1 a0_2 a0_3))) = some (r1, r2) := h
 clear h
 obtain ⟨y309, hy309⟩ : ∃ y_ : List (S25), y_ = (([(⟨a0_0, a0_1, a0_2, a0_3⟩ : S25)] : List (S25))) := ⟨_, rfl⟩
 replace H : ((spec_l06Code.f k y309 0 0).bind fun t312 => (if t312 = 0 then ((spec_l01In.f a1 0 100000000).bind fun t313 => (spec_MostWind.j0 k a1 t312 (!t313) a0_0 a0_1 a0_2 a0_3)) else (spec_MostWind.j0 k a1 t312 false a0_0 a0_1 a0_2 a0_3))) = some (r1, r2) := by first | (rw [hy309]; with_reducible exact H) | (have H2_ := (Option.bind_some _ _).symm.trans H; rw [hy309]; with_reducible exact H2_) | (have H2_ := (Option.bind_some _ _).symm.trans H; with_reducible exact H2_) | with_reducible exact H | (rw [hy309]; exact H) | exact H
 have Ny309 := Aside0.mk hy309
 clear hy309
 replace H := Option.bind_eq_some_iff.mp H
 obtain ⟨t312, A30, H⟩ := H
 replace H : (if t312 = 0 then ((spec_l01In.f a1 0 100000000).bind fun t313 => (spec_MostWind.j0 k a1 t312 (!t313) a0_0 a0_1 a0_2 a0_3)) else (spec_MostWind.j0 k a1 t312 false a0_0 a0_1 a0_2 a0_3)) = some (r1, r2) := H
 have A3 := Aside0.mk A30
 clear A30
 have HC4 := Aside0.mk H
 clear H
 go_enter Try.func9, Try.ntmps9
 go_upto_region 2 with (first | ((with_reducible refine gate_dst (N := 2) rfl ?_); refine box_event ?hg (N := 2) ?hd (cs := #[.int .i64 a0_0, .int .i64 a0_1, .int .i64 a0_2, .int .i64 a0_3]) (t := 25) ?hr ?_; (case hd => rfl); (case hg => rfl); (case hr => first | (go_simp; done) | (go_simp; rfl)); intro gb308 hg w5 hbox hb; have n0_ := Aside0.mk (below_step (by repeat (first | (with_reducible first | exact HB.out | apply below_alloc | apply pw_below_drewN | apply below_drew1) | exact HB.out)) hb); have n1_ := Aside0.mk (hbox); have n2_ := Aside0.mk ((by rw [hg]; exact (below_size (by repeat (first | (with_reducible first | exact HB.out | apply below_alloc | apply pw_below_drewN | apply below_drew1) | exact HB.out))) : w.heap.size ≤ gb308)); have n3_ := Aside0.mk ((by rw [hg]; exact (below_size (by repeat (first | (with_reducible first | exact HB.out | apply below_alloc | apply pw_below_drewN | apply below_drew1) | exact HB.out))) : w.heap.size ≤ gb308)); clear HB; have HB := n0_; have BK308 := n1_; have GW308 := n2_; have GE308 := n3_; clear n0_ n1_ n2_ n3_; clear hb hbox hg; have hcz6_0 : w5.cell? ⟨gb308, 0, none⟩ = some (.int .i64 a0_0) := (blk_cell BK308.out 0).trans rfl; have hcz6_1 : w5.cell? ⟨gb308, 1, none⟩ = some (.int .i64 a0_1) := (blk_cell BK308.out 1).trans rfl; have hcz6_2 : w5.cell? ⟨gb308, 2, none⟩ = some (.int .i64 a0_2) := (blk_cell BK308.out 2).trans rfl; have hcz6_3 : w5.cell? ⟨gb308, 3, none⟩ = some (.int .i64 a0_3) := (blk_cell BK308.out 3).trans rfl; have hfz6_0 := blk_frozen BK308.out 0; have hfz6_1 := blk_frozen BK308.out 1; have hfz6_2 := blk_frozen BK308.out 2; have hfz6_3 := blk_frozen BK308.out 3) | ((with_reducible refine gate_dst (N := 11) rfl ?_); refine Kd.R_lit k25 _ 25 ?hg (N := 11) ?hd (xs := ([(⟨a0_0, a0_1, a0_2, a0_3⟩ : S25)] : List (S25))) (inner := [.int .i64 a0_0, .int .i64 a0_1, .int .i64 a0_2, .int .i64 a0_3]) (ok := fun _ => True) (okp := fun _ => True) ?hr ?hp (fun _ hk => hk) trivial (Below.refl _ _) (Nat.le_refl _) (by simp) ?_; (case hd => rfl); (case hg => rfl); (case hr => first | (go_simp; done) | (go_simp; rfl)); (case hp => exact (Reps.c4 (show Kd.M k25 _ _ _ (⟨a0_0, a0_1, a0_2, a0_3⟩ : S25) [.int .i64 a0_0, .int .i64 a0_1, .int .i64 a0_2, .int .i64 a0_3] from (k25_mkM _ _ _ (⟨a0_0, a0_1, a0_2, a0_3⟩ : S25) )) (Reps.none _ _))); intro v310 w7 ho8 hb hg_ hnew_; clear hg_ hnew_; (first | rw [← Ny309.out] at ho8 | (simp only [Int.reduceToNat] at ho8; rw [← Ny309.out] at ho8)); have n0_ := Aside0.mk (Kd.R_lower (Kd.R_newB ho8 (g := gb308) (o := .cells #[.int .i64 a0_0, .int .i64 a0_1, .int .i64 a0_2, .int .i64 a0_3] 25 (0, 0)) (by (with_reducible repeat (first | refine blk_drewN ?_ _ | refine blk_drew ?_ | refine blk_alloc ?_ _)); exact BK308.out)) (below_size (by repeat (first | (with_reducible first | exact HB.out | apply below_alloc | apply pw_below_drewN | apply below_drew1 | refine below_set ?_ GE308.out) | exact HB.out)))); have n1_ := Aside0.mk (blk_below (g := gb308) (o := .cells #[.int .i64 a0_0, .int .i64 a0_1, .int .i64 a0_2, .int .i64 a0_3] 25 (0, 0)) (by (with_reducible repeat (first | refine blk_drewN ?_ _ | refine blk_drew ?_ | refine blk_alloc ?_ _)); exact BK308.out) hb); have n2_ := Aside0.mk (below_step (by repeat (first | (with_reducible first | exact HB.out | apply below_alloc | apply pw_below_drewN | apply below_drew1 | refine below_set ?_ GE308.out) | exact HB.out)) hb); clear BK308; clear HB; have HO311 := n0_; have BK308 := n1_; have HB := n2_; clear n0_ n1_ n2_; clear hb ho8; obtain ⟨Ao9, co9, eo9⟩ := Kd.R_slice HO311.out; subst eo9) | ((with_reducible refine gate_callee (f := 36) rfl ?_); refine goesL_ (some 12) rfl rfl Try.func36 (by kernel_rfl) rfl #[.slice Ao9 y309.length co9, .int .i64 0, .int .i64 0] rfl (by (try simp only [List.map_toArray, List.map_cons, List.map_nil]); first | done | rfl | (simp only [List.length_drop, List.length_take]; rfl)) ?_; (with_reducible refine (spec_l06Code.calls k _ _ y309 0 0 t312 _ ?side1 ?side2 A3.out).mono ?_); (case side1 => repeat (first | exact (Kd.R_reads' HO311.out).2.2 | (with_reducible refine Kd.C_alloc ?_ _) | (with_reducible refine Kd.C_drewN ?_ _) | (with_reducible refine Kd.C_drew ?_))); (case side2 => exact (Kd.R_reads' HO311.out).2.1); rintro e w10 ⟨rfl, hb⟩; refine ⟨_, rfl, ?_⟩; have n0_ := Aside0.mk (Kd.R_below (by (with_reducible repeat (first | apply Kd.R_alloc | apply Kd.R_drewN | apply Kd.R_drew)); exact HO311.out) hb); have n1_ := Aside0.mk (blk_below (g := gb308) (o := .cells #[.int .i64 a0_0, .int .i64 a0_1, .int .i64 a0_2, .int .i64 a0_3] 25 (0, 0)) (by (with_reducible repeat (first | refine blk_drewN ?_ _ | refine blk_drew ?_ | refine blk_alloc ?_ _)); exact BK308.out) hb); have n2_ := Aside0.mk (below_step (by repeat (first | (with_reducible first | exact HB.out | apply below_alloc | apply pw_below_drewN | apply below_drew1 | refine below_set ?_ GE308.out) | exact HB.out)) hb); clear HO311; clear BK308; clear HB; have HO311 := n0_; have BK308 := n1_; have HB := n2_; clear n0_ n1_ n2_; (try clear hb); (try clear hb2); (try clear hk); (try clear hi)))
 (try simp only [Act.put, List.setIfInBounds_toArray, List.set_cons_zero, List.set_cons_succ])
 go_cut [19] (fun v19 wc => ∃ (kq : Nat) (x19_3 : Bool), v19 = .bool x19_3 ∧ Aside0 (spec_MostWind.j0 kq a1 t312 x19_3 a0_0 a0_1 a0_2 a0_3 = some (r1, r2)) ∧ Aside0 (kq ≤ k) ∧ Aside0 (wc.heap[gb308]? = some (.cells #[.int .i64 a0_0, .int .i64 a0_1, .int .i64 a0_2, .int .i64 a0_3] 25 (0, 0))) ∧ Aside0 (Below w.heap.size w wc))
 case first =>
  have H := HC4.out
  clear HC4
  by_cases c11 : t312 = 0
  ·rw [if_pos c11] at H
   have c11b0 : (t312 == 0) = true := beq_iff_eq.mpr c11
   have c11b1 : (t312 != 0) = false := bne_eq_false_iff_eq.mpr c11
   clear c11
   (first | rw [c11b0] | (simp only [i64_w, i32_w]; rw [c11b0]) | skip)
   replace H := Option.bind_eq_some_iff.mp H
   obtain ⟨t313, A120, H⟩ := H
   replace H : (spec_MostWind.j0 k a1 t312 (!t313) a0_0 a0_1 a0_2 a0_3) = some (r1, r2) := H
   have A12 := Aside0.mk A120
   clear A120
   have H' := Aside0.mk H
   clear H
   go_wp2_with (first | (go_at_call 37; (with_reducible refine (spec_l01In.calls a1 0 100000000 t313 _ A12.out).mono ?_); rintro e w' ⟨rfl, ⟨nd, rfl⟩⟩))
   go_meet
   case rel => exact ⟨_, (!t313), (by first | rfl | (simp; done) | (simp [*]; done)), H', ⟨by first | omega | exact Nat.le_refl _⟩, ⟨by (with_reducible repeat (first | refine blk_drewN ?_ _ | refine blk_drew ?_ | refine blk_alloc ?_ _)); exact BK308.out⟩, ⟨by repeat (first | (with_reducible first | exact HB.out | apply below_alloc | apply pw_below_drewN | apply below_drew1 | refine below_set ?_ GE308.out) | exact HB.out)⟩⟩
  ·rw [if_neg c11] at H
   have c11b0 : (t312 == 0) = false := beq_eq_false_iff_ne.mpr c11
   have c11b1 : (t312 != 0) = true := bne_iff_ne.mpr c11
   (first | rw [c11b0] | (simp only [i64_w, i32_w]; rw [c11b0]) | skip)
   have H' := Aside0.mk H
   clear H
   go_wp2
   go_meet
   case rel => exact ⟨_, (false), (by first | rfl | (simp; done) | (simp [*]; done)), H', ⟨by first | omega | exact Nat.le_refl _⟩, ⟨by (with_reducible repeat (first | refine blk_drewN ?_ _ | refine blk_drew ?_ | refine blk_alloc ?_ _)); exact BK308.out⟩, ⟨by repeat (first | (with_reducible first | exact HB.out | apply below_alloc | apply pw_below_drewN | apply below_drew1 | refine below_set ?_ GE308.out) | exact HB.out)⟩⟩
 case rest =>
  clear HC4
  try clear c1
  try clear p2
  try clear c3
  try clear c4
  try clear c9
  try clear c11
  try clear c11b0
  try clear c11b1
  try clear hcz6_0
  try clear hcz6_1
  try clear hcz6_2
  try clear hcz6_3
  try clear hfz6_0
  try clear hfz6_1
  try clear hfz6_2
  try clear hfz6_3
  obtain ⟨kq, x19_3, rfl, HA, HJ3, BK308, HB⟩ := hcut
  cases kq with
  | zero => exact absurd HA.out (by simp [spec_MostWind.j0])
  | succ kj3 =>
   have H := HA.out
   clear HA
   simp only [spec_MostWind.j0] at H
   have HC13 := Aside0.mk H
   clear H
   go_upto_if 19 with (fail)
   go_cut [6] (fun v6 wc => ∃ (kq : Nat) (x6_12 : Int), v6 = .int .i64 x6_12 ∧ Aside0 (spec_MostWind.j1 kq a1 x6_12 a0_0 a0_1 a0_2 a0_3 = some (r1, r2)) ∧ Aside0 (kq ≤ kj3) ∧ Aside0 (wc.heap[gb308]? = some (.cells #[.int .i64 a0_0, .int .i64 a0_1, .int .i64 a0_2, .int .i64 a0_3] 25 (0, 0))) ∧ Aside0 (Below w.heap.size w wc))
   case first =>
    have H := HC13.out
    clear HC13
    by_cases c14 : x19_3 = true
    ·subst c14
     have H1 : (spec_MostWind.j1 kj3 a1 2 a0_0 a0_1 a0_2 a0_3) = some (r1, r2) := by rw [if_pos rfl] at H; exact H
     clear H
     have H := H1
     clear H1
     have H' := Aside0.mk H
     clear H
     go_wp2
     go_meet
     case rel => exact ⟨_, (2), (by first | rfl | (simp; done) | (simp [*]; done)), H', ⟨by have := HJ3.out; first | omega | exact Nat.le_refl _⟩, ⟨by (with_reducible repeat (first | refine blk_drewN ?_ _ | refine blk_drew ?_ | refine blk_alloc ?_ _)); exact BK308.out⟩, ⟨by repeat (first | (with_reducible first | exact HB.out | apply below_alloc | apply pw_below_drewN | apply below_drew1 | refine below_set ?_ GE308.out) | exact HB.out)⟩⟩
    ·replace c14 := Bool.eq_false_iff.mpr c14
     subst c14
     have H1 : (spec_MostWind.j1 kj3 a1 t312 a0_0 a0_1 a0_2 a0_3) = some (r1, r2) := by rw [if_neg (show ¬ (false = true) by decide)] at H; exact H
     clear H
     have H := H1
     clear H1
     have H' := Aside0.mk H
     clear H
     go_wp2
     go_meet
     case rel => exact ⟨_, (t312), (by first | rfl | (simp; done) | (simp [*]; done)), H', ⟨by have := HJ3.out; first | omega | exact Nat.le_refl _⟩, ⟨by (with_reducible repeat (first | refine blk_drewN ?_ _ | refine blk_drew ?_ | refine blk_alloc ?_ _)); exact BK308.out⟩, ⟨by repeat (first | (with_reducible first | exact HB.out | apply below_alloc | apply pw_below_drewN | apply below_drew1 | refine below_set ?_ GE308.out) | exact HB.out)⟩⟩
   case rest =>
    clear HC13
    try clear c1
    try clear p2
    try clear c3
    try clear c4
    try clear c9
    try clear c11
    try clear c11b0
    try clear c11b1
    try clear c14
    try clear hcz6_0
    try clear hcz6_1
    try clear hcz6_2
    try clear hcz6_3
    try clear hfz6_0
    try clear hfz6_1
    try clear hfz6_2
    try clear hfz6_3
    try clear p2
    obtain ⟨kq, x6_12, rfl, HA, HJ12, BK308, HB⟩ := hcut
    cases kq with
    | zero => exact absurd HA.out (by simp [spec_MostWind.j1])
    | succ kj12 =>
     have H := HA.out
     clear HA
     simp only [spec_MostWind.j1] at H
     have HC15 := Aside0.mk H
     clear H
     go_upto_region 4 with (fail)
     go_cut [27] (fun v27 wc => ∃ (kq : Nat) (x27_14 : Bool), v27 = .bool x27_14 ∧ Aside0 (spec_MostWind.j2 kq a1 x6_12 x27_14 a0_0 a0_1 a0_2 a0_3 = some (r1, r2)) ∧ Aside0 (kq ≤ kj12) ∧ Aside0 (wc.heap[gb308]? = some (.cells #[.int .i64 a0_0, .int .i64 a0_1, .int .i64 a0_2, .int .i64 a0_3] 25 (0, 0))) ∧ Aside0 (Below w.heap.size w wc))
     case first =>
      have H := HC15.out
      clear HC15
      by_cases c16 : x6_12 = 0
      ·rw [if_pos c16] at H
       have c16b0 : (x6_12 == 0) = true := beq_iff_eq.mpr c16
       have c16b1 : (x6_12 != 0) = false := bne_eq_false_iff_eq.mpr c16
       clear c16
       (first | rw [c16b0] | (simp only [i64_w, i32_w]; rw [c16b0]) | skip)
       replace H := Option.bind_eq_some_iff.mp H
       obtain ⟨t314, A170, H⟩ := H
       replace H : (spec_MostWind.j2 kj12 a1 x6_12 (!t314) a0_0 a0_1 a0_2 a0_3) = some (r1, r2) := H
       have A17 := Aside0.mk A170
       clear A170
       have H' := Aside0.mk H
       clear H
       have hcz18_0 : wc.cell? ⟨gb308, 0, none⟩ = some (.int .i64 a0_0) := (blk_cell BK308.out 0).trans rfl
       have hcz18_1 : wc.cell? ⟨gb308, 1, none⟩ = some (.int .i64 a0_1) := (blk_cell BK308.out 1).trans rfl
       have hcz18_2 : wc.cell? ⟨gb308, 2, none⟩ = some (.int .i64 a0_2) := (blk_cell BK308.out 2).trans rfl
       have hcz18_3 : wc.cell? ⟨gb308, 3, none⟩ = some (.int .i64 a0_3) := (blk_cell BK308.out 3).trans rfl
       have hfz18_0 := blk_frozen BK308.out 0
       have hfz18_1 := blk_frozen BK308.out 1
       have hfz18_2 := blk_frozen BK308.out 2
       have hfz18_3 := blk_frozen BK308.out 3
       go_wp2_with (first | (go_at_call 38; (with_reducible refine (spec_l06Within.calls kj12 a0_0 a0_1 a0_2 a0_3 0 a1 t314 _ A17.out).mono ?_); rintro e w19 ⟨rfl, hb⟩; have n0_ := Aside0.mk (blk_below (g := gb308) (o := .cells #[.int .i64 a0_0, .int .i64 a0_1, .int .i64 a0_2, .int .i64 a0_3] 25 (0, 0)) (by (with_reducible repeat (first | refine blk_drewN ?_ _ | refine blk_drew ?_ | refine blk_alloc ?_ _)); exact BK308.out) hb); have n1_ := Aside0.mk (below_step (by repeat (first | (with_reducible first | exact HB.out | apply below_alloc | apply pw_below_drewN | apply below_drew1 | refine below_set ?_ GE308.out) | exact HB.out)) hb); clear BK308; clear HB; have BK308 := n0_; have HB := n1_; clear n0_ n1_; (try clear hb); (try clear hb2); (try clear hk); (try clear hi)))
       go_meet
       case rel => exact ⟨_, (!t314), (by first | rfl | (simp; done) | (simp [*]; done)), H', ⟨by have := HJ3.out; have := HJ12.out; first | omega | exact Nat.le_refl _⟩, ⟨by (with_reducible repeat (first | refine blk_drewN ?_ _ | refine blk_drew ?_ | refine blk_alloc ?_ _)); exact BK308.out⟩, ⟨by repeat (first | (with_reducible first | exact HB.out | apply below_alloc | apply pw_below_drewN | apply below_drew1 | refine below_set ?_ GE308.out) | exact HB.out)⟩⟩
      ·rw [if_neg c16] at H
       have c16b0 : (x6_12 == 0) = false := beq_eq_false_iff_ne.mpr c16
       have c16b1 : (x6_12 != 0) = true := bne_iff_ne.mpr c16
       (first | rw [c16b0] | (simp only [i64_w, i32_w]; rw [c16b0]) | skip)
       have H' := Aside0.mk H
       clear H
       go_wp2
       go_meet
       case rel => exact ⟨_, (false), (by first | rfl | (simp; done) | (simp [*]; done)), H', ⟨by have := HJ3.out; have := HJ12.out; first | omega | exact Nat.le_refl _⟩, ⟨by (with_reducible repeat (first | refine blk_drewN ?_ _ | refine blk_drew ?_ | refine blk_alloc ?_ _)); exact BK308.out⟩, ⟨by repeat (first | (with_reducible first | exact HB.out | apply below_alloc | apply pw_below_drewN | apply below_drew1 | refine below_set ?_ GE308.out) | exact HB.out)⟩⟩
     case rest =>
      clear HC15
      try clear c1
      try clear p2
      try clear c3
      try clear c4
      try clear c9
      try clear c11
      try clear c11b0
      try clear c11b1
      try clear c14
      try clear c16
      try clear c16b0
      try clear c16b1
      try clear hcz18_0
      try clear hcz18_1
      try clear hcz18_2
      try clear hcz18_3
      try clear hcz6_0
      try clear hcz6_1
      try clear hcz6_2
      try clear hcz6_3
      try clear hfz18_0
      try clear hfz18_1
      try clear hfz18_2
      try clear hfz18_3
      try clear hfz6_0
      try clear hfz6_1
      try clear hfz6_2
      try clear hfz6_3
      try clear p2
      obtain ⟨kq, x27_14, rfl, HA, HJ14, BK308, HB⟩ := hcut
      cases kq with
      | zero => exact absurd HA.out (by simp [spec_MostWind.j2])
      | succ kj14 =>
       have H := HA.out
       clear HA
       simp only [spec_MostWind.j2] at H
       have HC20 := Aside0.mk H
       clear H
       go_upto_if 27 with (fail)
       go_cut [6] (fun v6 wc => ∃ (kq : Nat) (x6_19 : Int), v6 = .int .i64 x6_19 ∧ Aside0 (spec_MostWind.j3 kq a1 x6_19 a0_0 a0_1 a0_2 a0_3 = some (r1, r2)) ∧ Aside0 (kq ≤ kj14) ∧ Aside0 (wc.heap[gb308]? = some (.cells #[.int .i64 a0_0, .int .i64 a0_1, .int .i64 a0_2, .int .i64 a0_3] 25 (0, 0))) ∧ Aside0 (Below w.heap.size w wc))
       case first =>
        have H := HC20.out
        clear HC20
        by_cases c21 : x27_14 = true
        ·subst c21
         have H1 : (spec_MostWind.j3 kj14 a1 4 a0_0 a0_1 a0_2 a0_3) = some (r1, r2) := by rw [if_pos rfl] at H; exact H
         clear H
         have H := H1
         clear H1
         have H' := Aside0.mk H
         clear H
         go_wp2
         go_meet
         case rel => exact ⟨_, (4), (by first | rfl | (simp; done) | (simp [*]; done)), H', ⟨by have := HJ3.out; have := HJ12.out; have := HJ14.out; first | omega | exact Nat.le_refl _⟩, ⟨by (with_reducible repeat (first | refine blk_drewN ?_ _ | refine blk_drew ?_ | refine blk_alloc ?_ _)); exact BK308.out⟩, ⟨by repeat (first | (with_reducible first | exact HB.out | apply below_alloc | apply pw_below_drewN | apply below_drew1 | refine below_set ?_ GE308.out) | exact HB.out)⟩⟩
        ·replace c21 := Bool.eq_false_iff.mpr c21
         subst c21
         have H1 : (spec_MostWind.j3 kj14 a1 x6_12 a0_0 a0_1 a0_2 a0_3) = some (r1, r2) := by rw [if_neg (show ¬ (false = true) by decide)] at H; exact H
         clear H
         have H := H1
         clear H1
         have H' := Aside0.mk H
         clear H
         go_wp2
         go_meet
         case rel => exact ⟨_, (x6_12), (by first | rfl | (simp; done) | (simp [*]; done)), H', ⟨by have := HJ3.out; have := HJ12.out; have := HJ14.out; first | omega | exact Nat.le_refl _⟩, ⟨by (with_reducible repeat (first | refine blk_drewN ?_ _ | refine blk_drew ?_ | refine blk_alloc ?_ _)); exact BK308.out⟩, ⟨by repeat (first | (with_reducible first | exact HB.out | apply below_alloc | apply pw_below_drewN | apply below_drew1 | refine below_set ?_ GE308.out) | exact HB.out)⟩⟩
       case rest =>
        clear HC20
        try clear c1
        try clear c2
        try clear p2
        try clear c3
        try clear c4
        try clear c9
        try clear c11
        try clear c11b0
        try clear c11b1
        try clear c14
        try clear c16
        try clear c16b0
        try clear c16b1
        try clear c21
        try clear hcz18_0
        try clear hcz18_1
        try clear hcz18_2
        try clear hcz18_3
        try clear hcz6_0
        try clear hcz6_1
        try clear hcz6_2
        try clear hcz6_3
        try clear hfz18_0
        try clear hfz18_1
        try clear hfz18_2
        try clear hfz18_3
        try clear hfz6_0
        try clear hfz6_1
        try clear hfz6_2
        try clear hfz6_3
        try clear p2
        obtain ⟨kq, x6_19, rfl, HA, HJ19, BK308, HB⟩ := hcut
        cases kq with
        | zero => exact absurd HA.out (by simp [spec_MostWind.j3])
        | succ kj19 =>
         have H := HA.out
         clear HA
         simp only [spec_MostWind.j3] at H
         by_cases c22 : x6_19 = 0
         ·rw [if_pos c22] at H
          have c22b0 : (x6_19 == 0) = true := beq_iff_eq.mpr c22
          have c22b1 : (x6_19 != 0) = false := bne_eq_false_iff_eq.mpr c22
          clear c22
          have H' := Aside0.mk H
          clear H
          go_wp2
          go_loopg [7, 8] kj19 (fun kq v7 v8 w' => ∃ (x7_5 : Int) (x8_5 : Int), v7 = .int .i64 x7_5 ∧ v8 = .int .i64 x8_5 ∧ Aside0 (spec_MostWind.l0 kq a1 x7_5 x8_5 a0_0 a0_1 a0_2 a0_3 = some (r1, r2)) ∧ Aside0 (kq ≤ kj19) ∧ Aside0 (w'.heap[gb308]? = some (.cells #[.int .i64 a0_0, .int .i64 a0_1, .int .i64 a0_2, .int .i64 a0_3] 25 (0, 0))) ∧ Aside0 (Below w.heap.size w w'))
          case atStart => exact ⟨(0), (50001), (by first | rfl | (simp; done) | (simp [*]; done)), (by first | rfl | (simp; done) | (simp [*]; done)), H', ⟨Nat.le_refl _⟩, ⟨by (with_reducible repeat (first | refine blk_drewN ?_ _ | refine blk_drew ?_ | refine blk_alloc ?_ _)); exact BK308.out⟩, ⟨by repeat (first | (with_reducible first | exact HB.out | apply below_alloc | apply pw_below_drewN | apply below_drew1 | refine below_set ?_ GE308.out) | exact HB.out)⟩⟩
          case round =>
           clear H'
           try clear c1
           try clear c2
           try clear p2
           try clear c3
           try clear c4
           try clear c9
           try clear c11
           try clear c11b0
           try clear c11b1
           try clear c14
           try clear c16
           try clear c16b0
           try clear c16b1
           try clear c21
           try clear c22
           try clear c22b0
           try clear c22b1
           try clear hcz18_0
           try clear hcz18_1
           try clear hcz18_2
           try clear hcz18_3
           try clear hcz6_0
           try clear hcz6_1
           try clear hcz6_2
           try clear hcz6_3
           try clear hfz18_0
           try clear hfz18_1
           try clear hfz18_2
           try clear hfz18_3
           try clear hfz6_0
           try clear hfz6_1
           try clear hfz6_2
           try clear hfz6_3
           try clear p2
           obtain ⟨x7_5, x8_5, rfl, rfl, HA, HK5, BK308, HB⟩ := hrel
           cases gk with
           | zero => exact absurd HA.out (by simp [spec_MostWind.l0])
           | succ k5 =>
            have H := HA.out
            clear HA
            simp only [spec_MostWind.l0] at H
            by_cases c23 : (wrap64 (x7_5 + 1)) < x8_5
            ·rw [if_pos c23] at H
             have c23b0 : decide ((wrap64 (x7_5 + 1)) < x8_5) = true := decide_eq_true c23
             clear c23
             replace H := Option.bind_eq_some_iff.mp H
             obtain ⟨t315, A240, H⟩ := H
             replace H : (if t315 = true then (spec_MostWind.l0 k5 a1 (wrap64 (Int.tdiv (wrap64 (x7_5 + x8_5)) 2)) x8_5 a0_0 a0_1 a0_2 a0_3) else (spec_MostWind.l0 k5 a1 x7_5 (wrap64 (Int.tdiv (wrap64 (x7_5 + x8_5)) 2)) a0_0 a0_1 a0_2 a0_3)) = some (r1, r2) := H
             have A24 := Aside0.mk A240
             clear A240
             by_cases c25 : t315 = true
             ·subst c25
              have H1 : (spec_MostWind.l0 k5 a1 (wrap64 (Int.tdiv (wrap64 (x7_5 + x8_5)) 2)) x8_5 a0_0 a0_1 a0_2 a0_3) = some (r1, r2) := by rw [if_pos rfl] at H; exact H
              clear H
              have H := H1
              clear H1
              have H' := Aside0.mk H
              clear H
              have hcz26_0 : wr.cell? ⟨gb308, 0, none⟩ = some (.int .i64 a0_0) := (blk_cell BK308.out 0).trans rfl
              have hcz26_1 : wr.cell? ⟨gb308, 1, none⟩ = some (.int .i64 a0_1) := (blk_cell BK308.out 1).trans rfl
              have hcz26_2 : wr.cell? ⟨gb308, 2, none⟩ = some (.int .i64 a0_2) := (blk_cell BK308.out 2).trans rfl
              have hcz26_3 : wr.cell? ⟨gb308, 3, none⟩ = some (.int .i64 a0_3) := (blk_cell BK308.out 3).trans rfl
              have hfz26_0 := blk_frozen BK308.out 0
              have hfz26_1 := blk_frozen BK308.out 1
              have hfz26_2 := blk_frozen BK308.out 2
              have hfz26_3 := blk_frozen BK308.out 3
              go_wp2_with (first | ((with_reducible refine gate_callee (f := 38) rfl ?_); refine goesL_ (some 42) rfl rfl Try.func38 (by kernel_rfl) rfl #[.agg #[.int .i64 a0_0, .int .i64 a0_1, .int .i64 a0_2, .int .i64 a0_3], .int .i64 (wrap64 (Int.tdiv (wrap64 (x7_5 + x8_5)) 2)), .int .i64 a1] rfl (by (try simp only [List.map_toArray, List.map_cons, List.map_nil]); first | done | rfl | (simp only [List.length_drop, List.length_take]; rfl)) ?_; (with_reducible refine (spec_l06Within.calls k5 a0_0 a0_1 a0_2 a0_3 (wrap64 (Int.tdiv (wrap64 (x7_5 + x8_5)) 2)) a1 true _ A24.out).mono ?_); rintro e w27 ⟨rfl, hb⟩; refine ⟨_, rfl, ?_⟩; have n0_ := Aside0.mk (blk_below (g := gb308) (o := .cells #[.int .i64 a0_0, .int .i64 a0_1, .int .i64 a0_2, .int .i64 a0_3] 25 (0, 0)) (by (with_reducible repeat (first | refine blk_drewN ?_ _ | refine blk_drew ?_ | refine blk_alloc ?_ _)); exact BK308.out) hb); have n1_ := Aside0.mk (below_step (by repeat (first | (with_reducible first | exact HB.out | apply below_alloc | apply pw_below_drewN | apply below_drew1 | refine below_set ?_ GE308.out) | exact HB.out)) hb); clear BK308; clear HB; have BK308 := n0_; have HB := n1_; clear n0_ n1_; (try clear hb); (try clear hb2); (try clear hk); (try clear hi)))
              go_roundg k5
              case measure => have := HJ3.out; have := HJ12.out; have := HJ14.out; have := HJ19.out; have := HK5.out; omega
              case rel => exact ⟨(wrap64 (Int.tdiv (wrap64 (x7_5 + x8_5)) 2)), (x8_5), (by first | rfl | (simp; done) | (simp [*]; done)), (by first | rfl | (simp; done) | (simp [*]; done)), H', ⟨by have := HJ3.out; have := HJ12.out; have := HJ14.out; have := HJ19.out; have := HK5.out; omega⟩, ⟨by (with_reducible repeat (first | refine blk_drewN ?_ _ | refine blk_drew ?_ | refine blk_alloc ?_ _)); exact BK308.out⟩, ⟨by repeat (first | (with_reducible first | exact HB.out | apply below_alloc | apply pw_below_drewN | apply below_drew1 | refine below_set ?_ GE308.out) | exact HB.out)⟩⟩
             ·replace c25 := Bool.eq_false_iff.mpr c25
              subst c25
              have H1 : (spec_MostWind.l0 k5 a1 x7_5 (wrap64 (Int.tdiv (wrap64 (x7_5 + x8_5)) 2)) a0_0 a0_1 a0_2 a0_3) = some (r1, r2) := by rw [if_neg (show ¬ (false = true) by decide)] at H; exact H
              clear H
              have H := H1
              clear H1
              have H' := Aside0.mk H
              clear H
              have hcz28_0 : wr.cell? ⟨gb308, 0, none⟩ = some (.int .i64 a0_0) := (blk_cell BK308.out 0).trans rfl
              have hcz28_1 : wr.cell? ⟨gb308, 1, none⟩ = some (.int .i64 a0_1) := (blk_cell BK308.out 1).trans rfl
              have hcz28_2 : wr.cell? ⟨gb308, 2, none⟩ = some (.int .i64 a0_2) := (blk_cell BK308.out 2).trans rfl
              have hcz28_3 : wr.cell? ⟨gb308, 3, none⟩ = some (.int .i64 a0_3) := (blk_cell BK308.out 3).trans rfl
              have hfz28_0 := blk_frozen BK308.out 0
              have hfz28_1 := blk_frozen BK308.out 1
              have hfz28_2 := blk_frozen BK308.out 2
              have hfz28_3 := blk_frozen BK308.out 3
              go_wp2_with (first | ((with_reducible refine gate_callee (f := 38) rfl ?_); refine goesL_ (some 42) rfl rfl Try.func38 (by kernel_rfl) rfl #[.agg #[.int .i64 a0_0, .int .i64 a0_1, .int .i64 a0_2, .int .i64 a0_3], .int .i64 (wrap64 (Int.tdiv (wrap64 (x7_5 + x8_5)) 2)), .int .i64 a1] rfl (by (try simp only [List.map_toArray, List.map_cons, List.map_nil]); first | done | rfl | (simp only [List.length_drop, List.length_take]; rfl)) ?_; (with_reducible refine (spec_l06Within.calls k5 a0_0 a0_1 a0_2 a0_3 (wrap64 (Int.tdiv (wrap64 (x7_5 + x8_5)) 2)) a1 false _ A24.out).mono ?_); rintro e w29 ⟨rfl, hb⟩; refine ⟨_, rfl, ?_⟩; have n0_ := Aside0.mk (blk_below (g := gb308) (o := .cells #[.int .i64 a0_0, .int .i64 a0_1, .int .i64 a0_2, .int .i64 a0_3] 25 (0, 0)) (by (with_reducible repeat (first | refine blk_drewN ?_ _ | refine blk_drew ?_ | refine blk_alloc ?_ _)); exact BK308.out) hb); have n1_ := Aside0.mk (below_step (by repeat (first | (with_reducible first | exact HB.out | apply below_alloc | apply pw_below_drewN | apply below_drew1 | refine below_set ?_ GE308.out) | exact HB.out)) hb); clear BK308; clear HB; have BK308 := n0_; have HB := n1_; clear n0_ n1_; (try clear hb); (try clear hb2); (try clear hk); (try clear hi)))
              go_roundg k5
              case measure => have := HJ3.out; have := HJ12.out; have := HJ14.out; have := HJ19.out; have := HK5.out; omega
              case rel => exact ⟨(x7_5), (wrap64 (Int.tdiv (wrap64 (x7_5 + x8_5)) 2)), (by first | rfl | (simp; done) | (simp [*]; done)), (by first | rfl | (simp; done) | (simp [*]; done)), H', ⟨by have := HJ3.out; have := HJ12.out; have := HJ14.out; have := HJ19.out; have := HK5.out; omega⟩, ⟨by (with_reducible repeat (first | refine blk_drewN ?_ _ | refine blk_drew ?_ | refine blk_alloc ?_ _)); exact BK308.out⟩, ⟨by repeat (first | (with_reducible first | exact HB.out | apply below_alloc | apply pw_below_drewN | apply below_drew1 | refine below_set ?_ GE308.out) | exact HB.out)⟩⟩
            ·rw [if_neg c23] at H
             have c23b0 : decide ((wrap64 (x7_5 + 1)) < x8_5) = false := decide_eq_false c23
             clear c23
             simp only [Option.some.injEq, Prod.mk.injEq] at H
             obtain ⟨rfl, rfl⟩ := H
             go_wp2
             go_ret2
             exact ⟨by first | rfl | (simp [errW_none, errW_some] <;> rfl) | (simp [*, errW_none, errW_some] <;> rfl), by repeat (first | (with_reducible first | exact HB.out | apply below_alloc | apply pw_below_drewN | apply below_drew1 | refine below_set ?_ GE308.out) | exact HB.out)⟩
         ·rw [if_neg c22] at H
          have c22b0 : (x6_19 == 0) = false := beq_eq_false_iff_ne.mpr c22
          have c22b1 : (x6_19 != 0) = true := bne_iff_ne.mpr c22
          simp only [Option.some.injEq, Prod.mk.injEq] at H
          obtain ⟨rfl, rfl⟩ := H
          go_wp2
          go_ret2
          exact ⟨by first | rfl | (simp [errW_none, errW_some] <;> rfl) | (simp [*, errW_none, errW_some] <;> rfl), by repeat (first | (with_reducible first | exact HB.out | apply below_alloc | apply pw_below_drewN | apply below_drew1 | refine below_set ?_ GE308.out) | exact HB.out)⟩
end Go.Proofs.Ytbleliajcbdijaa.F
namespace Go.Proofs.Ytbleliajcbdijaa.F
open Go.RowKit Go.Proofs.YtbleliajcbdijaaW.PrintWords Go.Proofs.YtbleliajcbdijaaW.PrintLast Go.Proofs.YtbleliajcbdijaaW.PrintMore
attribute [local go_sem] max2_int min2_int max_two min_two max_three min_three max_four min_four   -- for this text's walks alone
set_option linter.unusedVariables false
set_option linter.unusedSimpArgs false
def impl_areWinds.f (a0 : Int) (a1 : Int) : Option (Bool) := (impl_isSide.f a0).bind fun t316 => (if t316 = true then ((impl_isSide.f a1).bind fun t317 => (if t317 = true then (some (decide (a0 ≤ a1))) else (some false))) else (some false))
set_option maxHeartbeats 8000000 in
set_option maxRecDepth 100000 in
theorem impl_areWinds.calls (a0 : Int) (a1 : Int) (r : Bool) (w : World) (h : impl_areWinds.f a0 a1 = some r) :
  Calls Try.prog 39 #[.int .i64 a0, .int .i64 a1] w fun e w' => e = .returned (.bool r) ∧ Drawn0 w w' := by
 have H : ((impl_isSide.f a0).bind fun t316 => (if t316 = true then ((impl_isSide.f a1).bind fun t317 => (if t317 = true then (some (decide (a0 ≤ a1))) else (some false))) else (some false))) = some r := h
 clear h
 replace H := Option.bind_eq_some_iff.mp H
 obtain ⟨t316, A30, H⟩ := H
 replace H : (if t316 = true then ((impl_isSide.f a1).bind fun t317 => (if t317 = true then (some (decide (a0 ≤ a1))) else (some false))) else (some false)) = some r := H
 have A3 := Aside0.mk A30
 clear A30
 by_cases c4 : t316 = true
 ·subst c4
  have H1 : ((impl_isSide.f a1).bind fun t317 => (if t317 = true then (some (decide (a0 ≤ a1))) else (some false))) = some r := by rw [if_pos rfl] at H; exact H
  clear H
  have H := H1
  clear H1
  replace H := Option.bind_eq_some_iff.mp H
  obtain ⟨t317, A50, H⟩ := H
  replace H : (if t317 = true then (some (decide (a0 ≤ a1))) else (some false)) = some r := H
  have A5 := Aside0.mk A50
  clear A50
  by_cases c6 : t317 = true
  ·subst c6
   have H1 : (some (decide (a0 ≤ a1))) = some r := by rw [if_pos rfl] at H; exact H
   clear H
   have H := H1
   clear H1
   obtain rfl := Option.some.inj H
   go_enter Try.func39, Try.ntmps39
   go_wp2_with (first | ((with_reducible refine gate_callee (f := 49) rfl ?_); refine goesL_ (some 6) rfl rfl Try.func49 (by kernel_rfl) rfl #[.int .i64 a0] rfl (by (try simp only [List.map_toArray, List.map_cons, List.map_nil]); first | done | rfl | (simp only [List.length_drop, List.length_take]; rfl)) ?_; (with_reducible refine (impl_isSide.calls a0 true _ A3.out).mono ?_); rintro e w' ⟨rfl, ⟨nd, rfl⟩⟩; refine ⟨_, rfl, ?_⟩) | (go_at_call 49; (with_reducible refine (impl_isSide.calls a1 true _ A5.out).mono ?_); rintro e w' ⟨rfl, ⟨nd, rfl⟩⟩))
   go_ret
   exact ⟨by first | rfl | (simp; done) | (simp [*]; done), by repeat (first | exact Drawn0.refl _ | apply Drawn0.step)⟩
  ·replace c6 := Bool.eq_false_iff.mpr c6
   subst c6
   have H1 : (some false) = some r := by rw [if_neg (show ¬ (false = true) by decide)] at H; exact H
   clear H
   have H := H1
   clear H1
   obtain rfl := Option.some.inj H
   go_enter Try.func39, Try.ntmps39
   go_wp2_with (first | ((with_reducible refine gate_callee (f := 49) rfl ?_); refine goesL_ (some 6) rfl rfl Try.func49 (by kernel_rfl) rfl #[.int .i64 a0] rfl (by (try simp only [List.map_toArray, List.map_cons, List.map_nil]); first | done | rfl | (simp only [List.length_drop, List.length_take]; rfl)) ?_; (with_reducible refine (impl_isSide.calls a0 true _ A3.out).mono ?_); rintro e w' ⟨rfl, ⟨nd, rfl⟩⟩; refine ⟨_, rfl, ?_⟩) | (go_at_call 49; (with_reducible refine (impl_isSide.calls a1 false _ A5.out).mono ?_); rintro e w' ⟨rfl, ⟨nd, rfl⟩⟩))
   go_ret
   exact ⟨by first | rfl | (simp; done) | (simp [*]; done), by repeat (first | exact Drawn0.refl _ | apply Drawn0.step)⟩
 ·replace c4 := Bool.eq_false_iff.mpr c4
  subst c4
  have H1 : (some false) = some r := by rw [if_neg (show ¬ (false = true) by decide)] at H; exact H
  clear H
  have H := H1
  clear H1
  obtain rfl := Option.some.inj H
  go_enter Try.func39, Try.ntmps39
  go_wp2_with (first | ((with_reducible refine gate_callee (f := 49) rfl ?_); refine goesL_ (some 6) rfl rfl Try.func49 (by kernel_rfl) rfl #[.int .i64 a0] rfl (by (try simp only [List.map_toArray, List.map_cons, List.map_nil]); first | done | rfl | (simp only [List.length_drop, List.length_take]; rfl)) ?_; (with_reducible refine (impl_isSide.calls a0 false _ A3.out).mono ?_); rintro e w' ⟨rfl, ⟨nd, rfl⟩⟩; refine ⟨_, rfl, ?_⟩))
  go_ret
  exact ⟨by first | rfl | (simp; done) | (simp [*]; done), by repeat (first | exact Drawn0.refl _ | apply Drawn0.step)⟩
end Go.Proofs.Ytbleliajcbdijaa.F
namespace Go.Proofs.Ytbleliajcbdijaa.F
open Go.RowKit Go.Proofs.YtbleliajcbdijaaW.PrintWords Go.Proofs.YtbleliajcbdijaaW.PrintLast Go.Proofs.YtbleliajcbdijaaW.PrintMore
attribute [local go_sem] max2_int min2_int max_two min_two max_three min_three max_four min_four   -- for this text's walks alone
set_option linter.unusedVariables false
set_option linter.unusedSimpArgs false
def impl_StripOf.f (k : Nat) (a0_0 : Int) (a0_1 : Int) (a0_2 : Int) (a0_3 : Int) (a1 : Int) (a2 : Int) : Option (Int × Int × Int) := (impl_IsShot.f a0_0 a0_1 a0_2 a0_3).bind fun t319 => (if t319 = true then ((impl_areWinds.f a1 a2).bind fun t320 => (if t320 = true then ((impl_stripOf.f k a0_0 a0_1 a0_2 a0_3 a1 a2).bind fun bt321 => (some (bt321.1, bt321.2, 0))) else (some (0, 0, 2)))) else (some (0, 0, 1)))
theorem impl_StripOf.mono : ∀ a0 a1 a2 a3 a4 a5 k, LeO (impl_StripOf.f k a0 a1 a2 a3 a4 a5) (impl_StripOf.f (k + 1) a0 a1 a2 a3 a4 a5) := by
 intro a0 a1 a2 a3 a4 a5 k
 unfold impl_StripOf.f
 repeat' first
   | (with_reducible exact impl_stripOf.mono _ _ _ _ _ _ _)
   | (with_reducible exact LeO.refl _)
   | (with_reducible exact LeO.none _)
   | (with_reducible refine LeO.ite ?_ ?_)
   | (with_reducible refine LeO.bind ?_ (fun _ => ?_))
   | exact impl_stripOf.mono _ _ _ _ _ _ _
   | exact LeO.none _
   | refine LeO.ite ?_ ?_
   | refine LeO.bind ?_ (fun _ => ?_)
set_option maxHeartbeats 8000000 in
set_option maxRecDepth 100000 in
theorem impl_StripOf.calls (k : Nat) (a0_0 : Int) (a0_1 : Int) (a0_2 : Int) (a0_3 : Int) (a1 : Int) (a2 : Int) (r1 : Int) (r2 : Int) (r3 : Int) (w : World) (h : impl_StripOf.f k a0_0 a0_1 a0_2 a0_3 a1 a2 = some (r1, r2, r3)) :
  Calls Try.prog 10 #[.agg #[.int .i64 a0_0, .int .i64 a0_1, .int .i64 a0_2, .int .i64 a0_3], .int .i64 a1, .int .i64 a2] w fun e w' => e = .returned (.tuple #[.int .i64 r1, .int .i64 r2, .int .i64 r3]) ∧ Below w.heap.size w w' := by
 have hu25 := Try.underlying25
 have HB := Aside0.mk (Below.refl w.heap.size w)
 have H : ((impl_IsShot.f a0_0 a0_1 a0_2 a0_3).bind fun t319 => (if t319 = true then ((impl_areWinds.f a1 a2).bind fun t320 => (if t320 = true then ((impl_stripOf.f k a0_0 a0_1 a0_2 a0_3 a1 a2).bind fun bt321 => (some (bt321.1, bt321.2, 0))) else (some (0, 0, 2)))) else (some (0, 0, 1)))) = some (r1, r2, r3) := h
 clear h
 replace H := Option.bind_eq_some_iff.mp H
 obtain ⟨t319, A40, H⟩ := H
 replace H : (if t319 = true then ((impl_areWinds.f a1 a2).bind fun t320 => (if t320 = true then ((impl_stripOf.f k a0_0 a0_1 a0_2 a0_3 a1 a2).bind fun bt321 => (some (bt321.1, bt321.2, 0))) else (some (0, 0, 2)))) else (some (0, 0, 1))) = some (r1, r2, r3) := H
 have A4 := Aside0.mk A40
 clear A40
 by_cases c5 : t319 = true
 ·subst c5
  have H1 : ((impl_areWinds.f a1 a2).bind fun t320 => (if t320 = true then ((impl_stripOf.f k a0_0 a0_1 a0_2 a0_3 a1 a2).bind fun bt321 => (some (bt321.1, bt321.2, 0))) else (some (0, 0, 2)))) = some (r1, r2, r3) := by rw [if_pos rfl] at H; exact H
  clear H
  have H := H1
  clear H1
  replace H := Option.bind_eq_some_iff.mp H
  obtain ⟨t320, A60, H⟩ := H
  replace H : (if t320 = true then ((impl_stripOf.f k a0_0 a0_1 a0_2 a0_3 a1 a2).bind fun bt321 => (some (bt321.1, bt321.2, 0))) else (some (0, 0, 2))) = some (r1, r2, r3) := H
  have A6 := Aside0.mk A60
  clear A60
  by_cases c7 : t320 = true
  ·subst c7
   have H1 : ((impl_stripOf.f k a0_0 a0_1 a0_2 a0_3 a1 a2).bind fun bt321 => (some (bt321.1, bt321.2, 0))) = some (r1, r2, r3) := by rw [if_pos rfl] at H; exact H
   clear H
   have H := H1
   clear H1
   replace H := Option.bind_eq_some_iff.mp H
   obtain ⟨⟨t321, t322⟩, A80, H⟩ := H
   replace H : (some (t321, t322, 0)) = some (r1, r2, r3) := H
   have A8 := Aside0.mk A80
   clear A80
   simp only [Option.some.injEq, Prod.mk.injEq] at H
   obtain ⟨rfl, rfl, rfl⟩ := H
   go_enter Try.func10, Try.ntmps10
   go_wp2_with (first | ((with_reducible refine gate_dst (N := 3) rfl ?_); refine box_event ?hg (N := 3) ?hd (cs := #[.int .i64 a0_0, .int .i64 a0_1, .int .i64 a0_2, .int .i64 a0_3]) (t := 25) ?hr ?_; (case hd => rfl); (case hg => rfl); (case hr => first | (go_simp; done) | (go_simp; rfl)); intro gb318 hg w9 hbox hb; have n0_ := Aside0.mk (below_step (by repeat (first | (with_reducible first | exact HB.out | apply below_alloc | apply pw_below_drewN | apply below_drew1) | exact HB.out)) hb); have n1_ := Aside0.mk (hbox); have n2_ := Aside0.mk ((by rw [hg]; exact (below_size (by repeat (first | (with_reducible first | exact HB.out | apply below_alloc | apply pw_below_drewN | apply below_drew1) | exact HB.out))) : w.heap.size ≤ gb318)); have n3_ := Aside0.mk ((by rw [hg]; exact (below_size (by repeat (first | (with_reducible first | exact HB.out | apply below_alloc | apply pw_below_drewN | apply below_drew1) | exact HB.out))) : w.heap.size ≤ gb318)); clear HB; have HB := n0_; have BK318 := n1_; have GW318 := n2_; have GE318 := n3_; clear n0_ n1_ n2_ n3_; clear hb hbox hg; have hcz10_0 : w9.cell? ⟨gb318, 0, none⟩ = some (.int .i64 a0_0) := (blk_cell BK318.out 0).trans rfl; have hcz10_1 : w9.cell? ⟨gb318, 1, none⟩ = some (.int .i64 a0_1) := (blk_cell BK318.out 1).trans rfl; have hcz10_2 : w9.cell? ⟨gb318, 2, none⟩ = some (.int .i64 a0_2) := (blk_cell BK318.out 2).trans rfl; have hcz10_3 : w9.cell? ⟨gb318, 3, none⟩ = some (.int .i64 a0_3) := (blk_cell BK318.out 3).trans rfl; have hfz10_0 := blk_frozen BK318.out 0; have hfz10_1 := blk_frozen BK318.out 1; have hfz10_2 := blk_frozen BK318.out 2; have hfz10_3 := blk_frozen BK318.out 3) | ((with_reducible refine gate_callee (f := 19) rfl ?_); refine goesL_ (some 12) rfl rfl Try.func19 (by kernel_rfl) rfl #[.agg #[.int .i64 a0_0, .int .i64 a0_1, .int .i64 a0_2, .int .i64 a0_3]] rfl (by (try simp only [List.map_toArray, List.map_cons, List.map_nil]); first | done | rfl | (simp only [List.length_drop, List.length_take]; rfl)) ?_; (with_reducible refine (impl_IsShot.calls a0_0 a0_1 a0_2 a0_3 true _ A4.out).mono ?_); rintro e w11 ⟨rfl, hb⟩; refine ⟨_, rfl, ?_⟩; have n0_ := Aside0.mk (blk_below (g := gb318) (o := .cells #[.int .i64 a0_0, .int .i64 a0_1, .int .i64 a0_2, .int .i64 a0_3] 25 (0, 0)) (by (with_reducible repeat (first | refine blk_drewN ?_ _ | refine blk_drew ?_ | refine blk_alloc ?_ _)); exact BK318.out) hb); have n1_ := Aside0.mk (below_step (by repeat (first | (with_reducible first | exact HB.out | apply below_alloc | apply pw_below_drewN | apply below_drew1 | refine below_set ?_ GE318.out) | exact HB.out)) hb); clear BK318; clear HB; have BK318 := n0_; have HB := n1_; clear n0_ n1_; (try clear hb); (try clear hb2); (try clear hk); (try clear hi)) | ((with_reducible refine gate_callee (f := 39) rfl ?_); refine goesL_ (some 16) rfl rfl Try.func39 (by kernel_rfl) rfl #[.int .i64 a1, .int .i64 a2] rfl (by (try simp only [List.map_toArray, List.map_cons, List.map_nil]); first | done | rfl | (simp only [List.length_drop, List.length_take]; rfl)) ?_; (with_reducible refine (impl_areWinds.calls a1 a2 true _ A6.out).mono ?_); rintro e w' ⟨rfl, ⟨nd, rfl⟩⟩; refine ⟨_, rfl, ?_⟩; have hcz12_0 : w11.cell? ⟨gb318, 0, none⟩ = some (.int .i64 a0_0) := (blk_cell BK318.out 0).trans rfl; have hcz12_1 : w11.cell? ⟨gb318, 1, none⟩ = some (.int .i64 a0_1) := (blk_cell BK318.out 1).trans rfl; have hcz12_2 : w11.cell? ⟨gb318, 2, none⟩ = some (.int .i64 a0_2) := (blk_cell BK318.out 2).trans rfl; have hcz12_3 : w11.cell? ⟨gb318, 3, none⟩ = some (.int .i64 a0_3) := (blk_cell BK318.out 3).trans rfl; have hfz12_0 := blk_frozen BK318.out 0; have hfz12_1 := blk_frozen BK318.out 1; have hfz12_2 := blk_frozen BK318.out 2; have hfz12_3 := blk_frozen BK318.out 3) | ((with_reducible refine gate_callee (f := 35) rfl ?_); refine goesL_ (some 22) rfl rfl Try.func35 (by kernel_rfl) rfl #[.agg #[.int .i64 a0_0, .int .i64 a0_1, .int .i64 a0_2, .int .i64 a0_3], .int .i64 a1, .int .i64 a2] rfl (by (try simp only [List.map_toArray, List.map_cons, List.map_nil]); first | done | rfl | (simp only [List.length_drop, List.length_take]; rfl)) ?_; (with_reducible refine (impl_stripOf.calls k a0_0 a0_1 a0_2 a0_3 a1 a2 t321 t322 _ A8.out).mono ?_); rintro e w13 ⟨rfl, hb⟩; refine ⟨_, rfl, ?_⟩; have n0_ := Aside0.mk (blk_below (g := gb318) (o := .cells #[.int .i64 a0_0, .int .i64 a0_1, .int .i64 a0_2, .int .i64 a0_3] 25 (0, 0)) (by (with_reducible repeat (first | refine blk_drewN ?_ _ | refine blk_drew ?_ | refine blk_alloc ?_ _)); exact BK318.out) hb); have n1_ := Aside0.mk (below_step (by repeat (first | (with_reducible first | exact HB.out | apply below_alloc | apply pw_below_drewN | apply below_drew1 | refine below_set ?_ GE318.out) | exact HB.out)) hb); clear BK318; clear HB; have BK318 := n0_; have HB := n1_; clear n0_ n1_; (try clear hb); (try clear hb2); (try clear hk); (try clear hi)))
   go_ret3
   exact ⟨by first | rfl | (simp [errW_none, errW_some] <;> rfl) | (simp [*, errW_none, errW_some] <;> rfl), by repeat (first | (with_reducible first | exact HB.out | apply below_alloc | apply pw_below_drewN | apply below_drew1 | refine below_set ?_ GE318.out) | exact HB.out)⟩
  ·replace c7 := Bool.eq_false_iff.mpr c7
   subst c7
   have H1 : (some (0, 0, 2)) = some (r1, r2, r3) := by rw [if_neg (show ¬ (false = true) by decide)] at H; exact H
   clear H
   have H := H1
   clear H1
   simp only [Option.some.injEq, Prod.mk.injEq] at H
   obtain ⟨rfl, rfl, rfl⟩ := H
   go_enter Try.func10, Try.ntmps10
   go_wp2_with (first | ((with_reducible refine gate_dst (N := 3) rfl ?_); refine box_event ?hg (N := 3) ?hd (cs := #[.int .i64 a0_0, .int .i64 a0_1, .int .i64 a0_2, .int .i64 a0_3]) (t := 25) ?hr ?_; (case hd => rfl); (case hg => rfl); (case hr => first | (go_simp; done) | (go_simp; rfl)); intro gb318 hg w14 hbox hb; have n0_ := Aside0.mk (below_step (by repeat (first | (with_reducible first | exact HB.out | apply below_alloc | apply pw_below_drewN | apply below_drew1) | exact HB.out)) hb); have n1_ := Aside0.mk (hbox); have n2_ := Aside0.mk ((by rw [hg]; exact (below_size (by repeat (first | (with_reducible first | exact HB.out | apply below_alloc | apply pw_below_drewN | apply below_drew1) | exact HB.out))) : w.heap.size ≤ gb318)); have n3_ := Aside0.mk ((by rw [hg]; exact (below_size (by repeat (first | (with_reducible first | exact HB.out | apply below_alloc | apply pw_below_drewN | apply below_drew1) | exact HB.out))) : w.heap.size ≤ gb318)); clear HB; have HB := n0_; have BK318 := n1_; have GW318 := n2_; have GE318 := n3_; clear n0_ n1_ n2_ n3_; clear hb hbox hg; have hcz15_0 : w14.cell? ⟨gb318, 0, none⟩ = some (.int .i64 a0_0) := (blk_cell BK318.out 0).trans rfl; have hcz15_1 : w14.cell? ⟨gb318, 1, none⟩ = some (.int .i64 a0_1) := (blk_cell BK318.out 1).trans rfl; have hcz15_2 : w14.cell? ⟨gb318, 2, none⟩ = some (.int .i64 a0_2) := (blk_cell BK318.out 2).trans rfl; have hcz15_3 : w14.cell? ⟨gb318, 3, none⟩ = some (.int .i64 a0_3) := (blk_cell BK318.out 3).trans rfl; have hfz15_0 := blk_frozen BK318.out 0; have hfz15_1 := blk_frozen BK318.out 1; have hfz15_2 := blk_frozen BK318.out 2; have hfz15_3 := blk_frozen BK318.out 3) | ((with_reducible refine gate_callee (f := 19) rfl ?_); refine goesL_ (some 12) rfl rfl Try.func19 (by kernel_rfl) rfl #[.agg #[.int .i64 a0_0, .int .i64 a0_1, .int .i64 a0_2, .int .i64 a0_3]] rfl (by (try simp only [List.map_toArray, List.map_cons, List.map_nil]); first | done | rfl | (simp only [List.length_drop, List.length_take]; rfl)) ?_; (with_reducible refine (impl_IsShot.calls a0_0 a0_1 a0_2 a0_3 true _ A4.out).mono ?_); rintro e w16 ⟨rfl, hb⟩; refine ⟨_, rfl, ?_⟩; have n0_ := Aside0.mk (blk_below (g := gb318) (o := .cells #[.int .i64 a0_0, .int .i64 a0_1, .int .i64 a0_2, .int .i64 a0_3] 25 (0, 0)) (by (with_reducible repeat (first | refine blk_drewN ?_ _ | refine blk_drew ?_ | refine blk_alloc ?_ _)); exact BK318.out) hb); have n1_ := Aside0.mk (below_step (by repeat (first | (with_reducible first | exact HB.out | apply below_alloc | apply pw_below_drewN | apply below_drew1 | refine below_set ?_ GE318.out) | exact HB.out)) hb); clear BK318; clear HB; have BK318 := n0_; have HB := n1_; clear n0_ n1_; (try clear hb); (try clear hb2); (try clear hk); (try clear hi)) | ((with_reducible refine gate_callee (f := 39) rfl ?_); refine goesL_ (some 16) rfl rfl Try.func39 (by kernel_rfl) rfl #[.int .i64 a1, .int .i64 a2] rfl (by (try simp only [List.map_toArray, List.map_cons, List.map_nil]); first | done | rfl | (simp only [List.length_drop, List.length_take]; rfl)) ?_; (with_reducible refine (impl_areWinds.calls a1 a2 false _ A6.out).mono ?_); rintro e w' ⟨rfl, ⟨nd, rfl⟩⟩; refine ⟨_, rfl, ?_⟩))
   go_ret3
   exact ⟨by first | rfl | (simp [errW_none, errW_some] <;> rfl) | (simp [*, errW_none, errW_some] <;> rfl), by repeat (first | (with_reducible first | exact HB.out | apply below_alloc | apply pw_below_drewN | apply below_drew1 | refine below_set ?_ GE318.out) | exact HB.out)⟩
 ·replace c5 := Bool.eq_false_iff.mpr c5
  subst c5
  have H1 : (some (0, 0, 1)) = some (r1, r2, r3) := by rw [if_neg (show ¬ (false = true) by decide)] at H; exact H
  clear H
  have H := H1
  clear H1
  simp only [Option.some.injEq, Prod.mk.injEq] at H
  obtain ⟨rfl, rfl, rfl⟩ := H
  go_enter Try.func10, Try.ntmps10
  go_wp2_with (first | ((with_reducible refine gate_dst (N := 3) rfl ?_); refine box_event ?hg (N := 3) ?hd (cs := #[.int .i64 a0_0, .int .i64 a0_1, .int .i64 a0_2, .int .i64 a0_3]) (t := 25) ?hr ?_; (case hd => rfl); (case hg => rfl); (case hr => first | (go_simp; done) | (go_simp; rfl)); intro gb318 hg w17 hbox hb; have n0_ := Aside0.mk (below_step (by repeat (first | (with_reducible first | exact HB.out | apply below_alloc | apply pw_below_drewN | apply below_drew1) | exact HB.out)) hb); have n1_ := Aside0.mk (hbox); have n2_ := Aside0.mk ((by rw [hg]; exact (below_size (by repeat (first | (with_reducible first | exact HB.out | apply below_alloc | apply pw_below_drewN | apply below_drew1) | exact HB.out))) : w.heap.size ≤ gb318)); have n3_ := Aside0.mk ((by rw [hg]; exact (below_size (by repeat (first | (with_reducible first | exact HB.out | apply below_alloc | apply pw_below_drewN | apply below_drew1) | exact HB.out))) : w.heap.size ≤ gb318)); clear HB; have HB := n0_; have BK318 := n1_; have GW318 := n2_; have GE318 := n3_; clear n0_ n1_ n2_ n3_; clear hb hbox hg; have hcz18_0 : w17.cell? ⟨gb318, 0, none⟩ = some (.int .i64 a0_0) := (blk_cell BK318.out 0).trans rfl; have hcz18_1 : w17.cell? ⟨gb318, 1, none⟩ = some (.int .i64 a0_1) := (blk_cell BK318.out 1).trans rfl; have hcz18_2 : w17.cell? ⟨gb318, 2, none⟩ = some (.int .i64 a0_2) := (blk_cell BK318.out 2).trans rfl; have hcz18_3 : w17.cell? ⟨gb318, 3, none⟩ = some (.int .i64 a0_3) := (blk_cell BK318.out 3).trans rfl; have hfz18_0 := blk_frozen BK318.out 0; have hfz18_1 := blk_frozen BK318.out 1; have hfz18_2 := blk_frozen BK318.out 2; have hfz18_3 := blk_frozen BK318.out 3) | ((with_reducible refine gate_callee (f := 19) rfl ?_); refine goesL_ (some 12) rfl rfl Try.func19 (by kernel_rfl) rfl #[.agg #[.int .i64 a0_0, .int .i64 a0_1, .int .i64 a0_2, .int .i64 a0_3]] rfl (by (try simp only [List.map_toArray, List.map_cons, List.map_nil]); first | done | rfl | (simp only [List.length_drop, List.length_take]; rfl)) ?_; (with_reducible refine (impl_IsShot.calls a0_0 a0_1 a0_2 a0_3 false _ A4.out).mono ?_); rintro e w19 ⟨rfl, hb⟩; refine ⟨_, rfl, ?_⟩; have n0_ := Aside0.mk (blk_below (g := gb318) (o := .cells #[.int .i64 a0_0, .int .i64 a0_1, .int .i64 a0_2, .int .i64 a0_3] 25 (0, 0)) (by (with_reducible repeat (first | refine blk_drewN ?_ _ | refine blk_drew ?_ | refine blk_alloc ?_ _)); exact BK318.out) hb); have n1_ := Aside0.mk (below_step (by repeat (first | (with_reducible first | exact HB.out | apply below_alloc | apply pw_below_drewN | apply below_drew1 | refine below_set ?_ GE318.out) | exact HB.out)) hb); clear BK318; clear HB; have BK318 := n0_; have HB := n1_; clear n0_ n1_; (try clear hb); (try clear hb2); (try clear hk); (try clear hi)))
  go_ret3
  exact ⟨by first | rfl | (simp [errW_none, errW_some] <;> rfl) | (simp [*, errW_none, errW_some] <;> rfl), by repeat (first | (with_reducible first | exact HB.out | apply below_alloc | apply pw_below_drewN | apply below_drew1 | refine below_set ?_ GE318.out) | exact HB.out)⟩
end Go.Proofs.Ytbleliajcbdijaa.F
namespace Go.Proofs.Ytbleliajcbdijaa.F
open Go.RowKit Go.Proofs.YtbleliajcbdijaaW.PrintWords Go.Proofs.YtbleliajcbdijaaW.PrintLast Go.Proofs.YtbleliajcbdijaaW.PrintMore
attribute [local go_sem] max2_int min2_int max_two min_two max_three min_three max_four min_four   -- for this text's walks alone
set_option linter.unusedVariables false
set_option linter.unusedSimpArgs false
mutual
def laws_FnWindLimits.j0 : Nat → Int → Int → Int → Bool → Int → Int → Int → Int → Option (Bool)
 | 0, _, _, _, _, _, _, _, _ => none
 | k + 1, x4, x5, x6, x41, x330000, x330001, x330002, x330003 => if x41 = true then (some false) else (if x6 = 0 then ((impl_StripOf.f k x330000 x330001 x330002 x330003 (wrap64 (-x5)) x5).bind fun bt334 => (if bt334.2.2 = 0 then (if bt334.1 < (wrap64 (-x4)) then (laws_FnWindLimits.j1 k x4 x5 true x330000 x330001 x330002 x330003) else (laws_FnWindLimits.j1 k x4 x5 (decide (bt334.2.1 > x4)) x330000 x330001 x330002 x330003)) else (laws_FnWindLimits.j1 k x4 x5 true x330000 x330001 x330002 x330003))) else (some true))
def laws_FnWindLimits.j1 : Nat → Int → Int → Bool → Int → Int → Int → Int → Option (Bool)
 | 0, _, _, _, _, _, _, _ => none
 | k + 1, x4, x5, x65, x330000, x330001, x330002, x330003 => if x65 = true then (some false) else (if x5 = 50000 then (some true) else ((impl_StripOf.f k x330000 x330001 x330002 x330003 (wrap64 ((wrap64 (-x5)) - 1)) (wrap64 (x5 + 1))).bind fun bt337 => (if bt337.2.2 = 0 then (if bt337.1 < (wrap64 (-x4)) then (some true) else (some (decide (bt337.2.1 > x4)))) else (some false))))
end
def laws_FnWindLimits.f (k : Nat) (l0 : List Int) : Option (Bool) := (laws_big.f l0).bind fun t323 => (if t323 = true then (some true) else ((spec_DrawMostWind.f k l0).bind fun bt324 => ((impl_MostWind.f k bt324.1 bt324.2.1 bt324.2.2.1 bt324.2.2.2.1 bt324.2.2.2.2).bind fun bt330 => ((spec_MostWind.f k bt324.1 bt324.2.1 bt324.2.2.1 bt324.2.2.2.1 bt324.2.2.2.2).bind fun bt332 => (if bt330.2 = bt332.2 then (laws_FnWindLimits.j0 k bt324.2.2.2.2 bt330.1 bt330.2 (bt330.1 != bt332.1) bt324.1 bt324.2.1 bt324.2.2.1 bt324.2.2.2.1) else (laws_FnWindLimits.j0 k bt324.2.2.2.2 bt330.1 bt330.2 true bt324.1 bt324.2.1 bt324.2.2.1 bt324.2.2.2.1))))))
theorem laws_FnWindLimits.mono_l : ∀ k, (∀ y0 y1 y2 y3 y4 y5 y6 y7, LeO (laws_FnWindLimits.j0 k y0 y1 y2 y3 y4 y5 y6 y7) (laws_FnWindLimits.j0 (k + 1) y0 y1 y2 y3 y4 y5 y6 y7)) ∧ (∀ y0 y1 y2 y3 y4 y5 y6, LeO (laws_FnWindLimits.j1 k y0 y1 y2 y3 y4 y5 y6) (laws_FnWindLimits.j1 (k + 1) y0 y1 y2 y3 y4 y5 y6))
 | 0 => ⟨fun _ _ _ _ _ _ _ _ r h => by simp [laws_FnWindLimits.j0] at h, fun _ _ _ _ _ _ _ r h => by simp [laws_FnWindLimits.j1] at h⟩
 | k + 1 => by
  obtain ⟨ih0, ih1⟩ := laws_FnWindLimits.mono_l k
  refine ⟨?_, ?_⟩
  ·intro y0 y1 y2 y3 y4 y5 y6 y7
   unfold laws_FnWindLimits.j0
   repeat' first
   | (with_reducible exact ih0 _ _ _ _ _ _ _ _)
   | (with_reducible exact ih1 _ _ _ _ _ _ _)
   | (with_reducible exact impl_MostWind.mono _ _ _ _ _ _)
   | (with_reducible exact impl_StripOf.mono _ _ _ _ _ _ _)
   | (with_reducible exact spec_DrawMostWind.mono _ _)
   | (with_reducible exact spec_MostWind.mono _ _ _ _ _ _)
   | (with_reducible exact LeO.refl _)
   | (with_reducible exact LeO.none _)
   | (with_reducible refine LeO.ite ?_ ?_)
   | (with_reducible refine LeO.bind ?_ (fun _ => ?_))
   | exact ih0 _ _ _ _ _ _ _ _
   | exact ih1 _ _ _ _ _ _ _
   | exact impl_MostWind.mono _ _ _ _ _ _
   | exact impl_StripOf.mono _ _ _ _ _ _ _
   | exact spec_DrawMostWind.mono _ _
   | exact spec_MostWind.mono _ _ _ _ _ _
   | exact LeO.none _
   | refine LeO.ite ?_ ?_
   | refine LeO.bind ?_ (fun _ => ?_)
  ·intro y0 y1 y2 y3 y4 y5 y6
   unfold laws_FnWindLimits.j1
   repeat' first
   | (with_reducible exact ih0 _ _ _ _ _ _ _ _)
   | (with_reducible exact ih1 _ _ _ _ _ _ _)
   | (with_reducible exact impl_MostWind.mono _ _ _ _ _ _)
   | (with_reducible exact impl_StripOf.mono _ _ _ _ _ _ _)
   | (with_reducible exact spec_DrawMostWind.mono _ _)
   | (with_reducible exact spec_MostWind.mono _ _ _ _ _ _)
   | (with_reducible exact LeO.refl _)
   | (with_reducible exact LeO.none _)
   | (with_reducible refine LeO.ite ?_ ?_)
   | (with_reducible refine LeO.bind ?_ (fun _ => ?_))
   | exact ih0 _ _ _ _ _ _ _ _
   | exact ih1 _ _ _ _ _ _ _
   | exact impl_MostWind.mono _ _ _ _ _ _
   | exact impl_StripOf.mono _ _ _ _ _ _ _
   | exact spec_DrawMostWind.mono _ _
   | exact spec_MostWind.mono _ _ _ _ _ _
   | exact LeO.none _
   | refine LeO.ite ?_ ?_
   | refine LeO.bind ?_ (fun _ => ?_)
theorem laws_FnWindLimits.mono : ∀ a0 k, LeO (laws_FnWindLimits.f k a0) (laws_FnWindLimits.f (k + 1) a0) := by
 intro a0 k
 obtain ⟨ih0, ih1⟩ := laws_FnWindLimits.mono_l k
 unfold laws_FnWindLimits.f
 repeat' first
   | (with_reducible exact ih0 _ _ _ _ _ _ _ _)
   | (with_reducible exact ih1 _ _ _ _ _ _ _)
   | (with_reducible exact impl_MostWind.mono _ _ _ _ _ _)
   | (with_reducible exact impl_StripOf.mono _ _ _ _ _ _ _)
   | (with_reducible exact spec_DrawMostWind.mono _ _)
   | (with_reducible exact spec_MostWind.mono _ _ _ _ _ _)
   | (with_reducible exact LeO.refl _)
   | (with_reducible exact LeO.none _)
   | (with_reducible refine LeO.ite ?_ ?_)
   | (with_reducible refine LeO.bind ?_ (fun _ => ?_))
   | exact ih0 _ _ _ _ _ _ _ _
   | exact ih1 _ _ _ _ _ _ _
   | exact impl_MostWind.mono _ _ _ _ _ _
   | exact impl_StripOf.mono _ _ _ _ _ _ _
   | exact spec_DrawMostWind.mono _ _
   | exact spec_MostWind.mono _ _ _ _ _ _
   | exact LeO.none _
   | refine LeO.ite ?_ ?_
   | refine LeO.bind ?_ (fun _ => ?_)
set_option maxHeartbeats 8000000 in
set_option maxRecDepth 100000 in
theorem laws_FnWindLimits.calls (k : Nat) (A0 : Option Addr) (c0 : Nat) (l0 : List Int) (r : Bool) (w : World) (hr0 : Kd.C (Kd.int .u8) w A0 l0.length l0) (hc0 : l0.length ≤ c0) (h : laws_FnWindLimits.f k l0 = some r) :
  Calls Try.prog 3 #[.slice A0 l0.length c0] w fun e w' => e = .returned (.bool r) ∧ Below w.heap.size w w' := by
 have hu25 := Try.underlying25
 have HR0 := Aside0.mk hr0
 have HC0 := Aside0.mk hc0
 clear hr0 hc0
 have HB := Aside0.mk (Below.refl w.heap.size w)
 have H : ((laws_big.f l0).bind fun t323 => (if t323 = true then (some true) else ((spec_DrawMostWind.f k l0).bind fun bt324 => ((impl_MostWind.f k bt324.1 bt324.2.1 bt324.2.2.1 bt324.2.2.2.1 bt324.2.2.2.2).bind fun bt330 => ((spec_MostWind.f k bt324.1 bt324.2.1 bt324.2.2.1 bt324.2.2.2.1 bt324.2.2.2.2).bind fun bt332 => (if bt330.2 = bt332.2 then (laws_FnWindLimits.j0 k bt324.2.2.2.2 bt330.1 bt330.2 (bt330.1 != bt332.1) bt324.1 bt324.2.1 bt324.2.2.1 bt324.2.2.2.1) else (laws_FnWindLimits.j0 k bt324.2.2.2.2 bt330.1 bt330.2 true bt324.1 bt324.2.1 bt324.2.2.1 bt324.2.2.2.1))))))) = some r := h
 clear h
 replace H := Option.bind_eq_some_iff.mp H
 obtain ⟨t323, A20, H⟩ := H
 replace H : (if t323 = true then (some true) else ((spec_DrawMostWind.f k l0).bind fun bt324 => ((impl_MostWind.f k bt324.1 bt324.2.1 bt324.2.2.1 bt324.2.2.2.1 bt324.2.2.2.2).bind fun bt330 => ((spec_MostWind.f k bt324.1 bt324.2.1 bt324.2.2.1 bt324.2.2.2.1 bt324.2.2.2.2).bind fun bt332 => (if bt330.2 = bt332.2 then (laws_FnWindLimits.j0 k bt324.2.2.2.2 bt330.1 bt330.2 (bt330.1 != bt332.1) bt324.1 bt324.2.1 bt324.2.2.1 bt324.2.2.2.1) else (laws_FnWindLimits.j0 k bt324.2.2.2.2 bt330.1 bt330.2 true bt324.1 bt324.2.1 bt324.2.2.1 bt324.2.2.2.1)))))) = some r := H
 have A2 := Aside0.mk A20
 clear A20
 by_cases c3 : t323 = true
 ·subst c3
  have H1 : (some true) = some r := by rw [if_pos rfl] at H; exact H
  clear H
  have H := H1
  clear H1
  obtain rfl := Option.some.inj H
  go_enter Try.func3, Try.ntmps3
  go_wp2_with (first | ((with_reducible refine gate_callee (f := 6) rfl ?_); refine goesL_ (some 16) rfl rfl Try.func6 (by kernel_rfl) rfl #[.slice A0 l0.length c0] rfl (by (try simp only [List.map_toArray, List.map_cons, List.map_nil]); first | done | rfl | (simp only [List.length_drop, List.length_take]; rfl)) ?_; (with_reducible refine (laws_big.calls _ _ l0 true _ ?side1 ?side2 A2.out).mono ?_); (case side1 => repeat (first | exact HR0.out | (with_reducible refine Kd.C_alloc ?_ _) | (with_reducible refine Kd.C_drewN ?_ _) | (with_reducible refine Kd.C_drew ?_))); (case side2 => exact HC0.out); rintro e w' ⟨rfl, ⟨nd, rfl⟩⟩; refine ⟨_, rfl, ?_⟩))
  go_ret
  exact ⟨by first | rfl | (simp [errW_none, errW_some] <;> rfl) | (simp [*, errW_none, errW_some] <;> rfl), by repeat (first | (with_reducible first | exact HB.out | apply below_alloc | apply pw_below_drewN | apply below_drew1) | exact HB.out)⟩
 ·replace c3 := Bool.eq_false_iff.mpr c3
  subst c3
  have H1 : ((spec_DrawMostWind.f k l0).bind fun bt324 => ((impl_MostWind.f k bt324.1 bt324.2.1 bt324.2.2.1 bt324.2.2.2.1 bt324.2.2.2.2).bind fun bt330 => ((spec_MostWind.f k bt324.1 bt324.2.1 bt324.2.2.1 bt324.2.2.2.1 bt324.2.2.2.2).bind fun bt332 => (if bt330.2 = bt332.2 then (laws_FnWindLimits.j0 k bt324.2.2.2.2 bt330.1 bt330.2 (bt330.1 != bt332.1) bt324.1 bt324.2.1 bt324.2.2.1 bt324.2.2.2.1) else (laws_FnWindLimits.j0 k bt324.2.2.2.2 bt330.1 bt330.2 true bt324.1 bt324.2.1 bt324.2.2.1 bt324.2.2.2.1))))) = some r := by rw [if_neg (show ¬ (false = true) by decide)] at H; exact H
  clear H
  have H := H1
  clear H1
  replace H := Option.bind_eq_some_iff.mp H
  obtain ⟨⟨t324, t325, t326, t327, t328⟩, A40, H⟩ := H
  replace H : ((impl_MostWind.f k t324 t325 t326 t327 t328).bind fun bt330 => ((spec_MostWind.f k t324 t325 t326 t327 t328).bind fun bt332 => (if bt330.2 = bt332.2 then (laws_FnWindLimits.j0 k t328 bt330.1 bt330.2 (bt330.1 != bt332.1) t324 t325 t326 t327) else (laws_FnWindLimits.j0 k t328 bt330.1 bt330.2 true t324 t325 t326 t327)))) = some r := H
  have A4 := Aside0.mk A40
  clear A40
  replace H := Option.bind_eq_some_iff.mp H
  obtain ⟨⟨t330, t331⟩, A50, H⟩ := H
  replace H : ((spec_MostWind.f k t324 t325 t326 t327 t328).bind fun bt332 => (if t331 = bt332.2 then (laws_FnWindLimits.j0 k t328 t330 t331 (t330 != bt332.1) t324 t325 t326 t327) else (laws_FnWindLimits.j0 k t328 t330 t331 true t324 t325 t326 t327))) = some r := H
  have A5 := Aside0.mk A50
  clear A50
  replace H := Option.bind_eq_some_iff.mp H
  obtain ⟨⟨t332, t333⟩, A60, H⟩ := H
  replace H : (if t331 = t333 then (laws_FnWindLimits.j0 k t328 t330 t331 (t330 != t332) t324 t325 t326 t327) else (laws_FnWindLimits.j0 k t328 t330 t331 true t324 t325 t326 t327)) = some r := H
  have A6 := Aside0.mk A60
  clear A60
  have HC7 := Aside0.mk H
  clear H
  go_enter Try.func3, Try.ntmps3
  go_upto_region 6 with (first | ((with_reducible refine gate_callee (f := 6) rfl ?_); refine goesL_ (some 16) rfl rfl Try.func6 (by kernel_rfl) rfl #[.slice A0 l0.length c0] rfl (by (try simp only [List.map_toArray, List.map_cons, List.map_nil]); first | done | rfl | (simp only [List.length_drop, List.length_take]; rfl)) ?_; (with_reducible refine (laws_big.calls _ _ l0 false _ ?side1 ?side2 A2.out).mono ?_); (case side1 => repeat (first | exact HR0.out | (with_reducible refine Kd.C_alloc ?_ _) | (with_reducible refine Kd.C_drewN ?_ _) | (with_reducible refine Kd.C_drew ?_))); (case side2 => exact HC0.out); rintro e w' ⟨rfl, ⟨nd, rfl⟩⟩; refine ⟨_, rfl, ?_⟩) | ((with_reducible refine gate_callee (f := 7) rfl ?_); refine goesL_ (some 19) rfl rfl Try.func7 (by kernel_rfl) rfl #[.slice A0 l0.length c0] rfl (by (try simp only [List.map_toArray, List.map_cons, List.map_nil]); first | done | rfl | (simp only [List.length_drop, List.length_take]; rfl)) ?_; (with_reducible refine (spec_DrawMostWind.calls k _ _ l0 t324 t325 t326 t327 t328 _ ?side1 ?side2 A4.out).mono ?_); (case side1 => repeat (first | exact HR0.out | (with_reducible refine Kd.C_alloc ?_ _) | (with_reducible refine Kd.C_drewN ?_ _) | (with_reducible refine Kd.C_drew ?_))); (case side2 => exact HC0.out); rintro e w8 ⟨rfl, hb⟩; refine ⟨_, rfl, ?_⟩; have n0_ := Aside0.mk (below_step (by repeat (first | (with_reducible first | exact HB.out | apply below_alloc | apply pw_below_drewN | apply below_drew1) | exact HB.out)) hb); clear HB; have HB := n0_; clear n0_; (try clear hb); (try clear hb2); (try clear hk); (try clear hi)) | ((with_reducible refine gate_dst (N := 3) rfl ?_); refine box_event ?hg (N := 3) ?hd (cs := #[.int .i64 0, .int .i64 0, .int .i64 0, .int .i64 0]) (t := 25) ?hr ?_; (case hd => rfl); (case hg => rfl); (case hr => first | (go_simp; done) | (go_simp; rfl)); intro gb329 hg w9 hbox hb; have n0_ := Aside0.mk (below_step (by repeat (first | (with_reducible first | exact HB.out | apply below_alloc | apply pw_below_drewN | apply below_drew1) | exact HB.out)) hb); have n1_ := Aside0.mk (hbox); have n2_ := Aside0.mk ((by rw [hg]; exact (below_size (by repeat (first | (with_reducible first | exact HB.out | apply below_alloc | apply pw_below_drewN | apply below_drew1) | exact HB.out))) : w.heap.size ≤ gb329)); have n3_ := Aside0.mk ((by rw [hg]; exact (below_size (by repeat (first | (with_reducible first | exact HB.out | apply below_alloc | apply pw_below_drewN | apply below_drew1) | exact HB.out))) : w.heap.size ≤ gb329)); clear HB; have HB := n0_; have BK329 := n1_; have GW329 := n2_; have GE329 := n3_; clear n0_ n1_ n2_ n3_; clear hb hbox hg; have hcz10_0 : w9.cell? ⟨gb329, 0, none⟩ = some (.int .i64 0) := (blk_cell BK329.out 0).trans rfl; have hcz10_1 : w9.cell? ⟨gb329, 1, none⟩ = some (.int .i64 0) := (blk_cell BK329.out 1).trans rfl; have hcz10_2 : w9.cell? ⟨gb329, 2, none⟩ = some (.int .i64 0) := (blk_cell BK329.out 2).trans rfl; have hcz10_3 : w9.cell? ⟨gb329, 3, none⟩ = some (.int .i64 0) := (blk_cell BK329.out 3).trans rfl; have hfz10_0 := blk_frozen BK329.out 0; have hfz10_1 := blk_frozen BK329.out 1; have hfz10_2 := blk_frozen BK329.out 2; have hfz10_3 := blk_frozen BK329.out 3) | ((with_reducible refine gate_callee (f := 8) rfl ?_); refine goesL_ (some 25) rfl rfl Try.func8 (by kernel_rfl) rfl #[.agg #[.int .i64 t324, .int .i64 t325, .int .i64 t326, .int .i64 t327], .int .i64 t328] rfl (by (try simp only [List.map_toArray, List.map_cons, List.map_nil]); first | done | rfl | (simp only [List.length_drop, List.length_take]; rfl)) ?_; (with_reducible refine (impl_MostWind.calls k t324 t325 t326 t327 t328 t330 t331 _ A5.out).mono ?_); rintro e w11 ⟨rfl, hb⟩; refine ⟨_, rfl, ?_⟩; have n0_ := Aside0.mk (blk_below (g := gb329) (o := .cells #[.int .i64 t324, .int .i64 t325, .int .i64 t326, .int .i64 t327] 25 (0, 0)) (by (with_reducible repeat (first | refine blk_drewN ?_ _ | refine blk_drew ?_ | refine blk_alloc ?_ _)); refine blk_put (cs := #[.int .i64 t324, .int .i64 t325, .int .i64 t326, .int .i64 0]) ?_ 3 _ rfl; (with_reducible repeat (first | refine blk_drewN ?_ _ | refine blk_drew ?_ | refine blk_alloc ?_ _)); refine blk_put (cs := #[.int .i64 t324, .int .i64 t325, .int .i64 0, .int .i64 0]) ?_ 2 _ rfl; (with_reducible repeat (first | refine blk_drewN ?_ _ | refine blk_drew ?_ | refine blk_alloc ?_ _)); refine blk_put (cs := #[.int .i64 t324, .int .i64 0, .int .i64 0, .int .i64 0]) ?_ 1 _ rfl; (with_reducible repeat (first | refine blk_drewN ?_ _ | refine blk_drew ?_ | refine blk_alloc ?_ _)); refine blk_put (cs := #[.int .i64 0, .int .i64 0, .int .i64 0, .int .i64 0]) ?_ 0 _ rfl; (with_reducible repeat (first | refine blk_drewN ?_ _ | refine blk_drew ?_ | refine blk_alloc ?_ _)); exact BK329.out) hb); have n1_ := Aside0.mk (below_step (by repeat (first | (with_reducible first | exact HB.out | apply below_alloc | apply pw_below_drewN | apply below_drew1 | refine below_set ?_ GE329.out) | exact HB.out)) hb); clear BK329; clear HB; have BK329 := n0_; have HB := n1_; clear n0_ n1_; (try clear hb); (try clear hb2); (try clear hk); (try clear hi); have hcz12_0 : w11.cell? ⟨gb329, 0, none⟩ = some (.int .i64 t324) := (blk_cell BK329.out 0).trans rfl; have hcz12_1 : w11.cell? ⟨gb329, 1, none⟩ = some (.int .i64 t325) := (blk_cell BK329.out 1).trans rfl; have hcz12_2 : w11.cell? ⟨gb329, 2, none⟩ = some (.int .i64 t326) := (blk_cell BK329.out 2).trans rfl; have hcz12_3 : w11.cell? ⟨gb329, 3, none⟩ = some (.int .i64 t327) := (blk_cell BK329.out 3).trans rfl; have hfz12_0 := blk_frozen BK329.out 0; have hfz12_1 := blk_frozen BK329.out 1; have hfz12_2 := blk_frozen BK329.out 2; have hfz12_3 := blk_frozen BK329.out 3) | ((with_reducible refine gate_callee (f := 9) rfl ?_); refine goesL_ (some 31) rfl rfl Try.func9 (by kernel_rfl) rfl #[.agg #[.int .i64 t324, .int .i64 t325, .int .i64 t326, .int .i64 t327], .int .i64 t328] rfl (by (try simp only [List.map_toArray, List.map_cons, List.map_nil]); first | done | rfl | (simp only [List.length_drop, List.length_take]; rfl)) ?_; (with_reducible refine (spec_MostWind.calls k t324 t325 t326 t327 t328 t332 t333 _ A6.out).mono ?_); rintro e w13 ⟨rfl, hb⟩; refine ⟨_, rfl, ?_⟩; have n0_ := Aside0.mk (blk_below (g := gb329) (o := .cells #[.int .i64 t324, .int .i64 t325, .int .i64 t326, .int .i64 t327] 25 (0, 0)) (by (with_reducible repeat (first | refine blk_drewN ?_ _ | refine blk_drew ?_ | refine blk_alloc ?_ _)); exact BK329.out) hb); have n1_ := Aside0.mk (below_step (by repeat (first | (with_reducible first | exact HB.out | apply below_alloc | apply pw_below_drewN | apply below_drew1 | refine below_set ?_ GE329.out) | exact HB.out)) hb); clear BK329; clear HB; have BK329 := n0_; have HB := n1_; clear n0_ n1_; (try clear hb); (try clear hb2); (try clear hk); (try clear hi)))
  (try simp only [Act.put, List.setIfInBounds_toArray, List.set_cons_zero, List.set_cons_succ])
  go_cut [41] (fun v41 wc => ∃ (kq : Nat) (x41_6 : Bool), v41 = .bool x41_6 ∧ Aside0 (laws_FnWindLimits.j0 kq t328 t330 t331 x41_6 t324 t325 t326 t327 = some r) ∧ Aside0 (kq ≤ k) ∧ Aside0 (wc.heap[gb329]? = some (.cells #[.int .i64 t324, .int .i64 t325, .int .i64 t326, .int .i64 t327] 25 (0, 0))) ∧ Aside0 (Below w.heap.size w wc))
  case first =>
   have H := HC7.out
   clear HC7
   by_cases c14 : t331 = t333
   ·rw [if_pos c14] at H
    have c14b0 : (t331 == t333) = true := beq_iff_eq.mpr c14
    have c14b1 : (t331 != t333) = false := bne_eq_false_iff_eq.mpr c14
    clear c14
    (first | rw [c14b0] | (simp only [i64_w, i32_w]; rw [c14b0]) | skip)
    have H' := Aside0.mk H
    clear H
    go_wp2
    go_meet
    case rel => exact ⟨_, ((t330 != t332)), (by first | rfl | (simp; done) | (simp [*]; done)), H', ⟨by first | omega | exact Nat.le_refl _⟩, ⟨by (with_reducible repeat (first | refine blk_drewN ?_ _ | refine blk_drew ?_ | refine blk_alloc ?_ _)); exact BK329.out⟩, ⟨by repeat (first | (with_reducible first | exact HB.out | apply below_alloc | apply pw_below_drewN | apply below_drew1 | refine below_set ?_ GE329.out) | exact HB.out)⟩⟩
   ·rw [if_neg c14] at H
    have c14b0 : (t331 == t333) = false := beq_eq_false_iff_ne.mpr c14
    have c14b1 : (t331 != t333) = true := bne_iff_ne.mpr c14
    (first | rw [c14b0] | (simp only [i64_w, i32_w]; rw [c14b0]) | skip)
    have H' := Aside0.mk H
    clear H
    go_wp2
    go_meet
    case rel => exact ⟨_, (true), (by first | rfl | (simp; done) | (simp [*]; done)), H', ⟨by first | omega | exact Nat.le_refl _⟩, ⟨by (with_reducible repeat (first | refine blk_drewN ?_ _ | refine blk_drew ?_ | refine blk_alloc ?_ _)); exact BK329.out⟩, ⟨by repeat (first | (with_reducible first | exact HB.out | apply below_alloc | apply pw_below_drewN | apply below_drew1 | refine below_set ?_ GE329.out) | exact HB.out)⟩⟩
  case rest =>
   clear HC7
   try clear c1
   try clear p2
   try clear c3
   try clear c6
   try clear c7
   try clear c8
   try clear c9
   try clear c14
   try clear c14b0
   try clear c14b1
   try clear hcz10_0
   try clear hcz10_1
   try clear hcz10_2
   try clear hcz10_3
   try clear hcz12_0
   try clear hcz12_1
   try clear hcz12_2
   try clear hcz12_3
   try clear hfz10_0
   try clear hfz10_1
   try clear hfz10_2
   try clear hfz10_3
   try clear hfz12_0
   try clear hfz12_1
   try clear hfz12_2
   try clear hfz12_3
   obtain ⟨kq, x41_6, rfl, HA, HJ6, BK329, HB⟩ := hcut
   cases kq with
   | zero => exact absurd HA.out (by simp [laws_FnWindLimits.j0])
   | succ kj6 =>
    have H := HA.out
    clear HA
    simp only [laws_FnWindLimits.j0] at H
    by_cases c15 : x41_6 = true
    ·subst c15
     have H1 : (some false) = some r := by rw [if_pos rfl] at H; exact H
     clear H
     have H := H1
     clear H1
     obtain rfl := Option.some.inj H
     go_wp2
     go_ret
     exact ⟨by first | rfl | (simp [errW_none, errW_some] <;> rfl) | (simp [*, errW_none, errW_some] <;> rfl), by repeat (first | (with_reducible first | exact HB.out | apply below_alloc | apply pw_below_drewN | apply below_drew1 | refine below_set ?_ GE329.out) | exact HB.out)⟩
    ·replace c15 := Bool.eq_false_iff.mpr c15
     subst c15
     have H1 : (if t331 = 0 then ((impl_StripOf.f kj6 t324 t325 t326 t327 (wrap64 (-t330)) t330).bind fun bt334 => (if bt334.2.2 = 0 then (if bt334.1 < (wrap64 (-t328)) then (laws_FnWindLimits.j1 kj6 t328 t330 true t324 t325 t326 t327) else (laws_FnWindLimits.j1 kj6 t328 t330 (decide (bt334.2.1 > t328)) t324 t325 t326 t327)) else (laws_FnWindLimits.j1 kj6 t328 t330 true t324 t325 t326 t327))) else (some true)) = some r := by rw [if_neg (show ¬ (false = true) by decide)] at H; exact H
     clear H
     have H := H1
     clear H1
     by_cases c16 : t331 = 0
     ·rw [if_pos c16] at H
      have c16b0 : (t331 == 0) = true := beq_iff_eq.mpr c16
      have c16b1 : (t331 != 0) = false := bne_eq_false_iff_eq.mpr c16
      clear c16
      replace H := Option.bind_eq_some_iff.mp H
      obtain ⟨⟨t334, t335, t336⟩, A170, H⟩ := H
      replace H : (if t336 = 0 then (if t334 < (wrap64 (-t328)) then (laws_FnWindLimits.j1 kj6 t328 t330 true t324 t325 t326 t327) else (laws_FnWindLimits.j1 kj6 t328 t330 (decide (t335 > t328)) t324 t325 t326 t327)) else (laws_FnWindLimits.j1 kj6 t328 t330 true t324 t325 t326 t327)) = some r := H
      have A17 := Aside0.mk A170
      clear A170
      have HC18 := Aside0.mk H
      clear H
      have hcz19_0 : wc.cell? ⟨gb329, 0, none⟩ = some (.int .i64 t324) := (blk_cell BK329.out 0).trans rfl
      have hcz19_1 : wc.cell? ⟨gb329, 1, none⟩ = some (.int .i64 t325) := (blk_cell BK329.out 1).trans rfl
      have hcz19_2 : wc.cell? ⟨gb329, 2, none⟩ = some (.int .i64 t326) := (blk_cell BK329.out 2).trans rfl
      have hcz19_3 : wc.cell? ⟨gb329, 3, none⟩ = some (.int .i64 t327) := (blk_cell BK329.out 3).trans rfl
      have hfz19_0 := blk_frozen BK329.out 0
      have hfz19_1 := blk_frozen BK329.out 1
      have hfz19_2 := blk_frozen BK329.out 2
      have hfz19_3 := blk_frozen BK329.out 3
      go_upto_region 11 with (first | ((with_reducible refine gate_callee (f := 10) rfl ?_); refine goesL_ (some 49) rfl rfl Try.func10 (by kernel_rfl) rfl #[.agg #[.int .i64 t324, .int .i64 t325, .int .i64 t326, .int .i64 t327], .int .i64 (wrap64 (-t330)), .int .i64 t330] rfl (by (try simp only [List.map_toArray, List.map_cons, List.map_nil]); first | done | rfl | (simp only [List.length_drop, List.length_take]; rfl)) ?_; (with_reducible refine (impl_StripOf.calls kj6 t324 t325 t326 t327 (wrap64 (-t330)) t330 t334 t335 t336 _ A17.out).mono ?_); rintro e w20 ⟨rfl, hb⟩; refine ⟨_, rfl, ?_⟩; have n0_ := Aside0.mk (blk_below (g := gb329) (o := .cells #[.int .i64 t324, .int .i64 t325, .int .i64 t326, .int .i64 t327] 25 (0, 0)) (by (with_reducible repeat (first | refine blk_drewN ?_ _ | refine blk_drew ?_ | refine blk_alloc ?_ _)); exact BK329.out) hb); have n1_ := Aside0.mk (below_step (by repeat (first | (with_reducible first | exact HB.out | apply below_alloc | apply pw_below_drewN | apply below_drew1 | refine below_set ?_ GE329.out) | exact HB.out)) hb); clear BK329; clear HB; have BK329 := n0_; have HB := n1_; clear n0_ n1_; (try clear hb); (try clear hb2); (try clear hk); (try clear hi)))
      (try simp only [Act.put, List.setIfInBounds_toArray, List.set_cons_zero, List.set_cons_succ])
      go_cut [65] (fun v65 wc => ∃ (kq : Nat) (x65_17 : Bool), v65 = .bool x65_17 ∧ Aside0 (laws_FnWindLimits.j1 kq t328 t330 x65_17 t324 t325 t326 t327 = some r) ∧ Aside0 (kq ≤ kj6) ∧ Aside0 (wc.heap[gb329]? = some (.cells #[.int .i64 t324, .int .i64 t325, .int .i64 t326, .int .i64 t327] 25 (0, 0))) ∧ Aside0 (Below w.heap.size w wc))
      case first =>
       have H := HC18.out
       clear HC18
       by_cases c21 : t336 = 0
       ·rw [if_pos c21] at H
        have c21b0 : (t336 == 0) = true := beq_iff_eq.mpr c21
        have c21b1 : (t336 != 0) = false := bne_eq_false_iff_eq.mpr c21
        clear c21
        (first | rw [c21b0] | (simp only [i64_w, i32_w]; rw [c21b0]) | skip)
        by_cases c22 : t334 < (wrap64 (-t328))
        ·rw [if_pos c22] at H
         have c22b0 : decide (t334 < (wrap64 (-t328))) = true := decide_eq_true c22
         clear c22
         have H' := Aside0.mk H
         clear H
         go_wp2
         go_meet
         case rel => exact ⟨_, (true), (by first | rfl | (simp; done) | (simp [*]; done)), H', ⟨by have := HJ6.out; first | omega | exact Nat.le_refl _⟩, ⟨by (with_reducible repeat (first | refine blk_drewN ?_ _ | refine blk_drew ?_ | refine blk_alloc ?_ _)); exact BK329.out⟩, ⟨by repeat (first | (with_reducible first | exact HB.out | apply below_alloc | apply pw_below_drewN | apply below_drew1 | refine below_set ?_ GE329.out) | exact HB.out)⟩⟩
        ·rw [if_neg c22] at H
         have c22b0 : decide (t334 < (wrap64 (-t328))) = false := decide_eq_false c22
         clear c22
         have H' := Aside0.mk H
         clear H
         go_wp2
         go_meet
         case rel => exact ⟨_, (decide (t335 > t328)), (by first | rfl | (simp; done) | (simp [*]; done)), H', ⟨by have := HJ6.out; first | omega | exact Nat.le_refl _⟩, ⟨by (with_reducible repeat (first | refine blk_drewN ?_ _ | refine blk_drew ?_ | refine blk_alloc ?_ _)); exact BK329.out⟩, ⟨by repeat (first | (with_reducible first | exact HB.out | apply below_alloc | apply pw_below_drewN | apply below_drew1 | refine below_set ?_ GE329.out) | exact HB.out)⟩⟩
       ·rw [if_neg c21] at H
        have c21b0 : (t336 == 0) = false := beq_eq_false_iff_ne.mpr c21
        have c21b1 : (t336 != 0) = true := bne_iff_ne.mpr c21
        (first | rw [c21b0] | (simp only [i64_w, i32_w]; rw [c21b0]) | skip)
        have H' := Aside0.mk H
        clear H
        go_wp2
        go_meet
        case rel => exact ⟨_, (true), (by first | rfl | (simp; done) | (simp [*]; done)), H', ⟨by have := HJ6.out; first | omega | exact Nat.le_refl _⟩, ⟨by (with_reducible repeat (first | refine blk_drewN ?_ _ | refine blk_drew ?_ | refine blk_alloc ?_ _)); exact BK329.out⟩, ⟨by repeat (first | (with_reducible first | exact HB.out | apply below_alloc | apply pw_below_drewN | apply below_drew1 | refine below_set ?_ GE329.out) | exact HB.out)⟩⟩
      case rest =>
       clear HC18
       try clear c1
       try clear c2
       try clear p2
       try clear c3
       try clear c6
       try clear p6
       try clear c7
       try clear c8
       try clear c9
       try clear c10
       try clear c14
       try clear c14b0
       try clear c14b1
       try clear c15
       try clear c16
       try clear c16b0
       try clear c16b1
       try clear c21
       try clear c21b0
       try clear c21b1
       try clear c22
       try clear c22b0
       try clear hcz10_0
       try clear hcz10_1
       try clear hcz10_2
       try clear hcz10_3
       try clear hcz12_0
       try clear hcz12_1
       try clear hcz12_2
       try clear hcz12_3
       try clear hcz19_0
       try clear hcz19_1
       try clear hcz19_2
       try clear hcz19_3
       try clear hfz10_0
       try clear hfz10_1
       try clear hfz10_2
       try clear hfz10_3
       try clear hfz12_0
       try clear hfz12_1
       try clear hfz12_2
       try clear hfz12_3
       try clear hfz19_0
       try clear hfz19_1
       try clear hfz19_2
       try clear hfz19_3
       try clear p2
       obtain ⟨kq, x65_17, rfl, HA, HJ17, BK329, HB⟩ := hcut
       cases kq with
       | zero => exact absurd HA.out (by simp [laws_FnWindLimits.j1])
       | succ kj17 =>
        have H := HA.out
        clear HA
        simp only [laws_FnWindLimits.j1] at H
        by_cases c23 : x65_17 = true
        ·subst c23
         have H1 : (some false) = some r := by rw [if_pos rfl] at H; exact H
         clear H
         have H := H1
         clear H1
         obtain rfl := Option.some.inj H
         go_wp2
         go_ret
         exact ⟨by first | rfl | (simp [errW_none, errW_some] <;> rfl) | (simp [*, errW_none, errW_some] <;> rfl), by repeat (first | (with_reducible first | exact HB.out | apply below_alloc | apply pw_below_drewN | apply below_drew1 | refine below_set ?_ GE329.out) | exact HB.out)⟩
        ·replace c23 := Bool.eq_false_iff.mpr c23
         subst c23
         have H1 : (if t330 = 50000 then (some true) else ((impl_StripOf.f kj17 t324 t325 t326 t327 (wrap64 ((wrap64 (-t330)) - 1)) (wrap64 (t330 + 1))).bind fun bt337 => (if bt337.2.2 = 0 then (if bt337.1 < (wrap64 (-t328)) then (some true) else (some (decide (bt337.2.1 > t328)))) else (some false)))) = some r := by rw [if_neg (show ¬ (false = true) by decide)] at H; exact H
         clear H
         have H := H1
         clear H1
         by_cases c24 : t330 = 50000
         ·rw [if_pos c24] at H
          have c24b0 : (t330 == 50000) = true := beq_iff_eq.mpr c24
          have c24b1 : (t330 != 50000) = false := bne_eq_false_iff_eq.mpr c24
          clear c24
          obtain rfl := Option.some.inj H
          go_wp2
          go_ret
          exact ⟨by first | rfl | (simp [errW_none, errW_some] <;> rfl) | (simp [*, errW_none, errW_some] <;> rfl), by repeat (first | (with_reducible first | exact HB.out | apply below_alloc | apply pw_below_drewN | apply below_drew1 | refine below_set ?_ GE329.out) | exact HB.out)⟩
         ·rw [if_neg c24] at H
          have c24b0 : (t330 == 50000) = false := beq_eq_false_iff_ne.mpr c24
          have c24b1 : (t330 != 50000) = true := bne_iff_ne.mpr c24
          replace H := Option.bind_eq_some_iff.mp H
          obtain ⟨⟨t337, t338, t339⟩, A250, H⟩ := H
          replace H : (if t339 = 0 then (if t337 < (wrap64 (-t328)) then (some true) else (some (decide (t338 > t328)))) else (some false)) = some r := H
          have A25 := Aside0.mk A250
          clear A250
          by_cases c26 : t339 = 0
          ·rw [if_pos c26] at H
           have c26b0 : (t339 == 0) = true := beq_iff_eq.mpr c26
           have c26b1 : (t339 != 0) = false := bne_eq_false_iff_eq.mpr c26
           clear c26
           by_cases c27 : t337 < (wrap64 (-t328))
           ·rw [if_pos c27] at H
            have c27b0 : decide (t337 < (wrap64 (-t328))) = true := decide_eq_true c27
            clear c27
            obtain rfl := Option.some.inj H
            have hcz28_0 : wc.cell? ⟨gb329, 0, none⟩ = some (.int .i64 t324) := (blk_cell BK329.out 0).trans rfl
            have hcz28_1 : wc.cell? ⟨gb329, 1, none⟩ = some (.int .i64 t325) := (blk_cell BK329.out 1).trans rfl
            have hcz28_2 : wc.cell? ⟨gb329, 2, none⟩ = some (.int .i64 t326) := (blk_cell BK329.out 2).trans rfl
            have hcz28_3 : wc.cell? ⟨gb329, 3, none⟩ = some (.int .i64 t327) := (blk_cell BK329.out 3).trans rfl
            have hfz28_0 := blk_frozen BK329.out 0
            have hfz28_1 := blk_frozen BK329.out 1
            have hfz28_2 := blk_frozen BK329.out 2
            have hfz28_3 := blk_frozen BK329.out 3
            go_wp2_with (first | ((with_reducible refine gate_callee (f := 10) rfl ?_); refine goesL_ (some 75) rfl rfl Try.func10 (by kernel_rfl) rfl #[.agg #[.int .i64 t324, .int .i64 t325, .int .i64 t326, .int .i64 t327], .int .i64 (wrap64 ((wrap64 (-t330)) - 1)), .int .i64 (wrap64 (t330 + 1))] rfl (by (try simp only [List.map_toArray, List.map_cons, List.map_nil]); first | done | rfl | (simp only [List.length_drop, List.length_take]; rfl)) ?_; (with_reducible refine (impl_StripOf.calls kj17 t324 t325 t326 t327 (wrap64 ((wrap64 (-t330)) - 1)) (wrap64 (t330 + 1)) t337 t338 t339 _ A25.out).mono ?_); rintro e w29 ⟨rfl, hb⟩; refine ⟨_, rfl, ?_⟩; have n0_ := Aside0.mk (blk_below (g := gb329) (o := .cells #[.int .i64 t324, .int .i64 t325, .int .i64 t326, .int .i64 t327] 25 (0, 0)) (by (with_reducible repeat (first | refine blk_drewN ?_ _ | refine blk_drew ?_ | refine blk_alloc ?_ _)); exact BK329.out) hb); have n1_ := Aside0.mk (below_step (by repeat (first | (with_reducible first | exact HB.out | apply below_alloc | apply pw_below_drewN | apply below_drew1 | refine below_set ?_ GE329.out) | exact HB.out)) hb); clear BK329; clear HB; have BK329 := n0_; have HB := n1_; clear n0_ n1_; (try clear hb); (try clear hb2); (try clear hk); (try clear hi)))
            go_ret
            exact ⟨by first | rfl | (simp [errW_none, errW_some] <;> rfl) | (simp [*, errW_none, errW_some] <;> rfl), by repeat (first | (with_reducible first | exact HB.out | apply below_alloc | apply pw_below_drewN | apply below_drew1 | refine below_set ?_ GE329.out) | exact HB.out)⟩
           ·rw [if_neg c27] at H
            have c27b0 : decide (t337 < (wrap64 (-t328))) = false := decide_eq_false c27
            clear c27
            obtain rfl := Option.some.inj H
            have hcz30_0 : wc.cell? ⟨gb329, 0, none⟩ = some (.int .i64 t324) := (blk_cell BK329.out 0).trans rfl
            have hcz30_1 : wc.cell? ⟨gb329, 1, none⟩ = some (.int .i64 t325) := (blk_cell BK329.out 1).trans rfl
            have hcz30_2 : wc.cell? ⟨gb329, 2, none⟩ = some (.int .i64 t326) := (blk_cell BK329.out 2).trans rfl
            have hcz30_3 : wc.cell? ⟨gb329, 3, none⟩ = some (.int .i64 t327) := (blk_cell BK329.out 3).trans rfl
            have hfz30_0 := blk_frozen BK329.out 0
            have hfz30_1 := blk_frozen BK329.out 1
            have hfz30_2 := blk_frozen BK329.out 2
            have hfz30_3 := blk_frozen BK329.out 3
            go_wp2_with (first | ((with_reducible refine gate_callee (f := 10) rfl ?_); refine goesL_ (some 75) rfl rfl Try.func10 (by kernel_rfl) rfl #[.agg #[.int .i64 t324, .int .i64 t325, .int .i64 t326, .int .i64 t327], .int .i64 (wrap64 ((wrap64 (-t330)) - 1)), .int .i64 (wrap64 (t330 + 1))] rfl (by (try simp only [List.map_toArray, List.map_cons, List.map_nil]); first | done | rfl | (simp only [List.length_drop, List.length_take]; rfl)) ?_; (with_reducible refine (impl_StripOf.calls kj17 t324 t325 t326 t327 (wrap64 ((wrap64 (-t330)) - 1)) (wrap64 (t330 + 1)) t337 t338 t339 _ A25.out).mono ?_); rintro e w31 ⟨rfl, hb⟩; refine ⟨_, rfl, ?_⟩; have n0_ := Aside0.mk (blk_below (g := gb329) (o := .cells #[.int .i64 t324, .int .i64 t325, .int .i64 t326, .int .i64 t327] 25 (0, 0)) (by (with_reducible repeat (first | refine blk_drewN ?_ _ | refine blk_drew ?_ | refine blk_alloc ?_ _)); exact BK329.out) hb); have n1_ := Aside0.mk (below_step (by repeat (first | (with_reducible first | exact HB.out | apply below_alloc | apply pw_below_drewN | apply below_drew1 | refine below_set ?_ GE329.out) | exact HB.out)) hb); clear BK329; clear HB; have BK329 := n0_; have HB := n1_; clear n0_ n1_; (try clear hb); (try clear hb2); (try clear hk); (try clear hi)))
            go_ret
            exact ⟨by first | rfl | (simp [errW_none, errW_some] <;> rfl) | (simp [*, errW_none, errW_some] <;> rfl), by repeat (first | (with_reducible first | exact HB.out | apply below_alloc | apply pw_below_drewN | apply below_drew1 | refine below_set ?_ GE329.out) | exact HB.out)⟩
          ·rw [if_neg c26] at H
           have c26b0 : (t339 == 0) = false := beq_eq_false_iff_ne.mpr c26
           have c26b1 : (t339 != 0) = true := bne_iff_ne.mpr c26
           obtain rfl := Option.some.inj H
           have hcz32_0 : wc.cell? ⟨gb329, 0, none⟩ = some (.int .i64 t324) := (blk_cell BK329.out 0).trans rfl
           have hcz32_1 : wc.cell? ⟨gb329, 1, none⟩ = some (.int .i64 t325) := (blk_cell BK329.out 1).trans rfl
           have hcz32_2 : wc.cell? ⟨gb329, 2, none⟩ = some (.int .i64 t326) := (blk_cell BK329.out 2).trans rfl
           have hcz32_3 : wc.cell? ⟨gb329, 3, none⟩ = some (.int .i64 t327) := (blk_cell BK329.out 3).trans rfl
           have hfz32_0 := blk_frozen BK329.out 0
           have hfz32_1 := blk_frozen BK329.out 1
           have hfz32_2 := blk_frozen BK329.out 2
           have hfz32_3 := blk_frozen BK329.out 3
           go_wp2_with (first | ((with_reducible refine gate_callee (f := 10) rfl ?_); refine goesL_ (some 75) rfl rfl Try.func10 (by kernel_rfl) rfl #[.agg #[.int .i64 t324, .int .i64 t325, .int .i64 t326, .int .i64 t327], .int .i64 (wrap64 ((wrap64 (-t330)) - 1)), .int .i64 (wrap64 (t330 + 1))] rfl (by (try simp only [List.map_toArray, List.map_cons, List.map_nil]); first | done | rfl | (simp only [List.length_drop, List.length_take]; rfl)) ?_; (with_reducible refine (impl_StripOf.calls kj17 t324 t325 t326 t327 (wrap64 ((wrap64 (-t330)) - 1)) (wrap64 (t330 + 1)) t337 t338 t339 _ A25.out).mono ?_); rintro e w33 ⟨rfl, hb⟩; refine ⟨_, rfl, ?_⟩; have n0_ := Aside0.mk (blk_below (g := gb329) (o := .cells #[.int .i64 t324, .int .i64 t325, .int .i64 t326, .int .i64 t327] 25 (0, 0)) (by (with_reducible repeat (first | refine blk_drewN ?_ _ | refine blk_drew ?_ | refine blk_alloc ?_ _)); exact BK329.out) hb); have n1_ := Aside0.mk (below_step (by repeat (first | (with_reducible first | exact HB.out | apply below_alloc | apply pw_below_drewN | apply below_drew1 | refine below_set ?_ GE329.out) | exact HB.out)) hb); clear BK329; clear HB; have BK329 := n0_; have HB := n1_; clear n0_ n1_; (try clear hb); (try clear hb2); (try clear hk); (try clear hi)))
           go_ret
           exact ⟨by first | rfl | (simp [errW_none, errW_some] <;> rfl) | (simp [*, errW_none, errW_some] <;> rfl), by repeat (first | (with_reducible first | exact HB.out | apply below_alloc | apply pw_below_drewN | apply below_drew1 | refine below_set ?_ GE329.out) | exact HB.out)⟩
     ·rw [if_neg c16] at H
      have c16b0 : (t331 == 0) = false := beq_eq_false_iff_ne.mpr c16
      have c16b1 : (t331 != 0) = true := bne_iff_ne.mpr c16
      obtain rfl := Option.some.inj H
      go_wp2
      go_ret
      exact ⟨by first | rfl | (simp [errW_none, errW_some] <;> rfl) | (simp [*, errW_none, errW_some] <;> rfl), by repeat (first | (with_reducible first | exact HB.out | apply below_alloc | apply pw_below_drewN | apply below_drew1 | refine below_set ?_ GE329.out) | exact HB.out)⟩
def laws_FnWindLimits.Pure : Prop := ∀ (l0 : List Int), l0.length ≤ maxLen → l0.length * 1 ≤ 140737488351232 → (∀ x ∈ l0, (Lit.int .u8 x).wf = true) → ∃ k, laws_FnWindLimits.f k l0 = some true
theorem laws_FnWindLimits.walk (P : laws_FnWindLimits.Pure) (a0 : Option Addr) (len0 cap0 : Nat) (z0 : List Int) (w : World) (w0 : (a0 = none ∧ len0 = 0 ∧ cap0 = 0 ∧ z0 = []) ∨ ∃ x, a0 = some x ∧ len0 ≤ cap0 ∧ cap0 ≤ maxLen ∧ z0.length = cap0 ∧ (∀ i, i < z0.length → w.cell? (x.add i) = some (.int .u8 (z0.getD i 0))) ∧ ∀ n ∈ z0, (Lit.int .u8 n).wf = true) (y0 : len0 * 1 ≤ 140737488351232) :
  Calls Try.prog 3 #[.slice a0 len0 cap0] w fun e w' => e = .returned (.bool true) ∧ Below w.heap.size w w' := by
 obtain ⟨l0, rfl, hr0, hm0, hw0, hc0⟩ := ReadsInt.ofRowC w0
 obtain ⟨k, h⟩ := P l0 hm0 y0 hw0
 refine (laws_FnWindLimits.calls k _ _ l0 true w (Kd.C_of_reads (d := (0 : Int)) (h1 := fun _ => rfl) hr0) hc0 h).mono ?_
 rintro e w' ⟨rfl, hd⟩
 exact ⟨rfl, hd⟩
end Go.Proofs.Ytbleliajcbdijaa.F
namespace Go.Proofs.Ytbleliajcbdijaa.F
open Go.RowKit Go.Proofs.YtbleliajcbdijaaW.PrintWords Go.Proofs.YtbleliajcbdijaaW.PrintLast Go.Proofs.YtbleliajcbdijaaW.PrintMore
set_option linter.unusedVariables false
set_option linter.unusedSimpArgs false
def Evt (P : Nat → Prop) : Prop := ∃ K, ∀ k, K ≤ k → P k
theorem Evt.mono {P Q : Nat → Prop} (h : Evt P) (hq : ∀ k, P k → Q k) : Evt Q := by
 obtain ⟨K, h⟩ := h
 exact ⟨K, fun k hk => hq k (h k hk)⟩
theorem Evt.succ {P : Nat → Prop} (h : Evt (fun k => P (k + 1))) : Evt P := by
 obtain ⟨K, h⟩ := h
 refine ⟨K + 1, fun k hk => ?_⟩
 obtain ⟨m, rfl⟩ : ∃ m, k = m + 1 := ⟨k - 1, by omega⟩
 exact h m (by omega)
theorem w64 {n : Int} (h : -9223372036854775808 ≤ n ∧ n ≤ 9223372036854775807) : wrap64 n = n := by unfold wrap64; omega
def inB (n lo hi : Int) : Bool := decide (lo ≤ n ∧ n ≤ hi)
theorem inB_true {n lo hi : Int} : inB n lo hi = true ↔ lo ≤ n ∧ n ≤ hi := by unfold inB; exact decide_eq_true_iff
theorem inB_false {n lo hi : Int} : inB n lo hi = false ↔ ¬ (lo ≤ n ∧ n ≤ hi) := by unfold inB; exact decide_eq_false_iff_not
end Go.Proofs.Ytbleliajcbdijaa.F
namespace Go.Proofs.Ytbleliajcbdijaa.F
open Go.RowKit Go.Proofs.YtbleliajcbdijaaW.PrintWords Go.Proofs.YtbleliajcbdijaaW.PrintLast Go.Proofs.YtbleliajcbdijaaW.PrintMore
set_option linter.unusedVariables false
set_option linter.unusedSimpArgs false
theorem In_eq (n lo hi : Int) : spec_l01In.f n lo hi = some (inB n lo hi) := by
 unfold spec_l01In.f inB
 by_cases h : n ≥ lo
 ·rw [if_pos h]; congr 1; simp; omega
 ·rw [if_neg h]; congr 1; simp; omega
theorem Wi_eq (n lo hi : Int) : impl_within.f n lo hi = some (inB n lo hi) := by
 unfold impl_within.f inB
 by_cases h : lo ≤ n
 ·rw [if_pos h]; congr 1; simp; omega
 ·rw [if_neg h]; congr 1; simp; omega
end Go.Proofs.Ytbleliajcbdijaa.F
namespace Go.Proofs.Ytbleliajcbdijaa.F
open Go.RowKit Go.Proofs.YtbleliajcbdijaaW.PrintWords Go.Proofs.YtbleliajcbdijaaW.PrintLast Go.Proofs.YtbleliajcbdijaaW.PrintMore
set_option linter.unusedVariables false
set_option linter.unusedSimpArgs false
theorem tdiv_pos {a b : Int} (hb : 0 < b) : (Int.tmod a b < 0 → Int.tdiv a b = a / b + 1) ∧ (¬ Int.tmod a b < 0 → Int.tdiv a b = a / b) := by
 have h1 := Int.emod_nonneg a (show b ≠ 0 by omega)
 have h2 := Int.emod_lt_of_pos a hb
 have h3 : Int.sign b = 1 := Int.sign_eq_one_of_pos hb
 rw [Int.tmod_eq_emod, Int.tdiv_eq_ediv, h3]
 by_cases h : 0 ≤ a ∨ b ∣ a
 ·rw [if_pos h, if_pos h]
  omega
 ·rw [if_neg h, if_neg h]
  omega
theorem ediv_small {a b : Int} (hb : 0 < b) (ha : -4611686018427387904 ≤ a ∧ a ≤ 4611686018427387904) : -4611686018427387904 ≤ a / b ∧ a / b ≤ 4611686018427387904 := by
 constructor
 ·exact (Int.le_ediv_iff_mul_le hb).2 (by
   have : -4611686018427387904 * b ≤ -4611686018427387904 * 1 := Int.mul_le_mul_of_nonpos_left (by omega) (by omega)
   omega)
 ·by_cases h : 0 ≤ a
  ·have := Int.ediv_le_self b h
   omega
  ·have := Int.ediv_neg_of_neg_of_pos (show a < 0 by omega) hb
   omega
theorem Fl_eq {a b : Int} (hb : 0 < b) (ha : -4611686018427387904 ≤ a ∧ a ≤ 4611686018427387904) : impl_floorDiv.f a b = some (a / b) := by
 have h := tdiv_pos (a := a) hb
 have hs := ediv_small hb ha
 unfold impl_floorDiv.f
 rw [if_neg (by omega)]
 by_cases hm : Int.tmod a b < 0
 ·rw [if_pos hm, h.1 hm, w64 (n := a / b + 1) (by omega), w64 (by omega)]
  congr 1; omega
 ·rw [if_neg hm, h.2 hm, w64 (by omega)]
theorem SFl_eq {a b : Int} (hb : 0 < b) (ha : -4611686018427387904 ≤ a ∧ a ≤ 4611686018427387904) : spec_l01Floor.f a b = some (a / b) := by
 have h := tdiv_pos (a := a) hb
 have hs := ediv_small hb ha
 unfold spec_l01Floor.f
 rw [if_neg (by omega), if_neg (by omega)]
 by_cases hm : Int.tmod a b < 0
 ·rw [if_pos hm, h.1 hm, w64 (n := a / b + 1) (by omega), w64 (by omega)]
  congr 1; omega
 ·rw [if_neg hm, h.2 hm, w64 (by omega)]
theorem tdiv_nn {a b : Int} (ha : 0 ≤ a) : Int.tdiv a b = a / b := Int.tdiv_eq_ediv_of_nonneg ha
theorem prod_nn {a b A B : Int} (ha : 0 ≤ a ∧ a ≤ A) (hb : 0 ≤ b ∧ b ≤ B) : 0 ≤ a * b ∧ a * b ≤ A * B := ⟨Int.mul_nonneg ha.1 hb.1, Int.mul_le_mul ha.2 hb.2 hb.1 (by omega)⟩
theorem prod_abs {a b A B : Int} (ha : -A ≤ a ∧ a ≤ A) (hb : 0 ≤ b ∧ b ≤ B) : -(A * B) ≤ a * b ∧ a * b ≤ A * B := by
 have h1 : a * b ≤ A * b := Int.mul_le_mul_of_nonneg_right ha.2 hb.1
 have h2 : (-A) * b ≤ a * b := Int.mul_le_mul_of_nonneg_right ha.1 hb.1
 have h3 : A * b ≤ A * B := Int.mul_le_mul_of_nonneg_left hb.2 (by omega)
 rw [Int.neg_mul] at h2
 omega
end Go.Proofs.Ytbleliajcbdijaa.F
namespace Go.Proofs.Ytbleliajcbdijaa.F
open Go.RowKit Go.Proofs.YtbleliajcbdijaaW.PrintWords Go.Proofs.YtbleliajcbdijaaW.PrintLast Go.Proofs.YtbleliajcbdijaaW.PrintMore
set_option linter.unusedVariables false
set_option linter.unusedSimpArgs false
def gg (up t : Int) : Int := 2000 * up * t - 9810 * t * t
def HH (up t : Int) : Int := gg up t / 2000000
def lastT (up : Int) : Int := 1000 * up / 9810
theorem gg_small {up t : Int} (hu : 0 ≤ up ∧ up ≤ 200000) (ht : 0 ≤ t ∧ t ≤ 60001) : 0 ≤ 2000 * up * t ∧ 2000 * up * t ≤ 24000400000000 ∧ 0 ≤ 9810 * t * t ∧ 9810 * t * t ≤ 35317177209810 := by
 have h1 := prod_nn (a := 2000 * up) (b := t) (A := 400000000) (B := 60001) (by omega) ht
 have h2 := prod_nn (a := 9810 * t) (b := t) (A := 588609810) (B := 60001) (by omega) ht
 omega
theorem H_spec {up t : Int} (hu : 0 ≤ up ∧ up ≤ 200000) (ht : 0 ≤ t ∧ t ≤ 60001) : spec_l04Height.f up t = some (HH up t) := by
 have h := gg_small hu ht
 unfold spec_l04Height.f
 rw [w64 (n := 2000 * up) (by omega), w64 (n := 2000 * up * t) (by omega), w64 (n := 9810 * t) (by omega), w64 (n := 9810 * t * t) (by omega), w64 (n := 2000 * up * t - _) (by omega), SFl_eq (by omega) (by omega)]
 rfl
theorem H_impl {up t : Int} (hu : 0 ≤ up ∧ up ≤ 200000) (ht : 0 ≤ t ∧ t ≤ 60001) : impl_heightAt.f up t = some (HH up t) := by
 have h := gg_small hu ht
 unfold impl_heightAt.f
 rw [w64 (n := 2000 * up) (by omega), w64 (n := 2000 * up * t) (by omega), w64 (n := 9810 * t) (by omega), w64 (n := 9810 * t * t) (by omega), w64 (n := 2000 * up * t - _) (by omega), Fl_eq (by omega) (by omega)]
 rfl
theorem gg_step (up t : Int) : gg up (t + 1) = gg up t + 2000 * up - 9810 * (2 * t + 1) := by
 unfold gg
 rw [Int.mul_add (2000 * up), Int.mul_add 9810, Int.mul_add, Int.add_mul]
 omega
theorem last_le {up : Int} (hu : 0 ≤ up ∧ up ≤ 200000) : 0 ≤ lastT up ∧ lastT up ≤ 20387 ∧ 9810 * lastT up ≤ 1000 * up ∧ 1000 * up < 9810 * lastT up + 9810 := by unfold lastT; omega
theorem HH_of_gg {up s t : Int} (h : gg up s ≤ gg up t) : HH up s ≤ HH up t := Int.ediv_le_ediv (by omega) h
theorem gg_rise {up : Int} (hu : 0 ≤ up ∧ up ≤ 200000) {s : Int} (hs : 0 ≤ s) : ∀ n : Nat, s + n ≤ lastT up → gg up s ≤ gg up (s + n)
 | 0, _ => by rw [Int.natCast_zero, Int.add_zero]; exact Int.le_refl _
 | n + 1, h => by
  have h1 := gg_rise hu hs n (by omega)
  have h2 := gg_step up (s + n)
  have h3 := last_le hu
  rw [show s + ((n + 1 : Nat) : Int) = s + n + 1 by omega]
  omega
theorem H_rise {up s t : Int} (hu : 0 ≤ up ∧ up ≤ 200000) (hs : 0 ≤ s) (hst : s ≤ t) (ht : t ≤ lastT up) : HH up s ≤ HH up t := by
 have := gg_rise hu hs (t - s).toNat (by omega)
 rw [show s + ((t - s).toNat : Int) = t by omega] at this
 exact HH_of_gg this
theorem gg_fall {up : Int} (hu : 0 ≤ up ∧ up ≤ 200000) {s : Int} (hs : lastT up + 1 ≤ s) : ∀ n : Nat, gg up (s + n) ≤ gg up s
 | 0 => by rw [Int.natCast_zero, Int.add_zero]; exact Int.le_refl _
 | n + 1 => by
  have h1 := gg_fall hu hs n
  have h2 := gg_step up (s + n)
  have h3 := last_le hu
  rw [show s + ((n + 1 : Nat) : Int) = s + n + 1 by omega]
  omega
theorem H_fall {up s t : Int} (hu : 0 ≤ up ∧ up ≤ 200000) (hs : lastT up + 1 ≤ s) (hst : s ≤ t) : HH up t ≤ HH up s := by
 have := gg_fall hu hs (t - s).toNat
 rw [show s + ((t - s).toNat : Int) = t by omega] at this
 exact HH_of_gg this
def IsTop (up t top : Int) : Prop := 0 ≤ t ∧ t ≤ lastT up + 1 ∧ HH up t = top ∧ (∀ s, 0 ≤ s → s < t → HH up s < top) ∧ ∀ s, 0 ≤ s → s ≤ lastT up + 1 → HH up s ≤ top
theorem IsTop.unique {up t top t' top' : Int} (h : IsTop up t top) (h' : IsTop up t' top') : t' = t ∧ top' = top := by
 obtain ⟨a, b, c, d, e⟩ := h
 obtain ⟨a', b', c', d', e'⟩ := h'
 have h1 := e t' a' b'
 have h2 := e' t a b
 refine ⟨?_, by omega⟩
 rcases Int.lt_trichotomy t t' with x | x | x
 ·have := d' t a x; omega
 ·exact x.symm
 ·have := d t' a' x; omega
theorem top_all {up top : Int} (hu : 0 ≤ up ∧ up ≤ 200000) (h1 : HH up (lastT up) ≤ top) (h2 : HH up (lastT up + 1) ≤ top) : ∀ s, 0 ≤ s → s ≤ lastT up + 1 → HH up s ≤ top := by
 intro s hs hs2
 by_cases e : s = lastT up + 1
 ·rw [e]; exact h2
 ·exact Int.le_trans (H_rise hu hs (by omega) (Int.le_refl _)) h1
theorem spec_top_loop {up top : Int} (hu : 0 ≤ up ∧ up ≤ 200000) (n : Nat) : ∀ (k : Nat) (t : Int), t = n → t ≤ lastT up → HH up t = top → n < k →
  ∃ r, spec_l04Top.l0 k up t top = some (r, top) ∧ 0 ≤ r ∧ r ≤ lastT up ∧ HH up r = top ∧ ∀ s, 0 ≤ s → s < r → HH up s < top := by
 have hl := last_le hu
 induction n with
 | zero =>
  intro k t ht h1 h2 hk
  obtain ⟨k, rfl⟩ : ∃ m, k = m + 1 := ⟨k - 1, by omega⟩
  refine ⟨t, ?_, by omega, h1, h2, fun s h3 h4 => by omega⟩
  simp only [spec_l04Top.l0]
  rw [if_neg (by omega), H_spec hu (by omega)]
  simp only [Option.bind_some]
  rw [if_neg (by omega)]
 | succ n ih =>
  intro k t ht h1 h2 hk
  obtain ⟨k, rfl⟩ : ∃ m, k = m + 1 := ⟨k - 1, by omega⟩
  simp only [spec_l04Top.l0]
  rw [if_pos (by omega), w64 (by omega), H_spec hu (by omega), H_spec hu (by omega)]
  simp only [Option.bind_some]
  by_cases e : HH up (t - 1) = top
  ·rw [if_pos e]
   exact ih k (t - 1) (by omega) (by omega) e (by omega)
  ·rw [if_neg e, if_neg (by omega)]
   refine ⟨t, rfl, by omega, h1, h2, fun s h3 h4 => ?_⟩
   have h5 := H_rise hu h3 (show s ≤ t - 1 by omega) (by omega)
   have h6 := H_rise hu (show 0 ≤ t - 1 by omega) (show t - 1 ≤ t by omega) h1
   omega
theorem spec_top {up : Int} (hu : 0 ≤ up ∧ up ≤ 200000) (k : Nat) (hk : 30000 ≤ k) : ∃ t top, spec_l04Top.f k up = some (t, top) ∧ IsTop up t top := by
 have hl := last_le hu
 unfold spec_l04Top.f
 rw [w64 (n := 1000 * up) (by omega), tdiv_nn (by omega)]
 show ∃ t top, ((spec_l04Height.f up (wrap64 (lastT up))).bind fun t174 => ((spec_l04Height.f up (wrap64 (wrap64 (lastT up) + 1))).bind fun t175 => spec_l04Top.l0 k up (wrap64 (lastT up)) (mx t174 t175))) = some (t, top) ∧ _
 rw [w64 (n := lastT up) (by omega), w64 (n := lastT up + 1) (by omega), H_spec hu (by omega), H_spec hu (by omega)]
 simp only [Option.bind_some]
 by_cases c : HH up (lastT up) < HH up (lastT up + 1)
 ·have em : mx (HH up (lastT up)) (HH up (lastT up + 1)) = HH up (lastT up + 1) := by unfold mx; rw [if_pos c]
  rw [em]
  obtain ⟨k, rfl⟩ : ∃ m, k = m + 1 := ⟨k - 1, by omega⟩
  refine ⟨lastT up + 1, HH up (lastT up + 1), ?_, by omega, by omega, rfl, fun s h1 h2 => ?_, top_all hu (by omega) (Int.le_refl _)⟩
  ·simp only [spec_l04Top.l0]
   by_cases h0 : lastT up > 0
   ·have h6 := H_rise hu (show 0 ≤ lastT up - 1 by omega) (show lastT up - 1 ≤ lastT up by omega) (Int.le_refl _)
    rw [if_pos h0, w64 (n := lastT up - 1) (by omega), H_spec hu (by omega), H_spec hu (by omega)]
    simp only [Option.bind_some]
    rw [if_neg (by omega), if_pos c, w64 (by omega)]
   ·rw [if_neg h0, H_spec hu (by omega)]
    simp only [Option.bind_some]
    rw [if_pos c, w64 (by omega)]
  ·exact Int.lt_of_le_of_lt (H_rise hu h1 (by omega) (Int.le_refl _)) c
 ·have em : mx (HH up (lastT up)) (HH up (lastT up + 1)) = HH up (lastT up) := by unfold mx; rw [if_neg c]
  rw [em]
  obtain ⟨r, hr, h1, h2, h3, h4⟩ := spec_top_loop (top := HH up (lastT up)) hu (lastT up).toNat k (lastT up) (by omega) (Int.le_refl _) rfl (by omega)
  exact ⟨r, _, hr, h1, by omega, h3, h4, top_all hu (Int.le_refl _) (by omega)⟩
theorem impl_top_loop {up top : Int} (hu : 0 ≤ up ∧ up ≤ 200000) (n : Nat) : ∀ (k : Nat) (lo hi : Int), hi - lo ≤ n → 0 ≤ lo → lo ≤ hi → hi ≤ lastT up → top ≤ HH up hi → (∀ s, 0 ≤ s → s < lo → HH up s < top) → n < k →
  ∃ r, impl_topOf.l0 k up top lo hi = some (r, top) ∧ 0 ≤ r ∧ r ≤ lastT up ∧ top ≤ HH up r ∧ ∀ s, 0 ≤ s → s < r → HH up s < top := by
 have hl := last_le hu
 induction n with
 | zero =>
  intro k lo hi h1 h2 h3 h4 h5 h6 hk
  obtain ⟨k, rfl⟩ : ∃ m, k = m + 1 := ⟨k - 1, by omega⟩
  have e : lo = hi := by omega
  subst e
  refine ⟨lo, ?_, h2, h4, h5, h6⟩
  simp only [impl_topOf.l0]
  rw [if_neg (by omega)]
 | succ n ih =>
  intro k lo hi h1 h2 h3 h4 h5 h6 hk
  obtain ⟨k, rfl⟩ : ∃ m, k = m + 1 := ⟨k - 1, by omega⟩
  simp only [impl_topOf.l0]
  by_cases c : lo < hi
  ·rw [if_pos c, w64 (n := lo + hi) (by omega), tdiv_nn (by omega), w64 (n := (lo + hi) / 2) (by omega), H_impl hu (by omega)]
   simp only [Option.bind_some]
   by_cases d : HH up ((lo + hi) / 2) ≥ top
   ·rw [if_pos d]
    exact ih k lo ((lo + hi) / 2) (by omega) h2 (by omega) (by omega) d h6 (by omega)
   ·rw [if_neg d, w64 (by omega)]
    refine ih k ((lo + hi) / 2 + 1) hi (by omega) (by omega) (by omega) h4 h5 (fun s h7 h8 => ?_) (by omega)
    have := H_rise hu h7 (show s ≤ (lo + hi) / 2 by omega) (by omega)
    omega
  ·rw [if_neg c]
   have e : lo = hi := by omega
   subst e
   exact ⟨lo, rfl, h2, h4, h5, h6⟩
theorem impl_top {up : Int} (hu : 0 ≤ up ∧ up ≤ 200000) (k : Nat) (hk : 30000 ≤ k) : ∃ t top, impl_topOf.f k up = some (t, top) ∧ IsTop up t top := by
 have hl := last_le hu
 unfold impl_topOf.f
 rw [w64 (n := 1000 * up) (by omega), tdiv_nn (by omega)]
 show ∃ t top, ((impl_heightAt.f up (wrap64 (lastT up))).bind fun t202 => ((impl_heightAt.f up (wrap64 (wrap64 (lastT up) + 1))).bind fun t203 => (if t203 > t202 then (some (wrap64 (wrap64 (lastT up) + 1), t203)) else (impl_topOf.l0 k up t202 0 (wrap64 (lastT up)))))) = some (t, top) ∧ _
 rw [w64 (n := lastT up) (by omega), w64 (n := lastT up + 1) (by omega), H_impl hu (by omega), H_impl hu (by omega)]
 simp only [Option.bind_some]
 by_cases c : HH up (lastT up) < HH up (lastT up + 1)
 ·rw [if_pos c]
  exact ⟨_, _, rfl, by omega, by omega, rfl, fun s h1 h2 => Int.lt_of_le_of_lt (H_rise hu h1 (by omega) (Int.le_refl _)) c, top_all hu (by omega) (Int.le_refl _)⟩
 ·rw [if_neg c]
  obtain ⟨r, hr, h1, h2, h3, h4⟩ := impl_top_loop (top := HH up (lastT up)) hu (lastT up).toNat k 0 (lastT up) (by omega) (by omega) (by omega) (Int.le_refl _) (Int.le_refl _) (fun s h1 h2 => by omega) (by omega)
  have h5 := H_rise hu h1 h2 (Int.le_refl _)
  exact ⟨r, _, hr, h1, by omega, by omega, h4, top_all hu (Int.le_refl _) (by omega)⟩
theorem top_both {up : Int} (hu : 0 ≤ up ∧ up ≤ 200000) : ∃ t top, IsTop up t top ∧ (∀ k, 30000 ≤ k → spec_l04Top.f k up = some (t, top)) ∧ ∀ k, 30000 ≤ k → impl_topOf.f k up = some (t, top) := by
 obtain ⟨t, top, _, h⟩ := spec_top hu 30000 (Nat.le_refl _)
 refine ⟨t, top, h, fun k hk => ?_, fun k hk => ?_⟩
 ·obtain ⟨t', top', e, h'⟩ := spec_top hu k hk
  obtain ⟨rfl, rfl⟩ := h.unique h'
  exact e
 ·obtain ⟨t', top', e, h'⟩ := impl_top hu k hk
  obtain ⟨rfl, rfl⟩ := h.unique h'
  exact e
theorem top_range {up t top : Int} (hu : 0 ≤ up ∧ up ≤ 200000) (h : IsTop up t top) : 0 ≤ t ∧ t ≤ 20388 ∧ 0 ≤ top ∧ top ≤ 12000200 := by
 have hl := last_le hu
 obtain ⟨a, b, c, d, e⟩ := h
 have h0 := e 0 (Int.le_refl _) (by omega)
 have h1 : HH up 0 = 0 := by unfold HH gg; rw [Int.mul_zero, Int.mul_zero]; rfl
 have h2 := gg_small hu (show 0 ≤ t ∧ t ≤ 60001 by omega)
 have h3 : HH up t ≤ 24000400000000 / 2000000 := Int.ediv_le_ediv (by omega) (by unfold gg; omega)
 omega
def topPair (up : Int) : Int × Int := (impl_topOf.f 30000 up).getD (0, 0)
def tTop (up : Int) : Int := (topPair up).1
def vTop (up : Int) : Int := (topPair up).2
theorem top_is {up : Int} (hu : 0 ≤ up ∧ up ≤ 200000) : IsTop up (tTop up) (vTop up) ∧ (∀ k, 30000 ≤ k → spec_l04Top.f k up = some (tTop up, vTop up)) ∧ (∀ k, 30000 ≤ k → impl_topOf.f k up = some (tTop up, vTop up)) := by
 obtain ⟨t, top, h, hs, hi⟩ := top_both hu
 have e : topPair up = (t, top) := by unfold topPair; rw [hi 30000 (Nat.le_refl _)]; rfl
 unfold tTop vTop
 rw [e]
 exact ⟨h, hs, hi⟩
theorem tTop_range {up : Int} (hu : 0 ≤ up ∧ up ≤ 200000) : 0 ≤ tTop up ∧ tTop up ≤ 20388 ∧ 0 ≤ vTop up ∧ vTop up ≤ 12000200 := top_range hu (top_is hu).1
end Go.Proofs.Ytbleliajcbdijaa.F
namespace Go.Proofs.Ytbleliajcbdijaa.F
open Go.RowKit Go.Proofs.YtbleliajcbdijaaW.PrintWords Go.Proofs.YtbleliajcbdijaaW.PrintLast Go.Proofs.YtbleliajcbdijaaW.PrintMore
set_option linter.unusedVariables false
set_option linter.unusedSimpArgs false
def isShot (u s f r : Int) : Bool := inB u 0 200000 && (inB s (-50000) 50000 && (inB f 100 10000 && inB r 0 200000))
def areWinds (lo hi : Int) : Bool := inB lo (-50000) 50000 && inB hi lo 50000
theorem spec_shot (u s f r : Int) : spec_IsShot.f u s f r = some (isShot u s f r) := by
 unfold spec_IsShot.f spec_l04Code.f isShot
 simp only [In_eq, Option.bind_some]
 cases inB u 0 200000 <;> cases inB s (-50000) 50000 <;> cases inB f 100 10000 <;> cases inB r 0 200000 <;> rfl
theorem impl_shot (u s f r : Int) : impl_IsShot.f u s f r = some (isShot u s f r) := by
 unfold impl_IsShot.f impl_isUp.f impl_isSide.f isShot
 simp only [Wi_eq, Option.bind_some]
 cases inB u 0 200000 <;> cases inB s (-50000) 50000 <;> cases inB f 100 10000 <;> cases inB r 0 200000 <;> rfl
theorem spec_winds (lo hi : Int) : spec_l06Winds.f lo hi = some (areWinds lo hi) := by
 unfold spec_l06Winds.f areWinds
 simp only [In_eq, Option.bind_some]
 cases inB lo (-50000) 50000 <;> cases inB hi lo 50000 <;> rfl
theorem impl_winds (lo hi : Int) : impl_areWinds.f lo hi = some (areWinds lo hi) := by
 unfold impl_areWinds.f impl_isSide.f areWinds
 simp only [Wi_eq, Option.bind_some]
 cases h : inB lo (-50000) 50000 with
 | false => rfl
 | true =>
  rw [inB_true] at h
  rw [if_pos rfl, Bool.true_and]
  cases h2 : inB hi (-50000) 50000 with
  | false =>
   rw [inB_false] at h2
   rw [inB_false.2 (by omega)]; rfl
  | true =>
   rw [inB_true] at h2
   rw [if_pos rfl]
   congr 1
   rw [Bool.eq_iff_iff, inB_true, decide_eq_true_iff]
   omega
theorem spec_code1 (u s f r lo hi : Int) (k : Nat) (hk : 1 < k) : spec_l06Code.f k [(⟨u, s, f, r⟩ : S25)] lo hi = some (if isShot u s f r = true then (if areWinds lo hi = true then 0 else 2) else 1) := by
 obtain ⟨k, rfl⟩ : ∃ m, k = m + 1 + 1 := ⟨k - 2, by omega⟩
 have e : (([(⟨u, s, f, r⟩ : S25)] : List S25).length : Int) = 1 := rfl
 have e2 : rd_T25 [(⟨u, s, f, r⟩ : S25)] 0 = ⟨u, s, f, r⟩ := rfl
 have e3 : wrap64 (0 + 1) = 1 := by unfold wrap64; omega
 unfold spec_l06Code.f
 simp only [spec_l06Code.l0]
 rw [e, e2, e3]
 simp only [spec_shot, spec_winds, Option.bind_some]
 cases isShot u s f r <;> cases areWinds lo hi <;> simp
def drift (s wnd t : Int) : Int := (s + wnd) * t / 1000
theorem drift_small {s wnd t : Int} (hs : -50000 ≤ s ∧ s ≤ 50000) (hw : -50000 ≤ wnd ∧ wnd ≤ 50000) (ht : 0 ≤ t ∧ t ≤ 60000) : -6000000000 ≤ (s + wnd) * t ∧ (s + wnd) * t ≤ 6000000000 := by
 have := prod_abs (a := s + wnd) (b := t) (A := 100000) (B := 60000) (by omega) ht
 omega
theorem spec_drift {s wnd t : Int} (hs : -50000 ≤ s ∧ s ≤ 50000) (hw : -50000 ≤ wnd ∧ wnd ≤ 50000) (ht : 0 ≤ t ∧ t ≤ 60000) : spec_l04Drift.f s wnd t = some (drift s wnd t) := by
 have h := drift_small hs hw ht
 unfold spec_l04Drift.f
 rw [w64 (n := s + wnd) (by omega), w64 (by omega), SFl_eq (by omega) (by omega)]
 rfl
theorem impl_drift {s wnd t : Int} (hs : -50000 ≤ s ∧ s ≤ 50000) (hw : -50000 ≤ wnd ∧ wnd ≤ 50000) (ht : 0 ≤ t ∧ t ≤ 60000) : impl_driftAt.f s wnd t = some (drift s wnd t) := by
 have h := drift_small hs hw ht
 unfold impl_driftAt.f
 rw [w64 (n := s + wnd) (by omega), w64 (by omega), Fl_eq (by omega) (by omega)]
 rfl
theorem isShot_true {u s f r : Int} (h : isShot u s f r = true) : (0 ≤ u ∧ u ≤ 200000) ∧ (-50000 ≤ s ∧ s ≤ 50000) ∧ (100 ≤ f ∧ f ≤ 10000) ∧ (0 ≤ r ∧ r ≤ 200000) := by
 unfold isShot at h
 simpa only [Bool.and_eq_true, inB_true] using h
theorem areWinds_true {lo hi : Int} (h : areWinds lo hi = true) : (-50000 ≤ lo ∧ lo ≤ 50000) ∧ lo ≤ hi ∧ hi ≤ 50000 := by
 unfold areWinds at h
 simpa only [Bool.and_eq_true, inB_true] using h
end Go.Proofs.Ytbleliajcbdijaa.F
namespace Go.Proofs.Ytbleliajcbdijaa.F
open Go.RowKit Go.Proofs.YtbleliajcbdijaaW.PrintWords Go.Proofs.YtbleliajcbdijaaW.PrintLast Go.Proofs.YtbleliajcbdijaaW.PrintMore
set_option linter.unusedVariables false
set_option linter.unusedSimpArgs false
end Go.Proofs.Ytbleliajcbdijaa.F
namespace Go.Proofs.Ytbleliajcbdijaa.F
open Go.RowKit Go.Proofs.YtbleliajcbdijaaW.PrintWords Go.Proofs.YtbleliajcbdijaaW.PrintLast Go.Proofs.YtbleliajcbdijaaW.PrintMore
set_option linter.unusedVariables false
set_option linter.unusedSimpArgs false
theorem ceil_eq {a b : Int} (hb : 0 < b) : -((-a) / b) = (a + b - 1) / b := by
 have h1 := Int.emod_nonneg (-a) (show b ≠ 0 by omega)
 have h2 := Int.emod_lt_of_pos (-a) hb
 have h3 := Int.mul_ediv_add_emod (-a) b
 have h4 : (a + b - 1) / b = -((-a) / b) ∧ (a + b - 1) % b = b - 1 - (-a) % b := (Int.ediv_emod_unique hb).2 (by
  rw [Int.mul_neg]
  refine ⟨by omega, by omega, by omega⟩)
 exact h4.1.symm
theorem Ce_eq {a b : Int} (hb : 0 < b) (ha : -4611686018427387904 ≤ a ∧ a ≤ 4611686018427387904) : spec_l01Ceil.f a b = some (-((-a) / b)) := by
 have hs := ediv_small (a := -a) hb (by omega)
 unfold spec_l01Ceil.f
 rw [w64 (n := -a) (by omega), SFl_eq hb (by omega)]
 simp only [Option.bind_some]
 rw [w64 (by omega)]
theorem Cd_eq {a b : Int} (hb : 0 < b ∧ b ≤ 1000000) (ha : 0 ≤ a ∧ a ≤ 4611686018427387904) : impl_ceilDiv.f a b = some ((a + b - 1) / b) := by
 have h1 := Int.ediv_le_self b (show 0 ≤ a + b - 1 by omega)
 have h2 := Int.ediv_nonneg (show 0 ≤ a + b - 1 by omega) (show 0 ≤ b by omega)
 unfold impl_ceilDiv.f
 rw [if_neg (by omega), w64 (n := a + b) (by omega), w64 (n := a + b - 1) (by omega), Int.tdiv_eq_ediv_of_nonneg (by omega), w64 (by omega)]
def dTime (u f : Int) : Int := (1000 * vTop u + f - 1) / f
theorem dTime_range {u f : Int} (hu : 0 ≤ u ∧ u ≤ 200000) (hf : 100 ≤ f ∧ f ≤ 10000) : 0 ≤ dTime u f ∧ dTime u f ≤ 120002100 := by
 have ht := tTop_range hu
 unfold dTime
 refine ⟨Int.ediv_nonneg (by omega) (by omega), ?_⟩
 have h1 : (1000 * vTop u + f - 1) / f ≤ (1000 * vTop u + f - 1) / 100 := by
  have a : 100 * ((1000 * vTop u + f - 1) / f) ≤ f * ((1000 * vTop u + f - 1) / f) := Int.mul_le_mul_of_nonneg_right hf.1 (Int.ediv_nonneg (by omega) (by omega))
  have b := Int.mul_ediv_self_le (x := 1000 * vTop u + f - 1) (k := f) (by omega)
  omega
 omega
theorem time_both {u s f r : Int} (h : isShot u s f r = true) : (∀ k, 30000 ≤ k → spec_l06Time.f k u s f r = some (dTime u f)) ∧ (∀ k, 30000 ≤ k → impl_debrisTime.f k u s f r = some (dTime u f)) := by
 obtain ⟨h1, h2, h3, h4⟩ := isShot_true h
 have ht := tTop_range h1
 have hi := top_is h1
 refine ⟨fun k hk => ?_, fun k hk => ?_⟩
 ·unfold spec_l06Time.f
  rw [hi.2.1 k hk]
  simp only [Option.bind_some]
  rw [w64 (n := 1000 * vTop u) (by omega), Ce_eq (by omega) (by omega), ceil_eq (by omega)]; rfl
 ·unfold impl_debrisTime.f
  rw [hi.2.2 k hk]
  simp only [Option.bind_some]
  rw [w64 (n := 1000 * vTop u) (by omega), Cd_eq (by omega) (by omega)]; rfl
def dbLo (u s f r lo : Int) : Int := drift s lo (tTop u) + lo * dTime u f / 1000 - r
def dbHi (u s f r hi : Int) : Int := drift s hi (tTop u) - (-hi) * dTime u f / 1000 + r
theorem burst_is {u s f r lo hi : Int} (h : isShot u s f r = true) (hw : areWinds lo hi = true) : (∀ k, 30000 ≤ k → spec_l06Burst.f k u s f r lo hi = some (drift s lo (tTop u), drift s hi (tTop u))) ∧ ∀ k, 30000 ≤ k → impl_burstRange.f k u s f r lo hi = some (drift s lo (tTop u), drift s hi (tTop u)) := by
 obtain ⟨h1, h2, h3, h4⟩ := isShot_true h
 obtain ⟨w1, w2, w3⟩ := areWinds_true hw
 obtain ⟨_, hs, hi'⟩ := top_is h1
 have hr := tTop_range h1
 refine ⟨fun k hk => ?_, fun k hk => ?_⟩
 ·unfold spec_l06Burst.f
  rw [hs k hk]
  simp only [Option.bind_some]
  rw [spec_drift h2 w1 (by omega), spec_drift h2 (by omega) (by omega)]; rfl
 ·unfold impl_burstRange.f
  rw [hi' k hk]
  simp only [Option.bind_some]
  rw [impl_drift h2 w1 (by omega), impl_drift h2 (by omega) (by omega)]; rfl
theorem drift_range {s wnd t : Int} (hs : -50000 ≤ s ∧ s ≤ 50000) (hw : -50000 ≤ wnd ∧ wnd ≤ 50000) (ht : 0 ≤ t ∧ t ≤ 60000) : -6000000 ≤ drift s wnd t ∧ drift s wnd t ≤ 6000000 := by
 have h := drift_small hs hw ht
 unfold drift
 omega
theorem debris_small {u s f r lo : Int} (h : isShot u s f r = true) (hl : -50000 ≤ lo ∧ lo ≤ 50000) : (-6000105000000 ≤ lo * dTime u f ∧ lo * dTime u f ≤ 6000105000000) ∧ (-6000000 ≤ drift s lo (tTop u) ∧ drift s lo (tTop u) ≤ 6000000) := by
 obtain ⟨h1, h2, h3, h4⟩ := isShot_true h
 have hd := dTime_range h1 h3
 have ht := tTop_range h1
 have := prod_abs (a := lo) (b := dTime u f) (A := 50000) (B := 120002100) hl hd
 exact ⟨by omega, drift_range h2 hl (by omega)⟩
theorem debris_is {u s f r lo hi : Int} (h : isShot u s f r = true) (hw : areWinds lo hi = true) : (∀ k, 30000 ≤ k → spec_l06Debris.f k u s f r lo hi = some (dbLo u s f r lo, dbHi u s f r hi)) ∧ ∀ k, 30000 ≤ k → impl_debrisRange.f k u s f r lo hi = some (dbLo u s f r lo, dbHi u s f r hi) := by
 obtain ⟨h1, h2, h3, h4⟩ := isShot_true h
 obtain ⟨w1, w2, w3⟩ := areWinds_true hw
 have a := debris_small h w1
 have b := debris_small h (lo := hi) (by omega)
 obtain ⟨bs, bi⟩ := burst_is h hw
 obtain ⟨ts, ti⟩ := time_both h
 have en : (-hi) * dTime u f = -(hi * dTime u f) := Int.neg_mul _ _
 refine ⟨fun k hk => ?_, fun k hk => ?_⟩
 ·unfold spec_l06Debris.f
  rw [bs k hk, ts k hk]
  simp only [Option.bind_some]
  rw [w64 (n := lo * dTime u f) (by omega), w64 (n := hi * dTime u f) (by omega), SFl_eq (by omega) (by omega), Ce_eq (by omega) (by omega)]
  simp only [Option.bind_some]
  rw [w64 (n := drift s lo (tTop u) + _) (by omega), w64 (n := drift s lo (tTop u) + _ - r) (by omega), w64 (n := drift s hi (tTop u) + _) (by omega), w64 (by omega)]
  unfold dbLo dbHi
  rw [en]
  congr 2 <;> omega
 ·unfold impl_debrisRange.f
  rw [bi k hk, ti k hk]
  simp only [Option.bind_some]
  rw [w64 (n := lo * dTime u f) (by omega), w64 (n := -hi) (by omega), w64 (n := (-hi) * dTime u f) (by omega), Fl_eq (by omega) (by omega), Fl_eq (by omega) (by omega)]
  simp only [Option.bind_some]
  rw [w64 (n := drift s lo (tTop u) + _) (by omega), w64 (n := drift s lo (tTop u) + _ - r) (by omega), w64 (n := drift s hi (tTop u) - _) (by omega), w64 (by omega)]
  rfl
end Go.Proofs.Ytbleliajcbdijaa.F
namespace Go.Proofs.Ytbleliajcbdijaa.F
open Go.RowKit Go.Proofs.YtbleliajcbdijaaW.PrintWords Go.Proofs.YtbleliajcbdijaaW.PrintLast Go.Proofs.YtbleliajcbdijaaW.PrintMore
set_option linter.unusedVariables false
set_option linter.unusedSimpArgs false
theorem HH_end {up : Int} (hu : 0 ≤ up ∧ up ≤ 200000) : HH up 60000 ≤ 0 := by
 unfold HH gg
 omega
def IsFl (up t : Int) : Prop := 1 ≤ t ∧ t ≤ 60000 ∧ HH up t ≤ 0 ∧ ∀ s, 1 ≤ s → s < t → 0 < HH up s
theorem IsFl.unique {up t t' : Int} (h : IsFl up t) (h' : IsFl up t') : t' = t := by
 obtain ⟨a, b, c, d⟩ := h
 obtain ⟨a', b', c', d'⟩ := h'
 rcases Int.lt_trichotomy t t' with x | x | x
 ·have := d' t a x; omega
 ·exact x.symm
 ·have := d t' a' x; omega
theorem pos_rise {up : Int} (hu : 0 ≤ up ∧ up ≤ 200000) (h1 : 0 < HH up 1) : ∀ s, 1 ≤ s → s ≤ lastT up → 0 < HH up s := fun s h2 h3 => by
 have := H_rise hu (show (0 : Int) ≤ 1 by omega) h2 h3
 omega
theorem impl_flight_loop {up : Int} (hu : 0 ≤ up ∧ up ≤ 200000) (n : Nat) : ∀ (k : Nat) (lo hi : Int), hi - lo ≤ n → lastT up + 1 ≤ lo → lo ≤ hi → hi ≤ 60000 → HH up hi ≤ 0 → (∀ s, 1 ≤ s → s < lo → 0 < HH up s) → n < k →
  ∃ r, impl_flightOf.l0 k up lo hi = some r ∧ IsFl up r := by
 have hl := last_le hu
 induction n with
 | zero =>
  intro k lo hi h1 h2 h3 h4 h5 h6 hk
  obtain ⟨k, rfl⟩ : ∃ m, k = m + 1 := ⟨k - 1, by omega⟩
  have e : lo = hi := by omega
  subst e
  refine ⟨lo, ?_, by omega, h4, h5, h6⟩
  simp only [impl_flightOf.l0]
  rw [if_neg (by omega)]
 | succ n ih =>
  intro k lo hi h1 h2 h3 h4 h5 h6 hk
  obtain ⟨k, rfl⟩ : ∃ m, k = m + 1 := ⟨k - 1, by omega⟩
  simp only [impl_flightOf.l0]
  by_cases c : lo < hi
  ·rw [if_pos c, w64 (n := lo + hi) (by omega), tdiv_nn (by omega), w64 (n := (lo + hi) / 2) (by omega), H_impl hu (by omega)]
   simp only [Option.bind_some]
   by_cases d : HH up ((lo + hi) / 2) ≤ 0
   ·rw [if_pos d]
    exact ih k lo ((lo + hi) / 2) (by omega) h2 (by omega) (by omega) d h6 (by omega)
   ·rw [if_neg d, w64 (by omega)]
    refine ih k ((lo + hi) / 2 + 1) hi (by omega) (by omega) (by omega) h4 h5 (fun s h7 h8 => ?_) (by omega)
    by_cases e : s < lo
    ·exact h6 s h7 e
    ·have := H_fall hu (show lastT up + 1 ≤ s by omega) (show s ≤ (lo + hi) / 2 by omega)
     omega
  ·rw [if_neg c]
   have e : lo = hi := by omega
   subst e
   exact ⟨lo, rfl, by omega, h4, h5, h6⟩
theorem impl_flight {up : Int} (hu : 0 ≤ up ∧ up ≤ 200000) (k : Nat) (hk : 150000 ≤ k) : ∃ t, impl_flightOf.f k up = some t ∧ IsFl up t := by
 have hl := last_le hu
 unfold impl_flightOf.f
 rw [H_impl hu (by omega)]
 simp only [Option.bind_some]
 by_cases c : HH up 1 ≤ 0
 ·rw [if_pos c]
  exact ⟨1, rfl, by omega, by omega, c, fun s h1 h2 => by omega⟩
 ·rw [if_neg c, w64 (n := 1000 * up) (by omega), tdiv_nn (by omega)]
  show ∃ t, impl_flightOf.l0 k up (wrap64 (wrap64 (lastT up) + 1)) 60000 = some t ∧ _
  rw [w64 (n := lastT up) (by omega), w64 (n := lastT up + 1) (by omega)]
  exact impl_flight_loop hu 60000 k (lastT up + 1) 60000 (by omega) (by omega) (by omega) (by omega) (HH_end hu) (fun s h1 h2 => pos_rise hu (by omega) s h1 (by omega)) (by omega)
theorem spec_flight0 {up : Int} (hu : 0 ≤ up ∧ up ≤ 200000) (n : Nat) : ∀ (k : Nat) (lo hi : Int), hi - lo ≤ n → (0 ≤ lo ∧ lo ≤ hi) → 1 ≤ hi → hi ≤ 60000 → HH up hi ≤ 0 → n < k →
  ∃ (k' : Nat) (hi' : Int), k ≤ k' + n + 1 ∧ spec_l04Flight.l0 k up lo hi = spec_l04Flight.l1 k' up hi' ∧ 1 ≤ hi' ∧ hi' ≤ 60000 ∧ HH up hi' ≤ 0 := by
 induction n with
 | zero =>
  intro k lo hi h1 h2 h3 h4 h5 hk
  obtain ⟨k, rfl⟩ : ∃ m, k = m + 1 := ⟨k - 1, by omega⟩
  refine ⟨k, hi, by omega, ?_, h3, h4, h5⟩
  simp only [spec_l04Flight.l0]
  rw [w64 (n := lo + 1) (by omega), if_neg (by omega)]
 | succ n ih =>
  intro k lo hi h1 h2 h3 h4 h5 hk
  obtain ⟨k, rfl⟩ : ∃ m, k = m + 1 := ⟨k - 1, by omega⟩
  simp only [spec_l04Flight.l0]
  rw [w64 (n := lo + 1) (by omega)]
  by_cases c : lo + 1 < hi
  ·rw [if_pos c, w64 (n := lo + hi) (by omega), tdiv_nn (by omega), w64 (n := (lo + hi) / 2) (by omega), H_spec hu (by omega)]
   simp only [Option.bind_some]
   by_cases d : HH up ((lo + hi) / 2) ≤ 0
   ·rw [if_pos d]
    obtain ⟨k', hi', e1, e2⟩ := ih k lo ((lo + hi) / 2) (by omega) (by omega) (by omega) (by omega) d (by omega)
    exact ⟨k', hi', by omega, e2⟩
   ·rw [if_neg d]
    obtain ⟨k', hi', e1, e2⟩ := ih k ((lo + hi) / 2) hi (by omega) (by omega) h3 h4 h5 (by omega)
    exact ⟨k', hi', by omega, e2⟩
  ·rw [if_neg c]
   exact ⟨k, hi, by omega, rfl, h3, h4, h5⟩
theorem spec_flight1 {up : Int} (hu : 0 ≤ up ∧ up ≤ 200000) (n : Nat) : ∀ (k : Nat) (hi : Int), hi = n + 1 → hi ≤ 60000 → HH up hi ≤ 0 → n + 1 < k →
  ∃ (k' : Nat) (hi' : Int), k ≤ k' + n + 2 ∧ spec_l04Flight.l1 k up hi = spec_l04Flight.l2 k' up hi' 1 ∧ 1 ≤ hi' ∧ hi' ≤ 60000 ∧ HH up hi' ≤ 0 ∧ (hi' = 1 ∨ 0 < HH up (hi' - 1)) := by
 induction n with
 | zero =>
  intro k hi h1 h2 h3 hk
  obtain ⟨k, rfl⟩ : ∃ m, k = m + 2 := ⟨k - 2, by omega⟩
  refine ⟨k, hi, by omega, ?_, by omega, h2, h3, .inl (by omega)⟩
  simp only [spec_l04Flight.l1, spec_l04Flight.j2]
  rw [if_neg (by omega)]
 | succ n ih =>
  intro k hi h1 h2 h3 hk
  obtain ⟨k, rfl⟩ : ∃ m, k = m + 2 := ⟨k - 2, by omega⟩
  by_cases d : HH up (hi - 1) ≤ 0
  ·obtain ⟨k', hi', e1, e2, e3⟩ := ih (k + 1) (hi - 1) (by omega) (by omega) d (by omega)
   refine ⟨k', hi', by omega, ?_, e3⟩
   rw [← e2]
   simp only [spec_l04Flight.l1, spec_l04Flight.j2]
   rw [if_pos (by omega), w64 (n := hi - 1) (by omega), H_spec hu (by omega)]
   simp only [Option.bind_some]
   rw [if_pos d]
  ·refine ⟨k, hi, by omega, ?_, by omega, h2, h3, .inr (by omega)⟩
   simp only [spec_l04Flight.l1, spec_l04Flight.j2]
   rw [if_pos (by omega), w64 (n := hi - 1) (by omega), H_spec hu (by omega)]
   simp only [Option.bind_some]
   rw [if_neg d]
theorem spec_flight {up : Int} (hu : 0 ≤ up ∧ up ≤ 200000) (k : Nat) (hk : 150000 ≤ k) : ∃ t, spec_l04Flight.f k up = some t ∧ IsFl up t := by
 have hl := last_le hu
 have ht := tTop_range hu
 unfold spec_l04Flight.f
 rw [(top_is hu).2.1 k (by omega)]
 simp only [Option.bind_some]
 obtain ⟨k1, hi, e1, e2, e3, e4, e5⟩ := spec_flight0 hu 60000 k (tTop up) 60000 (by omega) (by omega) (by omega) (by omega) (HH_end hu) (by omega)
 obtain ⟨k2, h, f1, f2, f3, f4, f5, f6⟩ := spec_flight1 hu (hi - 1).toNat k1 hi (by omega) e4 e5 (by omega)
 rw [e2, f2]
 obtain ⟨k3, rfl⟩ : ∃ m, k2 = m + 6 := ⟨k2 - 6, by omega⟩
 clear hk e1 e2 f1 f2 e3 e4 e5
 by_cases c : HH up 1 ≤ 0
 ·refine ⟨1, ?_, by omega, by omega, c, fun s h1 h2 => by omega⟩
  simp only [spec_l04Flight.l2, spec_l04Flight.j4]
  by_cases d : 1 < h
  ·rw [if_pos d, if_pos (by decide), H_spec hu (by omega)]
   simp only [Option.bind_some]
   rw [if_pos c]
  ·rw [if_neg d, if_neg (by decide)]
   congr 1; omega
 ·have hp : ∀ s, 1 ≤ s → s < h → 0 < HH up s := fun s h1 h2 => by
   by_cases e : s ≤ lastT up
   ·exact pos_rise hu (by omega) s h1 e
   ·have := H_fall hu (show lastT up + 1 ≤ s by omega) (show s ≤ h - 1 by omega)
    omega
  refine ⟨h, ?_, f3, f4, f5, hp⟩
  have w2 : wrap64 (1 + 1) = 2 := w64 (by omega)
  have w3 : wrap64 (2 + 1) = 3 := w64 (by omega)
  simp only [spec_l04Flight.l2, spec_l04Flight.j4, w2, w3]
  by_cases d : 1 < h
  ·rw [if_pos d, if_pos (by decide), H_spec hu (by omega)]
   simp only [Option.bind_some]
   rw [if_neg c]
   by_cases d2 : 2 < h
   ·have := hp 2 (by omega) d2
    rw [if_pos d2, if_pos (by decide), H_spec hu (by omega)]
    simp only [Option.bind_some]
    rw [if_neg (by omega)]
    by_cases d3 : 3 < h
    ·rw [if_pos d3, if_neg (by decide)]
    ·rw [if_neg d3, if_neg (by decide)]
   ·rw [if_neg d2, if_neg (by decide)]
  ·rw [if_neg d, if_neg (by decide)]
def flT (up : Int) : Int := (impl_flightOf.f 150000 up).getD 0
theorem flight_is {up : Int} (hu : 0 ≤ up ∧ up ≤ 200000) : IsFl up (flT up) ∧ (∀ k, 150000 ≤ k → spec_l04Flight.f k up = some (flT up)) ∧ ∀ k, 150000 ≤ k → impl_flightOf.f k up = some (flT up) := by
 obtain ⟨t, e, h⟩ := impl_flight hu 150000 (Nat.le_refl _)
 have et : flT up = t := by unfold flT; rw [e]; rfl
 rw [et]
 refine ⟨h, fun k hk => ?_, fun k hk => ?_⟩
 ·obtain ⟨t', e', h'⟩ := spec_flight hu k hk
  rw [h.unique h'] at e'
  exact e'
 ·obtain ⟨t', e', h'⟩ := impl_flight hu k hk
  rw [h.unique h'] at e'
  exact e'
end Go.Proofs.Ytbleliajcbdijaa.F
namespace Go.Proofs.Ytbleliajcbdijaa.F
open Go.RowKit Go.Proofs.YtbleliajcbdijaaW.PrintWords Go.Proofs.YtbleliajcbdijaaW.PrintLast Go.Proofs.YtbleliajcbdijaaW.PrintMore
set_option linter.unusedVariables false
set_option linter.unusedSimpArgs false
theorem mn_is (a b : Int) : mn a b ≤ a ∧ mn a b ≤ b ∧ (mn a b = a ∨ mn a b = b) := by unfold mn; split <;> omega
theorem mx_is (a b : Int) : a ≤ mx a b ∧ b ≤ mx a b ∧ (mx a b = a ∨ mx a b = b) := by unfold mx; split <;> omega
def stLo (u s f r lo : Int) : Int := mn (mn (dbLo u s f r lo) (drift s lo (flT u))) 0
def stHi (u s f r hi : Int) : Int := mx (mx (dbHi u s f r hi) (drift s hi (flT u))) 0
theorem flT_range {up : Int} (hu : 0 ≤ up ∧ up ≤ 200000) : 1 ≤ flT up ∧ flT up ≤ 60000 := ⟨(flight_is hu).1.1, (flight_is hu).1.2.1⟩
theorem strip_is {u s f r lo hi : Int} (h : isShot u s f r = true) (hw : areWinds lo hi = true) : (∀ k, 150000 ≤ k → spec_l06Strip.f k u s f r lo hi = some (stLo u s f r lo, stHi u s f r hi)) ∧ ∀ k, 150000 ≤ k → impl_stripOf.f k u s f r lo hi = some (stLo u s f r lo, stHi u s f r hi) := by
 obtain ⟨h1, h2, h3, h4⟩ := isShot_true h
 obtain ⟨w1, w2, w3⟩ := areWinds_true hw
 obtain ⟨ds, di⟩ := debris_is h hw
 obtain ⟨_, fs, fi⟩ := flight_is h1
 have fr := flT_range h1
 refine ⟨fun k hk => ?_, fun k hk => ?_⟩
 ·unfold spec_l06Strip.f
  rw [ds k (by omega), fs k hk]
  simp only [Option.bind_some]
  rw [spec_drift h2 w1 (by omega), spec_drift h2 (by omega) (by omega)]
  simp only [Option.bind_some]
  have a1 := mn_is 0 (dbLo u s f r lo)
  have a2 := mn_is (mn 0 (dbLo u s f r lo)) (drift s lo (flT u))
  have a3 := mn_is (dbLo u s f r lo) (drift s lo (flT u))
  have a4 := mn_is (mn (dbLo u s f r lo) (drift s lo (flT u))) 0
  have b1 := mx_is 0 (dbHi u s f r hi)
  have b2 := mx_is (mx 0 (dbHi u s f r hi)) (drift s hi (flT u))
  have b3 := mx_is (dbHi u s f r hi) (drift s hi (flT u))
  have b4 := mx_is (mx (dbHi u s f r hi) (drift s hi (flT u))) 0
  unfold stLo stHi
  congr 2 <;> omega
 ·unfold impl_stripOf.f
  rw [di k (by omega), fi k hk]
  simp only [Option.bind_some]
  rw [impl_drift h2 w1 (by omega), impl_drift h2 (by omega) (by omega)]
  rfl
end Go.Proofs.Ytbleliajcbdijaa.F
namespace Go.Proofs.Ytbleliajcbdijaa.F
open Go.RowKit Go.Proofs.YtbleliajcbdijaaW.PrintWords Go.Proofs.YtbleliajcbdijaaW.PrintLast Go.Proofs.YtbleliajcbdijaaW.PrintMore
set_option linter.unusedVariables false
set_option linter.unusedSimpArgs false
def okW (u s f r most w : Int) : Prop := stLo u s f r (-w) ≥ -most ∧ stHi u s f r w ≤ most
instance (u s f r most w : Int) : Decidable (okW u s f r most w) := inferInstanceAs (Decidable (_ ∧ _))
theorem winds_w {w : Int} (h : 0 ≤ w ∧ w ≤ 50000) : areWinds (-w) w = true := by
 unfold areWinds
 rw [Bool.and_eq_true, inB_true, inB_true]
 omega
theorem okW_mono {u s f r most v w : Int} (h : isShot u s f r = true) (hv : 0 ≤ v) (hvw : v ≤ w) (hk : okW u s f r most w) : okW u s f r most v := by
 obtain ⟨h1, h2, h3, h4⟩ := isShot_true h
 have ft := flT_range h1
 have dt := dTime_range h1 h3
 have tt := tTop_range h1
 have mono : ∀ (a b t : Int), a ≤ b → 0 ≤ t → a * t / 1000 ≤ b * t / 1000 := fun a b t h5 h6 => Int.ediv_le_ediv (by omega) (Int.mul_le_mul_of_nonneg_right h5 h6)
 have dmono : ∀ (a b t : Int), a ≤ b → 0 ≤ t → drift s a t ≤ drift s b t := fun a b t h5 h6 => mono (s + a) (s + b) t (by omega) h6
 have a1 := dmono (-w) (-v) (flT u) (by omega) (by omega)
 have a2 := dmono (-w) (-v) (tTop u) (by omega) (by omega)
 have a3 := mono (-w) (-v) (dTime u f) (by omega) (by omega)
 have b1 := dmono v w (flT u) (by omega) (by omega)
 have b2 := dmono v w (tTop u) (by omega) (by omega)
 have c1 := mn_is (dbLo u s f r (-w)) (drift s (-w) (flT u))
 have c2 := mn_is (mn (dbLo u s f r (-w)) (drift s (-w) (flT u))) 0
 have c3 := mn_is (dbLo u s f r (-v)) (drift s (-v) (flT u))
 have c4 := mn_is (mn (dbLo u s f r (-v)) (drift s (-v) (flT u))) 0
 have e1 := mx_is (dbHi u s f r w) (drift s w (flT u))
 have e2 := mx_is (mx (dbHi u s f r w) (drift s w (flT u))) 0
 have e3 := mx_is (dbHi u s f r v) (drift s v (flT u))
 have e4 := mx_is (mx (dbHi u s f r v) (drift s v (flT u))) 0
 have g1 : dbLo u s f r (-w) ≤ dbLo u s f r (-v) := by unfold dbLo; omega
 have g2 : dbHi u s f r v ≤ dbHi u s f r w := by unfold dbHi; omega
 obtain ⟨k1, k2⟩ := hk
 unfold stLo at k1
 unfold stHi at k2
 unfold okW stLo stHi
 omega
def Most (u s f r most w : Int) : Prop := 0 ≤ w ∧ w ≤ 50000 ∧ okW u s f r most w ∧ (w = 50000 ∨ ¬ okW u s f r most (w + 1))
theorem Most.unique {u s f r most w w' : Int} (hS : isShot u s f r = true) (h : Most u s f r most w) (h' : Most u s f r most w') : w' = w := by
 obtain ⟨a, b, c, d⟩ := h
 obtain ⟨a', b', c', d'⟩ := h'
 rcases Int.lt_trichotomy w w' with x | x | x
 ·have := okW_mono hS (show 0 ≤ w + 1 by omega) (show w + 1 ≤ w' by omega) c'
  rcases d with d | d
  ·omega
  ·exact absurd this d
 ·exact x.symm
 ·have := okW_mono hS (show 0 ≤ w' + 1 by omega) (show w' + 1 ≤ w by omega) c
  rcases d' with d | d
  ·omega
  ·exact absurd this d
theorem within_is {u s f r : Int} (h : isShot u s f r = true) {most w : Int} (hm : 0 ≤ most ∧ most ≤ 100000000) (hw : 0 ≤ w ∧ w ≤ 50000) (k : Nat) (hk : 150000 ≤ k) : spec_l06Within.f k u s f r w most = some (decide (okW u s f r most w)) := by
 unfold spec_l06Within.f
 rw [w64 (n := -w) (by omega), w64 (n := -most) (by omega), (strip_is h (winds_w hw)).1 k hk]
 simp only [Option.bind_some]
 by_cases c : stLo u s f r (-w) ≥ -most
 ·rw [if_pos c]
  by_cases x : stHi u s f r w ≤ most
  ·rw [decide_eq_true x, decide_eq_true (show okW u s f r most w from ⟨c, x⟩)]
  ·rw [decide_eq_false x, decide_eq_false (show ¬ okW u s f r most w from fun y => x y.2)]
 ·rw [if_neg c, decide_eq_false (show ¬ okW u s f r most w from fun y => c y.1)]
theorem spec_loop {u s f r : Int} (h : isShot u s f r = true) {most : Int} (hm : 0 ≤ most ∧ most ≤ 100000000) (n : Nat) : ∀ (k : Nat) (lo hi : Int), hi - lo ≤ n → 0 ≤ lo → lo < hi → hi ≤ 50001 → okW u s f r most lo → (hi = 50001 ∨ ¬ okW u s f r most hi) → n + 150000 < k →
  ∃ w, spec_MostWind.l0 k most lo hi u s f r = some (w, 0) ∧ Most u s f r most w := by
 induction n with
 | zero => intro k lo hi h1 h2 h3; omega
 | succ n ih =>
  intro k lo hi h1 h2 h3 h4 h5 h6 hk
  obtain ⟨k, rfl⟩ : ∃ m, k = m + 1 := ⟨k - 1, by omega⟩
  simp only [spec_MostWind.l0]
  rw [w64 (n := lo + 1) (by omega)]
  by_cases c : lo + 1 < hi
  ·rw [if_pos c, w64 (n := lo + hi) (by omega), tdiv_nn (by omega), w64 (n := (lo + hi) / 2) (by omega), within_is h hm (by omega) k (by omega)]
   simp only [Option.bind_some]
   by_cases d : okW u s f r most ((lo + hi) / 2)
   ·rw [if_pos (decide_eq_true d)]
    exact ih k _ hi (by omega) (by omega) (by omega) h4 d h6 (by omega)
   ·rw [if_neg (by rw [decide_eq_false d]; decide)]
    exact ih k lo _ (by omega) h2 (by omega) (by omega) h5 (.inr d) (by omega)
  ·rw [if_neg c]
   refine ⟨lo, rfl, h2, by omega, h5, ?_⟩
   have e : hi = lo + 1 := by omega
   rw [e] at h6
   rcases h6 with x | x
   ·exact .inl (by omega)
   ·exact .inr x
theorem impl_loop {u s f r : Int} (h : isShot u s f r = true) {most : Int} (hm : 0 ≤ most ∧ most ≤ 100000000) (n : Nat) : ∀ (k : Nat) (lo hi : Int), hi - lo ≤ n → -1 ≤ lo → lo ≤ hi → hi ≤ 50000 → (lo = -1 ∨ okW u s f r most lo) → (hi = 50000 ∨ ¬ okW u s f r most (hi + 1)) → n + 150000 < k →
  (impl_MostWind.l0 k most lo hi u s f r = some (0, 4) ∧ ¬ okW u s f r most 0) ∨ ∃ w, impl_MostWind.l0 k most lo hi u s f r = some (w, 0) ∧ Most u s f r most w := by
 induction n with
 | zero =>
  intro k lo hi h1 h2 h3 h4 h5 h6 hk
  obtain ⟨k, rfl⟩ : ∃ m, k = m + 1 := ⟨k - 1, by omega⟩
  simp only [impl_MostWind.l0]
  have e : lo = hi := by omega
  subst e
  rw [if_neg (by omega)]
  by_cases c : lo < 0
  ·rw [if_pos c]
   have e : lo = -1 := by omega
   subst e
   refine .inl ⟨rfl, ?_⟩
   rcases h6 with x | x
   ·omega
   ·exact x
  ·rw [if_neg c]
   refine .inr ⟨lo, rfl, by omega, h4, ?_, h6⟩
   rcases h5 with x | x
   ·omega
   ·exact x
 | succ n ih =>
  intro k lo hi h1 h2 h3 h4 h5 h6 hk
  obtain ⟨k, rfl⟩ : ∃ m, k = m + 1 := ⟨k - 1, by omega⟩
  by_cases c : lo < hi
  ·simp only [impl_MostWind.l0]
   rw [if_pos c, w64 (n := lo + hi) (by omega), w64 (n := lo + hi + 1) (by omega), Fl_eq (by omega) (by omega)]
   simp only [Option.bind_some]
   have hw : 0 ≤ (lo + hi + 1) / 2 ∧ (lo + hi + 1) / 2 ≤ 50000 := by omega
   rw [w64 (n := -((lo + hi + 1) / 2)) (by omega), w64 (n := -most) (by omega), (strip_is h (winds_w hw)).2 k (by omega), w64 (n := (lo + hi + 1) / 2 - 1) (by omega)]
   simp only [Option.bind_some]
   have no : ∀ w, w = (lo + hi + 1) / 2 → ¬ okW u s f r most w → ((impl_MostWind.l0 k most lo ((lo + hi + 1) / 2 - 1) u s f r = some (0, 4) ∧ ¬ okW u s f r most 0) ∨ ∃ w, impl_MostWind.l0 k most lo ((lo + hi + 1) / 2 - 1) u s f r = some (w, 0) ∧ Most u s f r most w) := fun w e g => by
    refine ih k lo _ (by omega) h2 (by omega) (by omega) h5 (.inr ?_) (by omega)
    rw [show (lo + hi + 1) / 2 - 1 + 1 = w by omega]
    exact g
   by_cases d : stLo u s f r (-((lo + hi + 1) / 2)) ≥ -most
   ·rw [if_pos d]
    by_cases d2 : stHi u s f r ((lo + hi + 1) / 2) ≤ most
    ·rw [if_pos d2]
     exact ih k _ hi (by omega) (by omega) (by omega) h4 (.inr ⟨d, d2⟩) h6 (by omega)
    ·rw [if_neg d2]
     exact no _ rfl (fun x => d2 x.2)
   ·rw [if_neg d]
    exact no _ rfl (fun x => d x.1)
  ·exact ih (k + 1) lo hi (by omega) h2 h3 h4 h5 h6 (by omega)
theorem mostwind_ex (u s f r most : Int) : ∃ q1 q2, Evt (fun k => spec_MostWind.f k u s f r most = some (q1, q2)) ∧ Evt (fun k => impl_MostWind.f k u s f r most = some (q1, q2)) ∧ (q2 = 0 → isShot u s f r = true ∧ (0 ≤ most ∧ most ≤ 100000000) ∧ Most u s f r most q1) := by
 have w0 : areWinds 0 0 = true := rfl
 cases h : isShot u s f r with
 | false =>
  refine ⟨0, 1, ⟨9, fun k hk => ?_⟩, ⟨0, fun k hk => ?_⟩, fun x => absurd x (by decide)⟩
  ·show spec_MostWind.f k u s f r most = _
   obtain ⟨k, rfl⟩ : ∃ m, k = m + 4 := ⟨k - 4, by omega⟩
   unfold spec_MostWind.f
   rw [spec_code1 _ _ _ _ _ _ (k + 4) (by omega), h]; rfl
  ·show impl_MostWind.f k u s f r most = _
   unfold impl_MostWind.f
   rw [impl_shot, h]; rfl
 | true =>
  cases hm : inB most 0 100000000 with
  | false =>
   refine ⟨0, 2, ⟨9, fun k hk => ?_⟩, ⟨0, fun k hk => ?_⟩, fun x => absurd x (by decide)⟩
   ·show spec_MostWind.f k u s f r most = _
    obtain ⟨k, rfl⟩ : ∃ m, k = m + 4 := ⟨k - 4, by omega⟩
    unfold spec_MostWind.f
    rw [spec_code1 _ _ _ _ _ _ (k + 4) (by omega), h, w0, In_eq, hm]; rfl
   ·show impl_MostWind.f k u s f r most = _
    unfold impl_MostWind.f
    rw [impl_shot, h, Wi_eq, hm]; rfl
  | true =>
   have hm' := inB_true.1 hm
   have sp : ∀ k, spec_MostWind.f (k + 4) u s f r most = (spec_l06Within.f (k + 2) u s f r 0 most).bind fun t224 => (spec_MostWind.j2 (k + 2) most 0 (!t224) u s f r) := fun k => by
    unfold spec_MostWind.f
    rw [spec_code1 _ _ _ _ _ _ (k + 4) (by omega), h, w0, In_eq, hm]; rfl
   have im : ∀ k, impl_MostWind.f k u s f r most = impl_MostWind.l0 k most (-1) 50000 u s f r := fun k => by
    unfold impl_MostWind.f
    rw [impl_shot, h, Wi_eq, hm]; rfl
   by_cases c : okW u s f r most 0
   ·obtain ⟨w, _, hw⟩ := spec_loop h hm' 50001 300000 0 50001 (by omega) (by omega) (by omega) (by omega) c (.inl rfl) (by omega)
    refine ⟨w, 0, ⟨300004, fun k hk => ?_⟩, ⟨300004, fun k hk => ?_⟩, fun _ => ⟨rfl, hm', hw⟩⟩
    ·show spec_MostWind.f k u s f r most = _
     obtain ⟨k, rfl⟩ : ∃ m, k = m + 4 := ⟨k - 4, by omega⟩
     obtain ⟨w', e', hw'⟩ := spec_loop h hm' 50001 k 0 50001 (by omega) (by omega) (by omega) (by omega) c (.inl rfl) (by omega)
     have e := hw.unique h hw'
     subst e
     rw [sp, within_is h hm' (by omega) (k + 2) (by omega), decide_eq_true c]
     exact e'
    ·show impl_MostWind.f k u s f r most = _
     rw [im]
     rcases impl_loop h hm' 50001 k (-1) 50000 (by omega) (by omega) (by omega) (by omega) (.inl rfl) (.inl rfl) (by omega) with ⟨_, x⟩ | ⟨w', e', hw'⟩
     ·exact absurd c x
     ·have e := hw.unique h hw'
      subst e
      exact e'
   ·refine ⟨0, 4, ⟨300004, fun k hk => ?_⟩, ⟨300004, fun k hk => ?_⟩, fun x => absurd x (by decide)⟩
    ·show spec_MostWind.f k u s f r most = _
     obtain ⟨k, rfl⟩ : ∃ m, k = m + 4 := ⟨k - 4, by omega⟩
     rw [sp, within_is h hm' (by omega) (k + 2) (by omega), decide_eq_false c]
     rfl
    ·show impl_MostWind.f k u s f r most = _
     rw [im]
     rcases impl_loop h hm' 50001 k (-1) 50000 (by omega) (by omega) (by omega) (by omega) (.inl rfl) (.inl rfl) (by omega) with ⟨x, _⟩ | ⟨w', e', hw'⟩
     ·exact x
     ·exact absurd (okW_mono h (Int.le_refl 0) hw'.1 hw'.2.2.1) c
end Go.Proofs.Ytbleliajcbdijaa.F
namespace Go.Proofs.Ytbleliajcbdijaa.F
open Go.RowKit Go.Proofs.YtbleliajcbdijaaW.PrintWords Go.Proofs.YtbleliajcbdijaaW.PrintLast Go.Proofs.YtbleliajcbdijaaW.PrintMore
set_option linter.unusedVariables false
set_option linter.unusedSimpArgs false
def Code (c : List Int) : Prop := c.length ≤ 4096 ∧ ∀ x ∈ c, 0 ≤ x ∧ x ≤ 255
def St (c : List Int) (a s : Int) : Prop := 0 ≤ a ∧ a ≤ (c.length : Int) ∧ 0 ≤ s ∧ s < 2147483647
theorem rd_code {c : List Int} (hc : Code c) (i : Int) : 0 ≤ rd c i ∧ rd c i ≤ 255 := by
 unfold rd
 rw [List.getD_eq_getElem?_getD]
 cases h : c[i.toNat]? with
 | none => exact ⟨Int.le_refl _, by decide⟩
 | some x => exact hc.2 x (List.mem_of_getElem? h)
theorem tmod_nn {a b : Int} (ha : 0 ≤ a) (hb : 0 < b) : 0 ≤ Int.tmod a b ∧ Int.tmod a b < b := by
 rw [Int.tmod_eq_emod_of_nonneg ha]
 exact ⟨Int.emod_nonneg _ (by omega), Int.emod_lt_of_pos _ hb⟩
theorem next_ok {c : List Int} (hc : Code c) {a s : Int} (h : St c a s) (n : Int) (hn : n ≤ 4611686018427387904) : ∃ r a' s', spec_l01Next.f c a s n = some (r, a', s') ∧ St c a' s' ∧ 0 ≤ r ∧ (r < n ∨ (n ≤ 1 ∧ r = 0)) := by
 obtain ⟨h1, h2, h3, h4⟩ := h
 have hl := hc.1
 unfold spec_l01Next.f
 by_cases c1 : n ≤ 1
 ·rw [if_pos c1]
  exact ⟨0, a, s, rfl, ⟨h1, h2, h3, h4⟩, Int.le_refl _, .inr ⟨c1, rfl⟩⟩
 ·have hs := tmod_nn (a := s * 48271 + 29) (b := 2147483647) (by omega) (by omega)
  rw [if_neg c1, w64 (n := s * 48271) (by omega), w64 (n := s * 48271 + 29) (by omega)]
  generalize Int.tmod (s * 48271 + 29) 2147483647 = z at hs ⊢
  have hd : Int.tdiv z 31 = z / 31 := Int.tdiv_eq_ediv_of_nonneg hs.1
  rw [hd]
  have n0 : ¬ n = 0 := by omega
  by_cases c2 : a < (c.length : Int)
  ·have hr := rd_code hc a
   have p := tmod_nn (a := z / 31 + rd c a) (b := n) (by omega) (by omega)
   have q := tmod_nn (a := rd c a) (b := n) (by omega) (by omega)
   simp only [if_neg n0]
   rw [if_pos c2, if_pos h1, w64 (n := a + 1) (by omega), w64 (n := z / 31) (by omega), w64 (n := rd c a) (by omega), w64 (n := z / 31 + rd c a) (by omega), w64 (n := a + 1 - 1) (by omega), show a + 1 - 1 = a by omega, w64 (n := rd c a) (by omega)]
   by_cases c3 : n ≤ 256
   ·rw [if_pos c3]
    by_cases c4 : Int.tmod (a + 1) 2 = 0
    ·rw [if_pos c4, if_pos h1, if_pos c2]
     exact ⟨_, _, _, rfl, ⟨by omega, by omega, hs.1, hs.2⟩, q.1, .inl q.2⟩
    ·rw [if_neg c4]
     exact ⟨_, _, _, rfl, ⟨by omega, by omega, hs.1, hs.2⟩, p.1, .inl p.2⟩
   ·rw [if_neg c3]
    exact ⟨_, _, _, rfl, ⟨by omega, by omega, hs.1, hs.2⟩, p.1, .inl p.2⟩
  ·have p := tmod_nn (a := z / 31) (b := n) (by omega) (by omega)
   simp only [if_neg n0]
   rw [if_neg c2, w64 (n := z / 31) (by omega)]
   exact ⟨_, _, _, rfl, ⟨h1, h2, hs.1, hs.2⟩, p.1, .inl p.2⟩
theorem pick_ok {c : List Int} (hc : Code c) {a s : Int} (h : St c a s) (l : List Int) (hl : 0 < l.length) (hl2 : l.length ≤ 1000) : ∃ r a' s', spec_l01Pick.f c a s l = some (r, a', s') ∧ St c a' s' ∧ r ∈ l := by
 obtain ⟨r, a', s', e, h', h0, h1⟩ := next_ok hc h (l.length : Int) (by omega)
 refine ⟨rd l r, a', s', ?_, h', ?_⟩
 ·unfold spec_l01Pick.f
  rw [e]
  simp only [Option.bind_some]
  rw [if_pos h0, if_pos (by omega)]
 ·have hr : r.toNat < l.length := by omega
  unfold rd
  rw [List.getD_eq_getElem?_getD, List.getElem?_eq_getElem hr]
  exact List.getElem_mem hr
theorem from_ok {c : List Int} (hc : Code c) : ∃ s, (∀ k, 70 ≤ k → spec_l01From.f k c = some (c, 0, s)) ∧ St c 0 s := by
 have loop : ∀ (d : Nat) (i s : Int), 0 ≤ i → i ≤ 64 → 64 - i ≤ d → 0 ≤ s → s < 2147483647 → ∃ s', (∀ k, d < k → spec_l01From.l0 k c i c 0 s = some (c, 0, s')) ∧ St c 0 s' := by
  intro d
  induction d with
  | zero =>
   intro i s h1 h2 h3 h4 h5
   refine ⟨s, fun k hk => ?_, by omega, by omega, h4, h5⟩
   obtain ⟨k, rfl⟩ : ∃ m, k = m + 1 := ⟨k - 1, by omega⟩
   simp only [spec_l01From.l0]
   rw [if_neg (show ¬ i < 64 by omega)]
   split <;> rfl
  | succ d ih =>
   intro i s h1 h2 h3 h4 h5
   by_cases c1 : i < (c.length : Int) ∧ i < 64
   ·have hr := rd_code hc i
    have hm := tmod_nn (a := s * 83 + rd c i) (b := 2147483647) (by omega) (by omega)
    obtain ⟨s', e, hs⟩ := ih (i + 1) (Int.tmod (s * 83 + rd c i) 2147483647) (by omega) (by omega) (by omega) hm.1 hm.2
    refine ⟨s', fun k hk => ?_, hs⟩
    obtain ⟨k, rfl⟩ : ∃ m, k = m + 1 := ⟨k - 1, by omega⟩
    simp only [spec_l01From.l0]
    rw [if_pos c1.1, if_pos c1.2, if_pos h1, w64 (n := i + 1) (by omega), w64 (n := s * 83) (by omega), w64 (n := rd c i) (by omega), w64 (n := s * 83 + rd c i) (by omega)]
    exact e k (by omega)
   ·refine ⟨s, fun k hk => ?_, by omega, by omega, h4, h5⟩
    obtain ⟨k, rfl⟩ : ∃ m, k = m + 1 := ⟨k - 1, by omega⟩
    simp only [spec_l01From.l0]
    by_cases c2 : i < (c.length : Int)
    ·rw [if_pos c2, if_neg (fun x => c1 ⟨c2, x⟩)]
    ·rw [if_neg c2]
 obtain ⟨s', e, hs⟩ := loop 64 0 61043 (by omega) (by omega) (by omega) (by omega) (by omega)
 exact ⟨s', fun k hk => e k (by omega), hs⟩
theorem code_of {l : List Int} (h : ¬ (l.length : Int) > 4096) (hb : ∀ x ∈ l, (Go.Lit.int .u8 x).wf = true) : Code l := ⟨by omega, fun x hx => by
 have h := hb x hx
 simp [Go.Lit.wf, Go.IntKind.min, Go.IntKind.max, Go.IntKind.signed, Go.IntKind.bits] at h
 omega⟩
end Go.Proofs.Ytbleliajcbdijaa.F
namespace Go.Proofs.Ytbleliajcbdijaa.F
open Go.RowKit Go.Proofs.YtbleliajcbdijaaW.PrintWords Go.Proofs.YtbleliajcbdijaaW.PrintLast Go.Proofs.YtbleliajcbdijaaW.PrintMore
attribute [local go_sem] max2_int min2_int max_two min_two max_three min_three max_four min_four   -- for this text's walks alone
set_option linter.unusedVariables false
set_option linter.unusedSimpArgs false
def spec_l06Range.f (s0_0 : List Int) (s0_1 : Int) (s0_2 : Int) : Option (Int × Int × Int × Int) := (spec_l01Next.f s0_0 s0_1 s0_2 12001).bind fun bt340 => ((spec_l01Next.f s0_0 bt340.2.1 bt340.2.2 16).bind fun bt343 => (if bt343.1 = 0 then ((spec_l04Side.f s0_0 bt343.2.1 bt343.2.2).bind fun bt346 => ((spec_l04Side.f s0_0 bt346.2.1 bt346.2.2).bind fun bt349 => (some (bt346.1, bt349.1, bt349.2.1, bt349.2.2)))) else ((spec_l01Next.f s0_0 bt343.2.1 bt343.2.2 6000).bind fun bt352 => (some (wrap64 (bt340.1 - 6000), wrap64 ((wrap64 (bt340.1 - 6000)) + bt352.1), bt352.2.1, bt352.2.2)))))
set_option maxHeartbeats 8000000 in
set_option maxRecDepth 100000 in
theorem spec_l06Range.calls (g : Nat) (s0_0 : List Int) (s0_1 : Int) (s0_2 : Int) (r1 : Int) (r2 : Int) (r3 : Int) (r4 : Int) (w0 w : World) (hI : IsS66 w0 w g s0_0 s0_1 s0_2) (hB : Below w0.heap.size w0 w) (h : spec_l06Range.f s0_0 s0_1 s0_2 = some (r1, r2, r3, r4)) :
  Calls Try.prog 59 #[.pointer (some ⟨g, 0, none⟩)] w fun e w' => e = .returned (.tuple #[.int .i64 r1, .int .i64 r2]) ∧ IsS66 w0 w' g s0_0 r3 r4 ∧ Below w0.heap.size w0 w' ∧ KeepBut w w' g none := by
 have HI0 := Aside0.mk hI
 have HK := Aside0.mk (KeepBut.refl w g none)
 have HL := Aside0.mk hB.size
 clear hI
 have HW0 := Aside0.mk hB.size
 have HB := Aside0.mk hB
 clear hB
 have H : ((spec_l01Next.f s0_0 s0_1 s0_2 12001).bind fun bt340 => ((spec_l01Next.f s0_0 bt340.2.1 bt340.2.2 16).bind fun bt343 => (if bt343.1 = 0 then ((spec_l04Side.f s0_0 bt343.2.1 bt343.2.2).bind fun bt346 => ((spec_l04Side.f s0_0 bt346.2.1 bt346.2.2).bind fun bt349 => (some (bt346.1, bt349.1, bt349.2.1, bt349.2.2)))) else ((spec_l01Next.f s0_0 bt343.2.1 bt343.2.2 6000).bind fun bt352 => (some (wrap64 (bt340.1 - 6000), wrap64 ((wrap64 (bt340.1 - 6000)) + bt352.1), bt352.2.1, bt352.2.2)))))) = some (r1, r2, r3, r4) := h
 clear h
 replace H := Option.bind_eq_some_iff.mp H
 obtain ⟨⟨t340, t341, t342⟩, A20, H⟩ := H
 replace H : ((spec_l01Next.f s0_0 t341 t342 16).bind fun bt343 => (if bt343.1 = 0 then ((spec_l04Side.f s0_0 bt343.2.1 bt343.2.2).bind fun bt346 => ((spec_l04Side.f s0_0 bt346.2.1 bt346.2.2).bind fun bt349 => (some (bt346.1, bt349.1, bt349.2.1, bt349.2.2)))) else ((spec_l01Next.f s0_0 bt343.2.1 bt343.2.2 6000).bind fun bt352 => (some (wrap64 (t340 - 6000), wrap64 ((wrap64 (t340 - 6000)) + bt352.1), bt352.2.1, bt352.2.2))))) = some (r1, r2, r3, r4) := H
 have A2 := Aside0.mk A20
 clear A20
 replace H := Option.bind_eq_some_iff.mp H
 obtain ⟨⟨t343, t344, t345⟩, A30, H⟩ := H
 replace H : (if t343 = 0 then ((spec_l04Side.f s0_0 t344 t345).bind fun bt346 => ((spec_l04Side.f s0_0 bt346.2.1 bt346.2.2).bind fun bt349 => (some (bt346.1, bt349.1, bt349.2.1, bt349.2.2)))) else ((spec_l01Next.f s0_0 t344 t345 6000).bind fun bt352 => (some (wrap64 (t340 - 6000), wrap64 ((wrap64 (t340 - 6000)) + bt352.1), bt352.2.1, bt352.2.2)))) = some (r1, r2, r3, r4) := H
 have A3 := Aside0.mk A30
 clear A30
 by_cases c4 : t343 = 0
 ·rw [if_pos c4] at H
  have c4b0 : (t343 == 0) = true := beq_iff_eq.mpr c4
  have c4b1 : (t343 != 0) = false := bne_eq_false_iff_eq.mpr c4
  clear c4
  replace H := Option.bind_eq_some_iff.mp H
  obtain ⟨⟨t346, t347, t348⟩, A50, H⟩ := H
  replace H : ((spec_l04Side.f s0_0 t347 t348).bind fun bt349 => (some (t346, bt349.1, bt349.2.1, bt349.2.2))) = some (r1, r2, r3, r4) := H
  have A5 := Aside0.mk A50
  clear A50
  replace H := Option.bind_eq_some_iff.mp H
  obtain ⟨⟨t349, t350, t351⟩, A60, H⟩ := H
  replace H : (some (t346, t349, t350, t351)) = some (r1, r2, r3, r4) := H
  have A6 := Aside0.mk A60
  clear A60
  simp only [Option.some.injEq, Prod.mk.injEq] at H
  obtain ⟨rfl, rfl, rfl, rfl⟩ := H
  go_enter Try.func59, Try.ntmps59
  go_wp2_with (first | ((with_reducible refine gate_callee (f := 32) rfl ?_); refine goesL_ (some 6) rfl rfl Try.func32 (by kernel_rfl) rfl #[.pointer (some ⟨g, 0, none⟩), .int .i64 12001] rfl (by (try simp only [List.map_toArray, List.map_cons, List.map_nil]); first | done | rfl | (simp only [List.length_drop, List.length_take]; rfl)) ?_; (with_reducible refine (spec_l01Next.calls g s0_0 s0_1 s0_2 12001 t340 t341 t342 w0 _ ?side1 ?side2 A2.out).mono ?_); (case side1 => repeat (first | (with_reducible first | exact HI0.out | apply IsS66.alloc | apply IsS66.drewN | apply IsS66.drew | apply IsS66.set_1 | apply IsS66.set_2) | exact HI0.out)); (case side2 => repeat (first | (with_reducible first | exact HB.out | apply below_alloc | apply pw_below_drewN | apply below_drew1 | refine below_set ?_ (IsS66.ge HI0.out)) | exact HB.out)); rintro e w7 ⟨rfl, hi, hb, hk⟩; refine ⟨_, rfl, ?_⟩; have n0_ := Aside0.mk (KeepBut.trans (by repeat (first | (with_reducible first | exact HK.out | apply KeepBut.set_ | apply keep_drewN | apply keep_drew | apply keep_alloc) | exact HK.out)) hk (.inl rfl)); have n1_ := Aside0.mk (hb); have n2_ := Aside0.mk (hi); clear HK; clear HB; clear HI0; have HK := n0_; have HB := n1_; have HI0 := n2_; clear n0_ n1_ n2_; (try clear hb); (try clear hb2); (try clear hk); (try clear hi)) | ((with_reducible refine gate_callee (f := 32) rfl ?_); refine goesL_ (some 9) rfl rfl Try.func32 (by kernel_rfl) rfl #[.pointer (some ⟨g, 0, none⟩), .int .i64 16] rfl (by (try simp only [List.map_toArray, List.map_cons, List.map_nil]); first | done | rfl | (simp only [List.length_drop, List.length_take]; rfl)) ?_; (with_reducible refine (spec_l01Next.calls g s0_0 t341 t342 16 t343 t344 t345 w0 _ ?side1 ?side2 A3.out).mono ?_); (case side1 => repeat (first | (with_reducible first | exact HI0.out | apply IsS66.alloc | apply IsS66.drewN | apply IsS66.drew | apply IsS66.set_1 | apply IsS66.set_2) | exact HI0.out)); (case side2 => repeat (first | (with_reducible first | exact HB.out | apply below_alloc | apply pw_below_drewN | apply below_drew1 | refine below_set ?_ (IsS66.ge HI0.out)) | exact HB.out)); rintro e w8 ⟨rfl, hi, hb, hk⟩; refine ⟨_, rfl, ?_⟩; have n0_ := Aside0.mk (KeepBut.trans (by repeat (first | (with_reducible first | exact HK.out | apply KeepBut.set_ | apply keep_drewN | apply keep_drew | apply keep_alloc) | exact HK.out)) hk (.inl rfl)); have n1_ := Aside0.mk (hb); have n2_ := Aside0.mk (hi); clear HK; clear HB; clear HI0; have HK := n0_; have HB := n1_; have HI0 := n2_; clear n0_ n1_ n2_; (try clear hb); (try clear hb2); (try clear hk); (try clear hi)) | ((with_reducible refine gate_callee (f := 54) rfl ?_); refine goesL_ (some 12) rfl rfl Try.func54 (by kernel_rfl) rfl #[.pointer (some ⟨g, 0, none⟩)] rfl (by (try simp only [List.map_toArray, List.map_cons, List.map_nil]); first | done | rfl | (simp only [List.length_drop, List.length_take]; rfl)) ?_; (with_reducible refine (spec_l04Side.calls g s0_0 t344 t345 t346 t347 t348 w0 _ ?side1 ?side2 A5.out).mono ?_); (case side1 => repeat (first | (with_reducible first | exact HI0.out | apply IsS66.alloc | apply IsS66.drewN | apply IsS66.drew | apply IsS66.set_1 | apply IsS66.set_2) | exact HI0.out)); (case side2 => repeat (first | (with_reducible first | exact HB.out | apply below_alloc | apply pw_below_drewN | apply below_drew1 | refine below_set ?_ (IsS66.ge HI0.out)) | exact HB.out)); rintro e w9 ⟨rfl, hi, hb, hk⟩; refine ⟨_, rfl, ?_⟩; have n0_ := Aside0.mk (KeepBut.trans (by repeat (first | (with_reducible first | exact HK.out | apply KeepBut.set_ | apply keep_drewN | apply keep_drew | apply keep_alloc) | exact HK.out)) hk (.inl rfl)); have n1_ := Aside0.mk (hb); have n2_ := Aside0.mk (hi); clear HK; clear HB; clear HI0; have HK := n0_; have HB := n1_; have HI0 := n2_; clear n0_ n1_ n2_; (try clear hb); (try clear hb2); (try clear hk); (try clear hi)) | ((with_reducible refine gate_callee (f := 54) rfl ?_); refine goesL_ (some 14) rfl rfl Try.func54 (by kernel_rfl) rfl #[.pointer (some ⟨g, 0, none⟩)] rfl (by (try simp only [List.map_toArray, List.map_cons, List.map_nil]); first | done | rfl | (simp only [List.length_drop, List.length_take]; rfl)) ?_; (with_reducible refine (spec_l04Side.calls g s0_0 t347 t348 t349 t350 t351 w0 _ ?side1 ?side2 A6.out).mono ?_); (case side1 => repeat (first | (with_reducible first | exact HI0.out | apply IsS66.alloc | apply IsS66.drewN | apply IsS66.drew | apply IsS66.set_1 | apply IsS66.set_2) | exact HI0.out)); (case side2 => repeat (first | (with_reducible first | exact HB.out | apply below_alloc | apply pw_below_drewN | apply below_drew1 | refine below_set ?_ (IsS66.ge HI0.out)) | exact HB.out)); rintro e w10 ⟨rfl, hi, hb, hk⟩; refine ⟨_, rfl, ?_⟩; have n0_ := Aside0.mk (KeepBut.trans (by repeat (first | (with_reducible first | exact HK.out | apply KeepBut.set_ | apply keep_drewN | apply keep_drew | apply keep_alloc) | exact HK.out)) hk (.inl rfl)); have n1_ := Aside0.mk (hb); have n2_ := Aside0.mk (hi); clear HK; clear HB; clear HI0; have HK := n0_; have HB := n1_; have HI0 := n2_; clear n0_ n1_ n2_; (try clear hb); (try clear hb2); (try clear hk); (try clear hi)))
  go_ret2
  exact ⟨by first | rfl | (simp [errW_none, errW_some] <;> rfl) | (simp [*, errW_none, errW_some] <;> rfl), by repeat (first | (with_reducible first | exact HI0.out | apply IsS66.alloc | apply IsS66.drewN | apply IsS66.drew | apply IsS66.set_1 | apply IsS66.set_2) | exact HI0.out), by repeat (first | (with_reducible first | exact HB.out | apply below_alloc | apply pw_below_drewN | apply below_drew1 | refine below_set ?_ (IsS66.ge HI0.out)) | exact HB.out), by repeat (first | (with_reducible first | exact HK.out | apply KeepBut.set_ | apply keep_drewN | apply keep_drew | apply keep_alloc) | exact HK.out)⟩
 ·rw [if_neg c4] at H
  have c4b0 : (t343 == 0) = false := beq_eq_false_iff_ne.mpr c4
  have c4b1 : (t343 != 0) = true := bne_iff_ne.mpr c4
  replace H := Option.bind_eq_some_iff.mp H
  obtain ⟨⟨t352, t353, t354⟩, A110, H⟩ := H
  replace H : (some (wrap64 (t340 - 6000), wrap64 ((wrap64 (t340 - 6000)) + t352), t353, t354)) = some (r1, r2, r3, r4) := H
  have A11 := Aside0.mk A110
  clear A110
  simp only [Option.some.injEq, Prod.mk.injEq] at H
  obtain ⟨rfl, rfl, rfl, rfl⟩ := H
  go_enter Try.func59, Try.ntmps59
  go_wp2_with (first | ((with_reducible refine gate_callee (f := 32) rfl ?_); refine goesL_ (some 6) rfl rfl Try.func32 (by kernel_rfl) rfl #[.pointer (some ⟨g, 0, none⟩), .int .i64 12001] rfl (by (try simp only [List.map_toArray, List.map_cons, List.map_nil]); first | done | rfl | (simp only [List.length_drop, List.length_take]; rfl)) ?_; (with_reducible refine (spec_l01Next.calls g s0_0 s0_1 s0_2 12001 t340 t341 t342 w0 _ ?side1 ?side2 A2.out).mono ?_); (case side1 => repeat (first | (with_reducible first | exact HI0.out | apply IsS66.alloc | apply IsS66.drewN | apply IsS66.drew | apply IsS66.set_1 | apply IsS66.set_2) | exact HI0.out)); (case side2 => repeat (first | (with_reducible first | exact HB.out | apply below_alloc | apply pw_below_drewN | apply below_drew1 | refine below_set ?_ (IsS66.ge HI0.out)) | exact HB.out)); rintro e w12 ⟨rfl, hi, hb, hk⟩; refine ⟨_, rfl, ?_⟩; have n0_ := Aside0.mk (KeepBut.trans (by repeat (first | (with_reducible first | exact HK.out | apply KeepBut.set_ | apply keep_drewN | apply keep_drew | apply keep_alloc) | exact HK.out)) hk (.inl rfl)); have n1_ := Aside0.mk (hb); have n2_ := Aside0.mk (hi); clear HK; clear HB; clear HI0; have HK := n0_; have HB := n1_; have HI0 := n2_; clear n0_ n1_ n2_; (try clear hb); (try clear hb2); (try clear hk); (try clear hi)) | ((with_reducible refine gate_callee (f := 32) rfl ?_); refine goesL_ (some 9) rfl rfl Try.func32 (by kernel_rfl) rfl #[.pointer (some ⟨g, 0, none⟩), .int .i64 16] rfl (by (try simp only [List.map_toArray, List.map_cons, List.map_nil]); first | done | rfl | (simp only [List.length_drop, List.length_take]; rfl)) ?_; (with_reducible refine (spec_l01Next.calls g s0_0 t341 t342 16 t343 t344 t345 w0 _ ?side1 ?side2 A3.out).mono ?_); (case side1 => repeat (first | (with_reducible first | exact HI0.out | apply IsS66.alloc | apply IsS66.drewN | apply IsS66.drew | apply IsS66.set_1 | apply IsS66.set_2) | exact HI0.out)); (case side2 => repeat (first | (with_reducible first | exact HB.out | apply below_alloc | apply pw_below_drewN | apply below_drew1 | refine below_set ?_ (IsS66.ge HI0.out)) | exact HB.out)); rintro e w13 ⟨rfl, hi, hb, hk⟩; refine ⟨_, rfl, ?_⟩; have n0_ := Aside0.mk (KeepBut.trans (by repeat (first | (with_reducible first | exact HK.out | apply KeepBut.set_ | apply keep_drewN | apply keep_drew | apply keep_alloc) | exact HK.out)) hk (.inl rfl)); have n1_ := Aside0.mk (hb); have n2_ := Aside0.mk (hi); clear HK; clear HB; clear HI0; have HK := n0_; have HB := n1_; have HI0 := n2_; clear n0_ n1_ n2_; (try clear hb); (try clear hb2); (try clear hk); (try clear hi)) | ((with_reducible refine gate_callee (f := 32) rfl ?_); refine goesL_ (some 18) rfl rfl Try.func32 (by kernel_rfl) rfl #[.pointer (some ⟨g, 0, none⟩), .int .i64 6000] rfl (by (try simp only [List.map_toArray, List.map_cons, List.map_nil]); first | done | rfl | (simp only [List.length_drop, List.length_take]; rfl)) ?_; (with_reducible refine (spec_l01Next.calls g s0_0 t344 t345 6000 t352 t353 t354 w0 _ ?side1 ?side2 A11.out).mono ?_); (case side1 => repeat (first | (with_reducible first | exact HI0.out | apply IsS66.alloc | apply IsS66.drewN | apply IsS66.drew | apply IsS66.set_1 | apply IsS66.set_2) | exact HI0.out)); (case side2 => repeat (first | (with_reducible first | exact HB.out | apply below_alloc | apply pw_below_drewN | apply below_drew1 | refine below_set ?_ (IsS66.ge HI0.out)) | exact HB.out)); rintro e w14 ⟨rfl, hi, hb, hk⟩; refine ⟨_, rfl, ?_⟩; have n0_ := Aside0.mk (KeepBut.trans (by repeat (first | (with_reducible first | exact HK.out | apply KeepBut.set_ | apply keep_drewN | apply keep_drew | apply keep_alloc) | exact HK.out)) hk (.inl rfl)); have n1_ := Aside0.mk (hb); have n2_ := Aside0.mk (hi); clear HK; clear HB; clear HI0; have HK := n0_; have HB := n1_; have HI0 := n2_; clear n0_ n1_ n2_; (try clear hb); (try clear hb2); (try clear hk); (try clear hi)))
  go_ret2
  exact ⟨by first | rfl | (simp [errW_none, errW_some] <;> rfl) | (simp [*, errW_none, errW_some] <;> rfl), by repeat (first | (with_reducible first | exact HI0.out | apply IsS66.alloc | apply IsS66.drewN | apply IsS66.drew | apply IsS66.set_1 | apply IsS66.set_2) | exact HI0.out), by repeat (first | (with_reducible first | exact HB.out | apply below_alloc | apply pw_below_drewN | apply below_drew1 | refine below_set ?_ (IsS66.ge HI0.out)) | exact HB.out), by repeat (first | (with_reducible first | exact HK.out | apply KeepBut.set_ | apply keep_drewN | apply keep_drew | apply keep_alloc) | exact HK.out)⟩
end Go.Proofs.Ytbleliajcbdijaa.F
namespace Go.Proofs.Ytbleliajcbdijaa.F
open Go.RowKit Go.Proofs.YtbleliajcbdijaaW.PrintWords Go.Proofs.YtbleliajcbdijaaW.PrintLast Go.Proofs.YtbleliajcbdijaaW.PrintMore
set_option linter.unusedVariables false
set_option linter.unusedSimpArgs false
theorem up_ok {c : List Int} (hc : Code c) {a s : Int} (h : St c a s) : ∃ r a' s', spec_l04Up.f c a s = some (r, a', s') ∧ St c a' s' := by
 obtain ⟨r1, a1, s1, e1, h1, _⟩ := next_ok hc h 100000 (by omega)
 obtain ⟨r2, a2, s2, e2, h2, _⟩ := next_ok hc h1 100000 (by omega)
 obtain ⟨r3, a3, s3, e3, h3, _⟩ := next_ok hc h2 100 (by omega)
 obtain ⟨r4, a4, s4, e4, h4, _⟩ := next_ok hc h3 60000 (by omega)
 obtain ⟨r5, a5, s5, e5, h5, _⟩ := next_ok hc h4 60000 (by omega)
 obtain ⟨r6, a6, s6, e6, h6, _⟩ := pick_ok hc h5 [r1, r2, r3, 0, 200000, 200001, r4, r5] (by simp) (by simp)
 refine ⟨r6, a6, s6, ?_, h6⟩
 unfold spec_l04Up.f
 simp only [e1, e2, e3, e4, e5, e6, Option.bind_some]
theorem side_ok {c : List Int} (hc : Code c) {a s : Int} (h : St c a s) : ∃ r a' s', spec_l04Side.f c a s = some (r, a', s') ∧ St c a' s' := by
 obtain ⟨r1, a1, s1, e1, h1, _⟩ := next_ok hc h 20001 (by omega)
 obtain ⟨r2, a2, s2, e2, h2, _⟩ := next_ok hc h1 2001 (by omega)
 obtain ⟨r3, a3, s3, e3, h3, _⟩ := next_ok hc h2 20001 (by omega)
 obtain ⟨r4, a4, s4, e4, h4, _⟩ := pick_ok hc h3 [50000, -50000, 50001] (by simp) (by simp)
 obtain ⟨r5, a5, s5, e5, h5, _⟩ := pick_ok hc h4 [wrap64 (r1 - 10000), wrap64 (r2 - 1000), 0, wrap64 (r3 - 10000), r4] (by simp) (by simp)
 refine ⟨r5, a5, s5, ?_, h5⟩
 unfold spec_l04Side.f
 simp only [e1, e2, e3, e4, e5, Option.bind_some]
theorem shot_ok {c : List Int} (hc : Code c) {a s : Int} (h : St c a s) : ∃ u v f r a' s', spec_l06Draw.f c a s = some (u, v, f, r, a', s') ∧ St c a' s' := by
 obtain ⟨r1, a1, s1, e1, h1, _⟩ := next_ok hc h 70000 (by omega)
 obtain ⟨r2, a2, s2, e2, h2, _⟩ := next_ok hc h1 10001 (by omega)
 obtain ⟨r3, a3, s3, e3, h3, _⟩ := next_ok hc h2 4000 (by omega)
 obtain ⟨r4, a4, s4, e4, h4, _⟩ := next_ok hc h3 60000 (by omega)
 obtain ⟨r5, a5, s5, e5, h5, _⟩ := next_ok hc h4 40 (by omega)
 have g : spec_l06Good.f c a s = some (wrap64 (5000 + r1), wrap64 (r2 - 5000), wrap64 (500 + r3), r4, a4, s4) := by
  unfold spec_l06Good.f
  simp only [e1, e2, e3, e4, Option.bind_some]
 unfold spec_l06Draw.f
 simp only [g, e5, Option.bind_some]
 by_cases c0 : r5 = 0
 ·obtain ⟨r6, a6, s6, e6, h6, _⟩ := pick_ok hc h5 [99, 100, 10000, 10001] (by simp) (by simp)
  rw [if_pos c0, e6]
  exact ⟨_, _, _, _, _, _, rfl, h6⟩
 rw [if_neg c0]
 by_cases c1 : r5 = 1
 ·obtain ⟨r6, a6, s6, e6, h6, _⟩ := pick_ok hc h5 [-1, 0, 200000, 200001] (by simp) (by simp)
  rw [if_pos c1, e6]
  exact ⟨_, _, _, _, _, _, rfl, h6⟩
 rw [if_neg c1]
 by_cases c2 : r5 = 2
 ·obtain ⟨r6, a6, s6, e6, h6⟩ := up_ok hc h5
  rw [if_pos c2, e6]
  exact ⟨_, _, _, _, _, _, rfl, h6⟩
 rw [if_neg c2]
 by_cases c3 : r5 = 3
 ·obtain ⟨r6, a6, s6, e6, h6⟩ := side_ok hc h5
  rw [if_pos c3, e6]
  exact ⟨_, _, _, _, _, _, rfl, h6⟩
 rw [if_neg c3]
 exact ⟨_, _, _, _, _, _, rfl, h5⟩
end Go.Proofs.Ytbleliajcbdijaa.F
namespace Go.Proofs.Ytbleliajcbdijaa.F
open Go.RowKit Go.Proofs.YtbleliajcbdijaaW.PrintWords Go.Proofs.YtbleliajcbdijaaW.PrintLast Go.Proofs.YtbleliajcbdijaaW.PrintMore
set_option linter.unusedVariables false
set_option linter.unusedSimpArgs false
theorem draw_ok {c : List Int} (hc : Code c) : ∃ u s f r most, ∀ k, 100 ≤ k → spec_DrawMostWind.f k c = some (u, s, f, r, most) := by
 obtain ⟨z, e0, h0⟩ := from_ok hc
 obtain ⟨u, s, f, r, a1, s1, e1, h1⟩ := shot_ok hc h0
 obtain ⟨r2, a2, s2, e2, h2, _⟩ := next_ok hc h1 200000 (by omega)
 obtain ⟨r3, a3, s3, e3, h3, _⟩ := next_ok hc h2 100000 (by omega)
 obtain ⟨r4, a4, s4, e4, h4, _⟩ := pick_ok hc h3 [wrap64 (100000 + r2), r3, 100000000, 100000001, -1, 150000] (by simp) (by simp)
 refine ⟨u, s, f, r, r4, fun k hk => ?_⟩
 unfold spec_DrawMostWind.f
 simp only [e0 k (by omega), e1, e2, e3, e4, Option.bind_some]
theorem pure_FnWindLimits : laws_FnWindLimits.Pure := by
 intro c _ _ hb
 by_cases big : (c.length : Int) > 4096
 ·refine ⟨0, ?_⟩
  unfold laws_FnWindLimits.f laws_big.f
  simp only [Option.bind_some, decide_eq_true big, if_true]
 have hc : Code c := code_of big hb
 obtain ⟨u, s, f, r, most, ed⟩ := draw_ok hc
 obtain ⟨q1, q2, ⟨K1, es⟩, ⟨K2, ei⟩, hq⟩ := mostwind_ex u s f r most
 refine ⟨K1 + K2 + 200010, ?_⟩
 unfold laws_FnWindLimits.f laws_big.f
 have n1 : (q1 != q1) = false := by simp
 simp only [Option.bind_some, decide_eq_false big, Bool.false_eq_true, if_false, ed (K1 + K2 + 200010) (by omega), show impl_MostWind.f (K1 + K2 + 200010) u s f r most = _ from ei _ (by omega), show spec_MostWind.f (K1 + K2 + 200010) u s f r most = _ from es _ (by omega), if_true, n1]
 show laws_FnWindLimits.j0 (K1 + K2 + 200009 + 1) most q1 q2 false u s f r = _
 simp only [laws_FnWindLimits.j0, Bool.false_eq_true, if_false]
 by_cases h0 : q2 = 0
 ·rw [if_pos h0]
  obtain ⟨hS, hm, w0, w1, hk, hn⟩ := hq h0
  have hw := winds_w ⟨w0, w1⟩
  have so : ∀ (w : Int) (k : Nat), 0 ≤ w → w ≤ 50000 → 150000 ≤ k → impl_StripOf.f k u s f r (-w) w = some (stLo u s f r (-w), stHi u s f r w, 0) := fun w k a b hk => by
   unfold impl_StripOf.f
   rw [impl_shot, hS, impl_winds, winds_w ⟨a, b⟩, (strip_is hS (winds_w ⟨a, b⟩)).2 k hk]; rfl
  rw [w64 (n := -q1) (by omega), so q1 _ w0 w1 (by omega), w64 (n := -most) (by omega)]
  simp only [Option.bind_some, if_true]
  rw [if_neg (show ¬ stLo u s f r (-q1) < -most from by have := hk.1; omega), decide_eq_false (show ¬ stHi u s f r q1 > most from by have := hk.2; omega)]
  show laws_FnWindLimits.j1 (K1 + K2 + 200008 + 1) most q1 false u s f r = _
  simp only [laws_FnWindLimits.j1, Bool.false_eq_true, if_false]
  by_cases e : q1 = 50000
  ·rw [if_pos e]
  ·rw [if_neg e, w64 (n := -q1) (by omega), w64 (n := -q1 - 1) (by omega), w64 (n := q1 + 1) (by omega), show -q1 - 1 = -(q1 + 1) by omega, so (q1 + 1) _ (by omega) (by omega) (by omega), w64 (n := -most) (by omega)]
   simp only [Option.bind_some, if_true]
   rcases hn with x | x
   ·exact absurd x e
   ·by_cases d : stLo u s f r (-(q1 + 1)) < -most
    ·rw [if_pos d]
    ·rw [if_neg d]
     congr 1
     rw [decide_eq_true_iff]
     apply Int.lt_of_not_ge
     intro y
     exact x ⟨by omega, y⟩
 ·rw [if_neg h0]
end Go.Proofs.Ytbleliajcbdijaa.F
namespace Go.Proofs.Ytbleliajcbdijaa.Pure
theorem FnWindLimits : Go.Proofs.Ytbleliajcbdijaa.F.laws_FnWindLimits.Pure := Go.Proofs.Ytbleliajcbdijaa.F.pure_FnWindLimits
end Go.Proofs.Ytbleliajcbdijaa.Pure
namespace Go.Proofs.Ytbleliajcbdijaa.F
end Go.Proofs.Ytbleliajcbdijaa.F
