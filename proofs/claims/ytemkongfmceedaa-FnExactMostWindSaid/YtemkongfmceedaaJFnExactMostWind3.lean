import Derived.Test.YtemkongfmceedaaJFnExactMostWind2
import Derived.Below
import Derived.Deep.Draws
import Derived.Deep.AppendLies
import Derived.Maps.AppendAt
import Derived.OwnWalk
import Derived.Laws.BytesArg
import Derived.Laws.MakeOwn
import Derived.Laws.OwnMore
import Derived.Deep.OwnRows
import Derived.Tactics
import Derived.Lib.ConvBytes
import Derived.Laws.Slices
import Derived.WalkKit
import Derived.KernelRfl
import Derived.RowKit3
import Derived.Deep.LoopGhost
import Derived.Deep.QuietTactic
import Derived.BigQuiet
import Derived.WideLaws
import Derived.Deep.DeepCutAuto
import Derived.Deep.CutBlock
import Derived.Deep.RegionHeld3
import Derived.Laws.Rows
import Derived.Lib.AppendStr
import Derived.ArgAppend
import Derived.Laws.IdiomCopy
import Derived.RowKit
import Derived.OrdersHeld
import Derived.Laws.BitsLemmas
import Derived.Laws.StructEq
import Derived.Test.YtemkongfmceedaaProg
import Derived.ChangeSlices
import Derived.OpenShut
import Derived.Test.YtemkongfmceedaaRows
import Derived.ProofKit
import Derived.ShutString
import Derived.ChangeOld
import Derived.SizedLaws
namespace Go.Proofs.Ytemkongfmceedaa.F
open Go.RowKit Go.Proofs.YtemkongfmceedaaW.PrintWords Go.Proofs.YtemkongfmceedaaW.PrintLast Go.Proofs.YtemkongfmceedaaW.PrintMore
attribute [local go_sem] max2_int min2_int max_two min_two max_three min_three max_four min_four   -- for this text's walks alone
set_option linter.unusedVariables false
set_option linter.unusedSimpArgs false
def spec_l06Within.f (k : Nat) (a0_0 : Int) (a0_1 : Int) (a0_2 : Int) (a0_3 : Int) (a1 : Int) (a2 : Int) : Option (Bool) := (spec_l06Strip.f k a0_0 a0_1 a0_2 a0_3 (wrap64 (-a1)) a1).bind fun bt216 => (if bt216.1 ≥ (wrap64 (-a2)) then (some (decide (bt216.2 ≤ a2))) else (some false))
theorem spec_l06Within.mono : ∀ a0 a1 a2 a3 a4 a5 k, LeO (spec_l06Within.f k a0 a1 a2 a3 a4 a5) (spec_l06Within.f (k + 1) a0 a1 a2 a3 a4 a5) := by
 intro a0 a1 a2 a3 a4 a5 k
 unfold spec_l06Within.f
 repeat' first
   | (with_reducible exact spec_l06Strip.mono _ _ _ _ _ _ _)
   | (with_reducible exact LeO.refl _)
   | (with_reducible exact LeO.none _)
   | (with_reducible refine LeO.ite ?_ ?_)
   | (with_reducible refine LeO.bind ?_ (fun _ => ?_))
   | exact spec_l06Strip.mono _ _ _ _ _ _ _
   | exact LeO.none _
   | refine LeO.ite ?_ ?_
   | refine LeO.bind ?_ (fun _ => ?_)
set_option maxHeartbeats 8000000 in
set_option maxRecDepth 100000 in
theorem spec_l06Within.calls (k : Nat) (a0_0 : Int) (a0_1 : Int) (a0_2 : Int) (a0_3 : Int) (a1 : Int) (a2 : Int) (r : Bool) (w : World) (h : spec_l06Within.f k a0_0 a0_1 a0_2 a0_3 a1 a2 = some r) :
  Calls Try.prog 28 #[.agg #[.int .i64 a0_0, .int .i64 a0_1, .int .i64 a0_2, .int .i64 a0_3], .int .i64 a1, .int .i64 a2] w fun e w' => e = .returned (.bool r) ∧ Below w.heap.size w w' := by
 have hu26 := Try.underlying26
 have HB := Aside0.mk (Below.refl w.heap.size w)
 have H : ((spec_l06Strip.f k a0_0 a0_1 a0_2 a0_3 (wrap64 (-a1)) a1).bind fun bt216 => (if bt216.1 ≥ (wrap64 (-a2)) then (some (decide (bt216.2 ≤ a2))) else (some false))) = some r := h
 clear h
 replace H := Option.bind_eq_some_iff.mp H
 obtain ⟨⟨t216, t217⟩, A40, H⟩ := H
 replace H : (if t216 ≥ (wrap64 (-a2)) then (some (decide (t217 ≤ a2))) else (some false)) = some r := H
 have A4 := Aside0.mk A40
 clear A40
 by_cases c5 : t216 ≥ (wrap64 (-a2))
 ·rw [if_pos c5] at H
  have c5b0 : decide ((wrap64 (-a2)) ≤ t216) = true := decide_eq_true c5
  clear c5
  obtain rfl := Option.some.inj H
  go_enter Try.func28, Try.ntmps28
  go_wp2_with (first | ((with_reducible refine gate_dst (N := 3) rfl ?_); refine box_event ?hg (N := 3) ?hd (cs := #[.int .i64 a0_0, .int .i64 a0_1, .int .i64 a0_2, .int .i64 a0_3]) (t := 26) ?hr ?_; (case hd => rfl); (case hg => rfl); (case hr => first | (go_simp; done) | (go_simp; rfl)); intro gb215 hg w6 hbox hb; have n0_ := Aside0.mk (below_step (by repeat (first | (with_reducible first | exact HB.out | apply below_alloc | apply pw_below_drewN | apply below_drew1) | exact HB.out)) hb); have n1_ := Aside0.mk (hbox); have n2_ := Aside0.mk ((by rw [hg]; exact (below_size (by repeat (first | (with_reducible first | exact HB.out | apply below_alloc | apply pw_below_drewN | apply below_drew1) | exact HB.out))) : w.heap.size ≤ gb215)); have n3_ := Aside0.mk ((by rw [hg]; exact (below_size (by repeat (first | (with_reducible first | exact HB.out | apply below_alloc | apply pw_below_drewN | apply below_drew1) | exact HB.out))) : w.heap.size ≤ gb215)); clear HB; have HB := n0_; have BK215 := n1_; have GW215 := n2_; have GE215 := n3_; clear n0_ n1_ n2_ n3_; clear hb hbox hg; have hcz7_0 : w6.cell? ⟨gb215, 0, none⟩ = some (.int .i64 a0_0) := (blk_cell BK215.out 0).trans rfl; have hcz7_1 : w6.cell? ⟨gb215, 1, none⟩ = some (.int .i64 a0_1) := (blk_cell BK215.out 1).trans rfl; have hcz7_2 : w6.cell? ⟨gb215, 2, none⟩ = some (.int .i64 a0_2) := (blk_cell BK215.out 2).trans rfl; have hcz7_3 : w6.cell? ⟨gb215, 3, none⟩ = some (.int .i64 a0_3) := (blk_cell BK215.out 3).trans rfl; have hfz7_0 := blk_frozen BK215.out 0; have hfz7_1 := blk_frozen BK215.out 1; have hfz7_2 := blk_frozen BK215.out 2; have hfz7_3 := blk_frozen BK215.out 3) | ((with_reducible refine gate_callee (f := 23) rfl ?_); refine goesL_ (some 14) rfl rfl Try.func23 (by kernel_rfl) rfl #[.agg #[.int .i64 a0_0, .int .i64 a0_1, .int .i64 a0_2, .int .i64 a0_3], .int .i64 (wrap64 (-a1)), .int .i64 a1] rfl (by (try simp only [List.map_toArray, List.map_cons, List.map_nil]); first | done | rfl | (simp only [List.length_drop, List.length_take]; rfl)) ?_; (with_reducible refine (spec_l06Strip.calls k a0_0 a0_1 a0_2 a0_3 (wrap64 (-a1)) a1 t216 t217 _ A4.out).mono ?_); rintro e w8 ⟨rfl, hb⟩; refine ⟨_, rfl, ?_⟩; have n0_ := Aside0.mk (blk_below (g := gb215) (o := .cells #[.int .i64 a0_0, .int .i64 a0_1, .int .i64 a0_2, .int .i64 a0_3] 26 (0, 0)) (by (with_reducible repeat (first | refine blk_drewN ?_ _ | refine blk_drew ?_ | refine blk_alloc ?_ _)); exact BK215.out) hb); have n1_ := Aside0.mk (below_step (by repeat (first | (with_reducible first | exact HB.out | apply below_alloc | apply pw_below_drewN | apply below_drew1 | refine below_set ?_ GE215.out) | exact HB.out)) hb); clear BK215; clear HB; have BK215 := n0_; have HB := n1_; clear n0_ n1_; (try clear hb); (try clear hb2); (try clear hk); (try clear hi)))
  go_ret
  exact ⟨by first | rfl | (simp [errW_none, errW_some] <;> rfl) | (simp [*, errW_none, errW_some] <;> rfl), by repeat (first | (with_reducible first | exact HB.out | apply below_alloc | apply pw_below_drewN | apply below_drew1 | refine below_set ?_ GE215.out) | exact HB.out)⟩
 ·rw [if_neg c5] at H
  have c5b0 : decide ((wrap64 (-a2)) ≤ t216) = false := decide_eq_false c5
  clear c5
  obtain rfl := Option.some.inj H
  go_enter Try.func28, Try.ntmps28
  go_wp2_with (first | ((with_reducible refine gate_dst (N := 3) rfl ?_); refine box_event ?hg (N := 3) ?hd (cs := #[.int .i64 a0_0, .int .i64 a0_1, .int .i64 a0_2, .int .i64 a0_3]) (t := 26) ?hr ?_; (case hd => rfl); (case hg => rfl); (case hr => first | (go_simp; done) | (go_simp; rfl)); intro gb215 hg w9 hbox hb; have n0_ := Aside0.mk (below_step (by repeat (first | (with_reducible first | exact HB.out | apply below_alloc | apply pw_below_drewN | apply below_drew1) | exact HB.out)) hb); have n1_ := Aside0.mk (hbox); have n2_ := Aside0.mk ((by rw [hg]; exact (below_size (by repeat (first | (with_reducible first | exact HB.out | apply below_alloc | apply pw_below_drewN | apply below_drew1) | exact HB.out))) : w.heap.size ≤ gb215)); have n3_ := Aside0.mk ((by rw [hg]; exact (below_size (by repeat (first | (with_reducible first | exact HB.out | apply below_alloc | apply pw_below_drewN | apply below_drew1) | exact HB.out))) : w.heap.size ≤ gb215)); clear HB; have HB := n0_; have BK215 := n1_; have GW215 := n2_; have GE215 := n3_; clear n0_ n1_ n2_ n3_; clear hb hbox hg; have hcz10_0 : w9.cell? ⟨gb215, 0, none⟩ = some (.int .i64 a0_0) := (blk_cell BK215.out 0).trans rfl; have hcz10_1 : w9.cell? ⟨gb215, 1, none⟩ = some (.int .i64 a0_1) := (blk_cell BK215.out 1).trans rfl; have hcz10_2 : w9.cell? ⟨gb215, 2, none⟩ = some (.int .i64 a0_2) := (blk_cell BK215.out 2).trans rfl; have hcz10_3 : w9.cell? ⟨gb215, 3, none⟩ = some (.int .i64 a0_3) := (blk_cell BK215.out 3).trans rfl; have hfz10_0 := blk_frozen BK215.out 0; have hfz10_1 := blk_frozen BK215.out 1; have hfz10_2 := blk_frozen BK215.out 2; have hfz10_3 := blk_frozen BK215.out 3) | ((with_reducible refine gate_callee (f := 23) rfl ?_); refine goesL_ (some 14) rfl rfl Try.func23 (by kernel_rfl) rfl #[.agg #[.int .i64 a0_0, .int .i64 a0_1, .int .i64 a0_2, .int .i64 a0_3], .int .i64 (wrap64 (-a1)), .int .i64 a1] rfl (by (try simp only [List.map_toArray, List.map_cons, List.map_nil]); first | done | rfl | (simp only [List.length_drop, List.length_take]; rfl)) ?_; (with_reducible refine (spec_l06Strip.calls k a0_0 a0_1 a0_2 a0_3 (wrap64 (-a1)) a1 t216 t217 _ A4.out).mono ?_); rintro e w11 ⟨rfl, hb⟩; refine ⟨_, rfl, ?_⟩; have n0_ := Aside0.mk (blk_below (g := gb215) (o := .cells #[.int .i64 a0_0, .int .i64 a0_1, .int .i64 a0_2, .int .i64 a0_3] 26 (0, 0)) (by (with_reducible repeat (first | refine blk_drewN ?_ _ | refine blk_drew ?_ | refine blk_alloc ?_ _)); exact BK215.out) hb); have n1_ := Aside0.mk (below_step (by repeat (first | (with_reducible first | exact HB.out | apply below_alloc | apply pw_below_drewN | apply below_drew1 | refine below_set ?_ GE215.out) | exact HB.out)) hb); clear BK215; clear HB; have BK215 := n0_; have HB := n1_; clear n0_ n1_; (try clear hb); (try clear hb2); (try clear hk); (try clear hi)))
  go_ret
  exact ⟨by first | rfl | (simp [errW_none, errW_some] <;> rfl) | (simp [*, errW_none, errW_some] <;> rfl), by repeat (first | (with_reducible first | exact HB.out | apply below_alloc | apply pw_below_drewN | apply below_drew1 | refine below_set ?_ GE215.out) | exact HB.out)⟩
end Go.Proofs.Ytemkongfmceedaa.F
namespace Go.Proofs.Ytemkongfmceedaa.F
open Go.RowKit Go.Proofs.YtemkongfmceedaaW.PrintWords Go.Proofs.YtemkongfmceedaaW.PrintLast Go.Proofs.YtemkongfmceedaaW.PrintMore
attribute [local go_sem] max2_int min2_int max_two min_two max_three min_three max_four min_four   -- for this text's walks alone
set_option linter.unusedVariables false
set_option linter.unusedSimpArgs false
mutual
def spec_MostWind.j0 : Nat → Int → Int → Bool → Int → Int → Int → Int → Option (Int × Int)
 | 0, _, _, _, _, _, _, _ => none
 | k + 1, x1, x6, x19, x219000, x219001, x219002, x219003 => if x19 = true then (spec_MostWind.j1 k x1 2 x219000 x219001 x219002 x219003) else (spec_MostWind.j1 k x1 x6 x219000 x219001 x219002 x219003)
def spec_MostWind.j1 : Nat → Int → Int → Int → Int → Int → Int → Option (Int × Int)
 | 0, _, _, _, _, _, _ => none
 | k + 1, x1, x6, x219000, x219001, x219002, x219003 => if x6 = 0 then ((spec_l06Within.f k x219000 x219001 x219002 x219003 0 x1).bind fun t224 => (spec_MostWind.j2 k x1 x6 (!t224) x219000 x219001 x219002 x219003)) else (spec_MostWind.j2 k x1 x6 false x219000 x219001 x219002 x219003)
def spec_MostWind.j2 : Nat → Int → Int → Bool → Int → Int → Int → Int → Option (Int × Int)
 | 0, _, _, _, _, _, _, _ => none
 | k + 1, x1, x6, x27, x219000, x219001, x219002, x219003 => if x27 = true then (spec_MostWind.j3 k x1 4 x219000 x219001 x219002 x219003) else (spec_MostWind.j3 k x1 x6 x219000 x219001 x219002 x219003)
def spec_MostWind.j3 : Nat → Int → Int → Int → Int → Int → Int → Option (Int × Int)
 | 0, _, _, _, _, _, _ => none
 | k + 1, x1, x6, x219000, x219001, x219002, x219003 => if x6 = 0 then (spec_MostWind.l0 k x1 0 50001 x219000 x219001 x219002 x219003) else (some (0, x6))
def spec_MostWind.l0 : Nat → Int → Int → Int → Int → Int → Int → Int → Option (Int × Int)
 | 0, _, _, _, _, _, _, _ => none
 | k + 1, x1, x7, x8, x219000, x219001, x219002, x219003 => if (wrap64 (x7 + 1)) < x8 then ((spec_l06Within.f k x219000 x219001 x219002 x219003 (wrap64 (Int.tdiv (wrap64 (x7 + x8)) 2)) x1).bind fun t225 => (if t225 = true then (spec_MostWind.l0 k x1 (wrap64 (Int.tdiv (wrap64 (x7 + x8)) 2)) x8 x219000 x219001 x219002 x219003) else (spec_MostWind.l0 k x1 x7 (wrap64 (Int.tdiv (wrap64 (x7 + x8)) 2)) x219000 x219001 x219002 x219003))) else (some (x7, 0))
end
def spec_MostWind.f (k : Nat) (a0_0 : Int) (a0_1 : Int) (a0_2 : Int) (a0_3 : Int) (a1 : Int) : Option (Int × Int) := (spec_l06Code.f k (([(⟨a0_0, a0_1, a0_2, a0_3⟩ : S26)] : List (S26))) 0 0).bind fun t222 => (if t222 = 0 then ((spec_l01In.f a1 0 100000000).bind fun t223 => (spec_MostWind.j0 k a1 t222 (!t223) a0_0 a0_1 a0_2 a0_3)) else (spec_MostWind.j0 k a1 t222 false a0_0 a0_1 a0_2 a0_3))
theorem spec_MostWind.mono_l : ∀ k, (∀ y0 y1 y2 y3 y4 y5 y6, LeO (spec_MostWind.j0 k y0 y1 y2 y3 y4 y5 y6) (spec_MostWind.j0 (k + 1) y0 y1 y2 y3 y4 y5 y6)) ∧ (∀ y0 y1 y2 y3 y4 y5, LeO (spec_MostWind.j1 k y0 y1 y2 y3 y4 y5) (spec_MostWind.j1 (k + 1) y0 y1 y2 y3 y4 y5)) ∧ (∀ y0 y1 y2 y3 y4 y5 y6, LeO (spec_MostWind.j2 k y0 y1 y2 y3 y4 y5 y6) (spec_MostWind.j2 (k + 1) y0 y1 y2 y3 y4 y5 y6)) ∧ (∀ y0 y1 y2 y3 y4 y5, LeO (spec_MostWind.j3 k y0 y1 y2 y3 y4 y5) (spec_MostWind.j3 (k + 1) y0 y1 y2 y3 y4 y5)) ∧ (∀ y0 y1 y2 y3 y4 y5 y6, LeO (spec_MostWind.l0 k y0 y1 y2 y3 y4 y5 y6) (spec_MostWind.l0 (k + 1) y0 y1 y2 y3 y4 y5 y6))
 | 0 => ⟨fun _ _ _ _ _ _ _ r h => by simp [spec_MostWind.j0] at h, fun _ _ _ _ _ _ r h => by simp [spec_MostWind.j1] at h, fun _ _ _ _ _ _ _ r h => by simp [spec_MostWind.j2] at h, fun _ _ _ _ _ _ r h => by simp [spec_MostWind.j3] at h, fun _ _ _ _ _ _ _ r h => by simp [spec_MostWind.l0] at h⟩
 | k + 1 => by
  obtain ⟨ih0, ih1, ih2, ih3, ih4⟩ := spec_MostWind.mono_l k
  refine ⟨?_, ?_, ?_, ?_, ?_⟩
  ·intro y0 y1 y2 y3 y4 y5 y6
   unfold spec_MostWind.j0
   repeat' first
   | (with_reducible exact ih0 _ _ _ _ _ _ _)
   | (with_reducible exact ih1 _ _ _ _ _ _)
   | (with_reducible exact ih2 _ _ _ _ _ _ _)
   | (with_reducible exact ih3 _ _ _ _ _ _)
   | (with_reducible exact ih4 _ _ _ _ _ _ _)
   | (with_reducible exact spec_l06Code.mono _ _ _ _)
   | (with_reducible exact spec_l06Within.mono _ _ _ _ _ _ _)
   | (with_reducible exact LeO.refl _)
   | (with_reducible exact LeO.none _)
   | (with_reducible refine LeO.ite ?_ ?_)
   | (with_reducible refine LeO.bind ?_ (fun _ => ?_))
   | exact ih0 _ _ _ _ _ _ _
   | exact ih1 _ _ _ _ _ _
   | exact ih2 _ _ _ _ _ _ _
   | exact ih3 _ _ _ _ _ _
   | exact ih4 _ _ _ _ _ _ _
   | exact spec_l06Code.mono _ _ _ _
   | exact spec_l06Within.mono _ _ _ _ _ _ _
   | exact LeO.none _
   | refine LeO.ite ?_ ?_
   | refine LeO.bind ?_ (fun _ => ?_)
  ·intro y0 y1 y2 y3 y4 y5
   unfold spec_MostWind.j1
   repeat' first
   | (with_reducible exact ih0 _ _ _ _ _ _ _)
   | (with_reducible exact ih1 _ _ _ _ _ _)
   | (with_reducible exact ih2 _ _ _ _ _ _ _)
   | (with_reducible exact ih3 _ _ _ _ _ _)
   | (with_reducible exact ih4 _ _ _ _ _ _ _)
   | (with_reducible exact spec_l06Code.mono _ _ _ _)
   | (with_reducible exact spec_l06Within.mono _ _ _ _ _ _ _)
   | (with_reducible exact LeO.refl _)
   | (with_reducible exact LeO.none _)
   | (with_reducible refine LeO.ite ?_ ?_)
   | (with_reducible refine LeO.bind ?_ (fun _ => ?_))
   | exact ih0 _ _ _ _ _ _ _
   | exact ih1 _ _ _ _ _ _
   | exact ih2 _ _ _ _ _ _ _
   | exact ih3 _ _ _ _ _ _
   | exact ih4 _ _ _ _ _ _ _
   | exact spec_l06Code.mono _ _ _ _
   | exact spec_l06Within.mono _ _ _ _ _ _ _
   | exact LeO.none _
   | refine LeO.ite ?_ ?_
   | refine LeO.bind ?_ (fun _ => ?_)
  ·intro y0 y1 y2 y3 y4 y5 y6
   unfold spec_MostWind.j2
   repeat' first
   | (with_reducible exact ih0 _ _ _ _ _ _ _)
   | (with_reducible exact ih1 _ _ _ _ _ _)
   | (with_reducible exact ih2 _ _ _ _ _ _ _)
   | (with_reducible exact ih3 _ _ _ _ _ _)
   | (with_reducible exact ih4 _ _ _ _ _ _ _)
   | (with_reducible exact spec_l06Code.mono _ _ _ _)
   | (with_reducible exact spec_l06Within.mono _ _ _ _ _ _ _)
   | (with_reducible exact LeO.refl _)
   | (with_reducible exact LeO.none _)
   | (with_reducible refine LeO.ite ?_ ?_)
   | (with_reducible refine LeO.bind ?_ (fun _ => ?_))
   | exact ih0 _ _ _ _ _ _ _
   | exact ih1 _ _ _ _ _ _
   | exact ih2 _ _ _ _ _ _ _
   | exact ih3 _ _ _ _ _ _
   | exact ih4 _ _ _ _ _ _ _
   | exact spec_l06Code.mono _ _ _ _
   | exact spec_l06Within.mono _ _ _ _ _ _ _
   | exact LeO.none _
   | refine LeO.ite ?_ ?_
   | refine LeO.bind ?_ (fun _ => ?_)
  ·intro y0 y1 y2 y3 y4 y5
   unfold spec_MostWind.j3
   repeat' first
   | (with_reducible exact ih0 _ _ _ _ _ _ _)
   | (with_reducible exact ih1 _ _ _ _ _ _)
   | (with_reducible exact ih2 _ _ _ _ _ _ _)
   | (with_reducible exact ih3 _ _ _ _ _ _)
   | (with_reducible exact ih4 _ _ _ _ _ _ _)
   | (with_reducible exact spec_l06Code.mono _ _ _ _)
   | (with_reducible exact spec_l06Within.mono _ _ _ _ _ _ _)
   | (with_reducible exact LeO.refl _)
   | (with_reducible exact LeO.none _)
   | (with_reducible refine LeO.ite ?_ ?_)
   | (with_reducible refine LeO.bind ?_ (fun _ => ?_))
   | exact ih0 _ _ _ _ _ _ _
   | exact ih1 _ _ _ _ _ _
   | exact ih2 _ _ _ _ _ _ _
   | exact ih3 _ _ _ _ _ _
   | exact ih4 _ _ _ _ _ _ _
   | exact spec_l06Code.mono _ _ _ _
   | exact spec_l06Within.mono _ _ _ _ _ _ _
   | exact LeO.none _
   | refine LeO.ite ?_ ?_
   | refine LeO.bind ?_ (fun _ => ?_)
  ·intro y0 y1 y2 y3 y4 y5 y6
   unfold spec_MostWind.l0
   repeat' first
   | (with_reducible exact ih0 _ _ _ _ _ _ _)
   | (with_reducible exact ih1 _ _ _ _ _ _)
   | (with_reducible exact ih2 _ _ _ _ _ _ _)
   | (with_reducible exact ih3 _ _ _ _ _ _)
   | (with_reducible exact ih4 _ _ _ _ _ _ _)
   | (with_reducible exact spec_l06Code.mono _ _ _ _)
   | (with_reducible exact spec_l06Within.mono _ _ _ _ _ _ _)
   | (with_reducible exact LeO.refl _)
   | (with_reducible exact LeO.none _)
   | (with_reducible refine LeO.ite ?_ ?_)
   | (with_reducible refine LeO.bind ?_ (fun _ => ?_))
   | exact ih0 _ _ _ _ _ _ _
   | exact ih1 _ _ _ _ _ _
   | exact ih2 _ _ _ _ _ _ _
   | exact ih3 _ _ _ _ _ _
   | exact ih4 _ _ _ _ _ _ _
   | exact spec_l06Code.mono _ _ _ _
   | exact spec_l06Within.mono _ _ _ _ _ _ _
   | exact LeO.none _
   | refine LeO.ite ?_ ?_
   | refine LeO.bind ?_ (fun _ => ?_)
theorem spec_MostWind.mono : ∀ a0 a1 a2 a3 a4 k, LeO (spec_MostWind.f k a0 a1 a2 a3 a4) (spec_MostWind.f (k + 1) a0 a1 a2 a3 a4) := by
 intro a0 a1 a2 a3 a4 k
 obtain ⟨ih0, ih1, ih2, ih3, ih4⟩ := spec_MostWind.mono_l k
 unfold spec_MostWind.f
 repeat' first
   | (with_reducible exact ih0 _ _ _ _ _ _ _)
   | (with_reducible exact ih1 _ _ _ _ _ _)
   | (with_reducible exact ih2 _ _ _ _ _ _ _)
   | (with_reducible exact ih3 _ _ _ _ _ _)
   | (with_reducible exact ih4 _ _ _ _ _ _ _)
   | (with_reducible exact spec_l06Code.mono _ _ _ _)
   | (with_reducible exact spec_l06Within.mono _ _ _ _ _ _ _)
   | (with_reducible exact LeO.refl _)
   | (with_reducible exact LeO.none _)
   | (with_reducible refine LeO.ite ?_ ?_)
   | (with_reducible refine LeO.bind ?_ (fun _ => ?_))
   | exact ih0 _ _ _ _ _ _ _
   | exact ih1 _ _ _ _ _ _
   | exact ih2 _ _ _ _ _ _ _
   | exact ih3 _ _ _ _ _ _
   | exact ih4 _ _ _ _ _ _ _
   | exact spec_l06Code.mono _ _ _ _
   | exact spec_l06Within.mono _ _ _ _ _ _ _
   | exact LeO.none _
   | refine LeO.ite ?_ ?_
   | refine LeO.bind ?_ (fun _ => ?_)
set_option maxHeartbeats 8000000 in
set_option maxRecDepth 100000 in
theorem spec_MostWind.calls (k : Nat) (a0_0 : Int) (a0_1 : Int) (a0_2 : Int) (a0_3 : Int) (a1 : Int) (r1 : Int) (r2 : Int) (w : World) (h : spec_MostWind.f k a0_0 a0_1 a0_2 a0_3 a1 = some (r1, r2)) :
  Calls Try.prog 11 #[.agg #[.int .i64 a0_0, .int .i64 a0_1, .int .i64 a0_2, .int .i64 a0_3], .int .i64 a1] w fun e w' => e = .returned (.tuple #[.int .i64 r1, .int .i64 r2]) ∧ Below w.heap.size w w' := by
 have hu26 := Try.underlying26
 have HB := Aside0.mk (Below.refl w.heap.size w)
 have H : ((spec_l06Code.f k (([(⟨a0_0, a0_1, a0_2, a0_3⟩ : S26)] : List (S26))) 0 0).bind fun t222 => (if t222 = 0 then ((spec_l01In.f a1 0 100000000).bind fun t223 => (spec_MostWind.j0 k a1 t222 (!t223) a0_0 a0_1 a0_2 a0_3)) else (spec_MostWind.j0 k a1 t222 false a0_0 a0_1 a0_2 a0_3))) = some (r1, r2) := h
 clear h
 obtain ⟨y219, hy219⟩ : ∃ y_ : List (S26), y_ = (([(⟨a0_0, a0_1, a0_2, a0_3⟩ : S26)] : List (S26))) := ⟨_, rfl⟩
 replace H : ((spec_l06Code.f k y219 0 0).bind fun t222 => (if t222 = 0 then ((spec_l01In.f a1 0 100000000).bind fun t223 => (spec_MostWind.j0 k a1 t222 (!t223) a0_0 a0_1 a0_2 a0_3)) else (spec_MostWind.j0 k a1 t222 false a0_0 a0_1 a0_2 a0_3))) = some (r1, r2) := by first | (rw [hy219]; with_reducible exact H) | (have H2_ := (Option.bind_some _ _).symm.trans H; rw [hy219]; with_reducible exact H2_) | (have H2_ := (Option.bind_some _ _).symm.trans H; with_reducible exact H2_) | with_reducible exact H | (rw [hy219]; exact H) | exact H
 have Ny219 := Aside0.mk hy219
 clear hy219
 replace H := Option.bind_eq_some_iff.mp H
 obtain ⟨t222, A30, H⟩ := H
 replace H : (if t222 = 0 then ((spec_l01In.f a1 0 100000000).bind fun t223 => (spec_MostWind.j0 k a1 t222 (!t223) a0_0 a0_1 a0_2 a0_3)) else (spec_MostWind.j0 k a1 t222 false a0_0 a0_1 a0_2 a0_3)) = some (r1, r2) := H
 have A3 := Aside0.mk A30
 clear A30
 have HC4 := Aside0.mk H
 clear H
 go_enter Try.func11, Try.ntmps11
 go_upto_region 2 with (first | ((with_reducible refine gate_dst (N := 2) rfl ?_); refine box_event ?hg (N := 2) ?hd (cs := #[.int .i64 a0_0, .int .i64 a0_1, .int .i64 a0_2, .int .i64 a0_3]) (t := 26) ?hr ?_; (case hd => rfl); (case hg => rfl); (case hr => first | (go_simp; done) | (go_simp; rfl)); intro gb218 hg w5 hbox hb; have n0_ := Aside0.mk (below_step (by repeat (first | (with_reducible first | exact HB.out | apply below_alloc | apply pw_below_drewN | apply below_drew1) | exact HB.out)) hb); have n1_ := Aside0.mk (hbox); have n2_ := Aside0.mk ((by rw [hg]; exact (below_size (by repeat (first | (with_reducible first | exact HB.out | apply below_alloc | apply pw_below_drewN | apply below_drew1) | exact HB.out))) : w.heap.size ≤ gb218)); have n3_ := Aside0.mk ((by rw [hg]; exact (below_size (by repeat (first | (with_reducible first | exact HB.out | apply below_alloc | apply pw_below_drewN | apply below_drew1) | exact HB.out))) : w.heap.size ≤ gb218)); clear HB; have HB := n0_; have BK218 := n1_; have GW218 := n2_; have GE218 := n3_; clear n0_ n1_ n2_ n3_; clear hb hbox hg; have hcz6_0 : w5.cell? ⟨gb218, 0, none⟩ = some (.int .i64 a0_0) := (blk_cell BK218.out 0).trans rfl; have hcz6_1 : w5.cell? ⟨gb218, 1, none⟩ = some (.int .i64 a0_1) := (blk_cell BK218.out 1).trans rfl; have hcz6_2 : w5.cell? ⟨gb218, 2, none⟩ = some (.int .i64 a0_2) := (blk_cell BK218.out 2).trans rfl; have hcz6_3 : w5.cell? ⟨gb218, 3, none⟩ = some (.int .i64 a0_3) := (blk_cell BK218.out 3).trans rfl; have hfz6_0 := blk_frozen BK218.out 0; have hfz6_1 := blk_frozen BK218.out 1; have hfz6_2 := blk_frozen BK218.out 2; have hfz6_3 := blk_frozen BK218.out 3) | ((with_reducible refine gate_dst (N := 11) rfl ?_); refine Kd.R_lit k26 _ 26 ?hg (N := 11) ?hd (xs := ([(⟨a0_0, a0_1, a0_2, a0_3⟩ : S26)] : List (S26))) (inner := [.int .i64 a0_0, .int .i64 a0_1, .int .i64 a0_2, .int .i64 a0_3]) (ok := fun _ => True) (okp := fun _ => True) ?hr ?hp (fun _ hk => hk) trivial (Below.refl _ _) (Nat.le_refl _) (by simp) ?_; (case hd => rfl); (case hg => rfl); (case hr => first | (go_simp; done) | (go_simp; rfl)); (case hp => exact (Reps.c4 (show Kd.M k26 _ _ _ (⟨a0_0, a0_1, a0_2, a0_3⟩ : S26) [.int .i64 a0_0, .int .i64 a0_1, .int .i64 a0_2, .int .i64 a0_3] from (k26_mkM _ _ _ (⟨a0_0, a0_1, a0_2, a0_3⟩ : S26) )) (Reps.none _ _))); intro v220 w7 ho8 hb hg_ hnew_; clear hg_ hnew_; (first | rw [← Ny219.out] at ho8 | (simp only [Int.reduceToNat] at ho8; rw [← Ny219.out] at ho8)); have n0_ := Aside0.mk (Kd.R_lower (Kd.R_newB ho8 (g := gb218) (o := .cells #[.int .i64 a0_0, .int .i64 a0_1, .int .i64 a0_2, .int .i64 a0_3] 26 (0, 0)) (by (with_reducible repeat (first | refine blk_drewN ?_ _ | refine blk_drew ?_ | refine blk_alloc ?_ _)); exact BK218.out)) (below_size (by repeat (first | (with_reducible first | exact HB.out | apply below_alloc | apply pw_below_drewN | apply below_drew1 | refine below_set ?_ GE218.out) | exact HB.out)))); have n1_ := Aside0.mk (blk_below (g := gb218) (o := .cells #[.int .i64 a0_0, .int .i64 a0_1, .int .i64 a0_2, .int .i64 a0_3] 26 (0, 0)) (by (with_reducible repeat (first | refine blk_drewN ?_ _ | refine blk_drew ?_ | refine blk_alloc ?_ _)); exact BK218.out) hb); have n2_ := Aside0.mk (below_step (by repeat (first | (with_reducible first | exact HB.out | apply below_alloc | apply pw_below_drewN | apply below_drew1 | refine below_set ?_ GE218.out) | exact HB.out)) hb); clear BK218; clear HB; have HO221 := n0_; have BK218 := n1_; have HB := n2_; clear n0_ n1_ n2_; clear hb ho8; obtain ⟨Ao9, co9, eo9⟩ := Kd.R_slice HO221.out; subst eo9) | ((with_reducible refine gate_callee (f := 22) rfl ?_); refine goesL_ (some 12) rfl rfl Try.func22 (by kernel_rfl) rfl #[.slice Ao9 y219.length co9, .int .i64 0, .int .i64 0] rfl (by (try simp only [List.map_toArray, List.map_cons, List.map_nil]); first | done | rfl | (simp only [List.length_drop, List.length_take]; rfl)) ?_; (with_reducible refine (spec_l06Code.calls k _ _ y219 0 0 t222 _ ?side1 ?side2 A3.out).mono ?_); (case side1 => repeat (first | exact (Kd.R_reads' HO221.out).2.2 | (with_reducible refine Kd.C_alloc ?_ _) | (with_reducible refine Kd.C_drewN ?_ _) | (with_reducible refine Kd.C_drew ?_))); (case side2 => exact (Kd.R_reads' HO221.out).2.1); rintro e w10 ⟨rfl, hb⟩; refine ⟨_, rfl, ?_⟩; have n0_ := Aside0.mk (Kd.R_below (by (with_reducible repeat (first | apply Kd.R_alloc | apply Kd.R_drewN | apply Kd.R_drew)); exact HO221.out) hb); have n1_ := Aside0.mk (blk_below (g := gb218) (o := .cells #[.int .i64 a0_0, .int .i64 a0_1, .int .i64 a0_2, .int .i64 a0_3] 26 (0, 0)) (by (with_reducible repeat (first | refine blk_drewN ?_ _ | refine blk_drew ?_ | refine blk_alloc ?_ _)); exact BK218.out) hb); have n2_ := Aside0.mk (below_step (by repeat (first | (with_reducible first | exact HB.out | apply below_alloc | apply pw_below_drewN | apply below_drew1 | refine below_set ?_ GE218.out) | exact HB.out)) hb); clear HO221; clear BK218; clear HB; have HO221 := n0_; have BK218 := n1_; have HB := n2_; clear n0_ n1_ n2_; (try clear hb); (try clear hb2); (try clear hk); (try clear hi)))
 (try simp only [Act.put, List.setIfInBounds_toArray, List.set_cons_zero, List.set_cons_succ])
 go_cut [19] (fun v19 wc => ∃ (kq : Nat) (x19_3 : Bool), v19 = .bool x19_3 ∧ Aside0 (spec_MostWind.j0 kq a1 t222 x19_3 a0_0 a0_1 a0_2 a0_3 = some (r1, r2)) ∧ Aside0 (kq ≤ k) ∧ Aside0 (wc.heap[gb218]? = some (.cells #[.int .i64 a0_0, .int .i64 a0_1, .int .i64 a0_2, .int .i64 a0_3] 26 (0, 0))) ∧ Aside0 (Below w.heap.size w wc))
 case first =>
  have H := HC4.out
  clear HC4
  by_cases c11 : t222 = 0
  ·rw [if_pos c11] at H
   have c11b0 : (t222 == 0) = true := beq_iff_eq.mpr c11
   have c11b1 : (t222 != 0) = false := bne_eq_false_iff_eq.mpr c11
   clear c11
   (first | rw [c11b0] | (simp only [i64_w, i32_w]; rw [c11b0]) | skip)
   replace H := Option.bind_eq_some_iff.mp H
   obtain ⟨t223, A120, H⟩ := H
   replace H : (spec_MostWind.j0 k a1 t222 (!t223) a0_0 a0_1 a0_2 a0_3) = some (r1, r2) := H
   have A12 := Aside0.mk A120
   clear A120
   have H' := Aside0.mk H
   clear H
   go_wp2_with (first | (go_at_call 27; (with_reducible refine (spec_l01In.calls a1 0 100000000 t223 _ A12.out).mono ?_); rintro e w' ⟨rfl, ⟨nd, rfl⟩⟩))
   go_meet
   case rel => exact ⟨_, (!t223), (by first | rfl | (simp; done) | (simp [*]; done)), H', ⟨by first | omega | exact Nat.le_refl _⟩, ⟨by (with_reducible repeat (first | refine blk_drewN ?_ _ | refine blk_drew ?_ | refine blk_alloc ?_ _)); exact BK218.out⟩, ⟨by repeat (first | (with_reducible first | exact HB.out | apply below_alloc | apply pw_below_drewN | apply below_drew1 | refine below_set ?_ GE218.out) | exact HB.out)⟩⟩
  ·rw [if_neg c11] at H
   have c11b0 : (t222 == 0) = false := beq_eq_false_iff_ne.mpr c11
   have c11b1 : (t222 != 0) = true := bne_iff_ne.mpr c11
   (first | rw [c11b0] | (simp only [i64_w, i32_w]; rw [c11b0]) | skip)
   have H' := Aside0.mk H
   clear H
   go_wp2
   go_meet
   case rel => exact ⟨_, (false), (by first | rfl | (simp; done) | (simp [*]; done)), H', ⟨by first | omega | exact Nat.le_refl _⟩, ⟨by (with_reducible repeat (first | refine blk_drewN ?_ _ | refine blk_drew ?_ | refine blk_alloc ?_ _)); exact BK218.out⟩, ⟨by repeat (first | (with_reducible first | exact HB.out | apply below_alloc | apply pw_below_drewN | apply below_drew1 | refine below_set ?_ GE218.out) | exact HB.out)⟩⟩
 case rest =>
  clear HC4
  try clear c1
  try clear c2
  try clear p2
  try clear c4
  try clear c11
  try clear c11b0
  try clear c11b1
  try clear hcz6_0
  try clear hcz6_1
  try clear hcz6_2
  try clear hcz6_3
  try clear hfz6_0
  try clear hfz6_1
  try clear hfz6_2
  try clear hfz6_3
  obtain ⟨kq, x19_3, rfl, HA, HJ3, BK218, HB⟩ := hcut
  cases kq with
  | zero => exact absurd HA.out (by simp [spec_MostWind.j0])
  | succ kj3 =>
   have H := HA.out
   clear HA
   simp only [spec_MostWind.j0] at H
   have HC13 := Aside0.mk H
   clear H
   go_upto_if 19 with (fail)
   go_cut [6] (fun v6 wc => ∃ (kq : Nat) (x6_12 : Int), v6 = .int .i64 x6_12 ∧ Aside0 (spec_MostWind.j1 kq a1 x6_12 a0_0 a0_1 a0_2 a0_3 = some (r1, r2)) ∧ Aside0 (kq ≤ kj3) ∧ Aside0 (wc.heap[gb218]? = some (.cells #[.int .i64 a0_0, .int .i64 a0_1, .int .i64 a0_2, .int .i64 a0_3] 26 (0, 0))) ∧ Aside0 (Below w.heap.size w wc))
   case first =>
    have H := HC13.out
    clear HC13
    by_cases c14 : x19_3 = true
    ·subst c14
     have H1 : (spec_MostWind.j1 kj3 a1 2 a0_0 a0_1 a0_2 a0_3) = some (r1, r2) := by rw [if_pos rfl] at H; exact H
     clear H
     have H := H1
     clear H1
     have H' := Aside0.mk H
     clear H
     go_wp2
     go_meet
     case rel => exact ⟨_, (2), (by first | rfl | (simp; done) | (simp [*]; done)), H', ⟨by have := HJ3.out; first | omega | exact Nat.le_refl _⟩, ⟨by (with_reducible repeat (first | refine blk_drewN ?_ _ | refine blk_drew ?_ | refine blk_alloc ?_ _)); exact BK218.out⟩, ⟨by repeat (first | (with_reducible first | exact HB.out | apply below_alloc | apply pw_below_drewN | apply below_drew1 | refine below_set ?_ GE218.out) | exact HB.out)⟩⟩
    ·replace c14 := Bool.eq_false_iff.mpr c14
     subst c14
     have H1 : (spec_MostWind.j1 kj3 a1 t222 a0_0 a0_1 a0_2 a0_3) = some (r1, r2) := by rw [if_neg (show ¬ (false = true) by decide)] at H; exact H
     clear H
     have H := H1
     clear H1
     have H' := Aside0.mk H
     clear H
     go_wp2
     go_meet
     case rel => exact ⟨_, (t222), (by first | rfl | (simp; done) | (simp [*]; done)), H', ⟨by have := HJ3.out; first | omega | exact Nat.le_refl _⟩, ⟨by (with_reducible repeat (first | refine blk_drewN ?_ _ | refine blk_drew ?_ | refine blk_alloc ?_ _)); exact BK218.out⟩, ⟨by repeat (first | (with_reducible first | exact HB.out | apply below_alloc | apply pw_below_drewN | apply below_drew1 | refine below_set ?_ GE218.out) | exact HB.out)⟩⟩
   case rest =>
    clear HC13
    try clear c1
    try clear c2
    try clear p2
    try clear c4
    try clear c11
    try clear c11b0
    try clear c11b1
    try clear c14
    try clear hcz6_0
    try clear hcz6_1
    try clear hcz6_2
    try clear hcz6_3
    try clear hfz6_0
    try clear hfz6_1
    try clear hfz6_2
    try clear hfz6_3
    try clear p2
    obtain ⟨kq, x6_12, rfl, HA, HJ12, BK218, HB⟩ := hcut
    cases kq with
    | zero => exact absurd HA.out (by simp [spec_MostWind.j1])
    | succ kj12 =>
     have H := HA.out
     clear HA
     simp only [spec_MostWind.j1] at H
     have HC15 := Aside0.mk H
     clear H
     go_upto_region 4 with (fail)
     go_cut [27] (fun v27 wc => ∃ (kq : Nat) (x27_14 : Bool), v27 = .bool x27_14 ∧ Aside0 (spec_MostWind.j2 kq a1 x6_12 x27_14 a0_0 a0_1 a0_2 a0_3 = some (r1, r2)) ∧ Aside0 (kq ≤ kj12) ∧ Aside0 (wc.heap[gb218]? = some (.cells #[.int .i64 a0_0, .int .i64 a0_1, .int .i64 a0_2, .int .i64 a0_3] 26 (0, 0))) ∧ Aside0 (Below w.heap.size w wc))
     case first =>
      have H := HC15.out
      clear HC15
      by_cases c16 : x6_12 = 0
      ·rw [if_pos c16] at H
       have c16b0 : (x6_12 == 0) = true := beq_iff_eq.mpr c16
       have c16b1 : (x6_12 != 0) = false := bne_eq_false_iff_eq.mpr c16
       clear c16
       (first | rw [c16b0] | (simp only [i64_w, i32_w]; rw [c16b0]) | skip)
       replace H := Option.bind_eq_some_iff.mp H
       obtain ⟨t224, A170, H⟩ := H
       replace H : (spec_MostWind.j2 kj12 a1 x6_12 (!t224) a0_0 a0_1 a0_2 a0_3) = some (r1, r2) := H
       have A17 := Aside0.mk A170
       clear A170
       have H' := Aside0.mk H
       clear H
       have hcz18_0 : wc.cell? ⟨gb218, 0, none⟩ = some (.int .i64 a0_0) := (blk_cell BK218.out 0).trans rfl
       have hcz18_1 : wc.cell? ⟨gb218, 1, none⟩ = some (.int .i64 a0_1) := (blk_cell BK218.out 1).trans rfl
       have hcz18_2 : wc.cell? ⟨gb218, 2, none⟩ = some (.int .i64 a0_2) := (blk_cell BK218.out 2).trans rfl
       have hcz18_3 : wc.cell? ⟨gb218, 3, none⟩ = some (.int .i64 a0_3) := (blk_cell BK218.out 3).trans rfl
       have hfz18_0 := blk_frozen BK218.out 0
       have hfz18_1 := blk_frozen BK218.out 1
       have hfz18_2 := blk_frozen BK218.out 2
       have hfz18_3 := blk_frozen BK218.out 3
       go_wp2_with (first | (go_at_call 28; (with_reducible refine (spec_l06Within.calls kj12 a0_0 a0_1 a0_2 a0_3 0 a1 t224 _ A17.out).mono ?_); rintro e w19 ⟨rfl, hb⟩; have n0_ := Aside0.mk (blk_below (g := gb218) (o := .cells #[.int .i64 a0_0, .int .i64 a0_1, .int .i64 a0_2, .int .i64 a0_3] 26 (0, 0)) (by (with_reducible repeat (first | refine blk_drewN ?_ _ | refine blk_drew ?_ | refine blk_alloc ?_ _)); exact BK218.out) hb); have n1_ := Aside0.mk (below_step (by repeat (first | (with_reducible first | exact HB.out | apply below_alloc | apply pw_below_drewN | apply below_drew1 | refine below_set ?_ GE218.out) | exact HB.out)) hb); clear BK218; clear HB; have BK218 := n0_; have HB := n1_; clear n0_ n1_; (try clear hb); (try clear hb2); (try clear hk); (try clear hi)))
       go_meet
       case rel => exact ⟨_, (!t224), (by first | rfl | (simp; done) | (simp [*]; done)), H', ⟨by have := HJ3.out; have := HJ12.out; first | omega | exact Nat.le_refl _⟩, ⟨by (with_reducible repeat (first | refine blk_drewN ?_ _ | refine blk_drew ?_ | refine blk_alloc ?_ _)); exact BK218.out⟩, ⟨by repeat (first | (with_reducible first | exact HB.out | apply below_alloc | apply pw_below_drewN | apply below_drew1 | refine below_set ?_ GE218.out) | exact HB.out)⟩⟩
      ·rw [if_neg c16] at H
       have c16b0 : (x6_12 == 0) = false := beq_eq_false_iff_ne.mpr c16
       have c16b1 : (x6_12 != 0) = true := bne_iff_ne.mpr c16
       (first | rw [c16b0] | (simp only [i64_w, i32_w]; rw [c16b0]) | skip)
       have H' := Aside0.mk H
       clear H
       go_wp2
       go_meet
       case rel => exact ⟨_, (false), (by first | rfl | (simp; done) | (simp [*]; done)), H', ⟨by have := HJ3.out; have := HJ12.out; first | omega | exact Nat.le_refl _⟩, ⟨by (with_reducible repeat (first | refine blk_drewN ?_ _ | refine blk_drew ?_ | refine blk_alloc ?_ _)); exact BK218.out⟩, ⟨by repeat (first | (with_reducible first | exact HB.out | apply below_alloc | apply pw_below_drewN | apply below_drew1 | refine below_set ?_ GE218.out) | exact HB.out)⟩⟩
     case rest =>
      clear HC15
      try clear c1
      try clear c2
      try clear p2
      try clear c4
      try clear c11
      try clear c11b0
      try clear c11b1
      try clear c14
      try clear c16
      try clear c16b0
      try clear c16b1
      try clear hcz18_0
      try clear hcz18_1
      try clear hcz18_2
      try clear hcz18_3
      try clear hcz6_0
      try clear hcz6_1
      try clear hcz6_2
      try clear hcz6_3
      try clear hfz18_0
      try clear hfz18_1
      try clear hfz18_2
      try clear hfz18_3
      try clear hfz6_0
      try clear hfz6_1
      try clear hfz6_2
      try clear hfz6_3
      try clear p2
      obtain ⟨kq, x27_14, rfl, HA, HJ14, BK218, HB⟩ := hcut
      cases kq with
      | zero => exact absurd HA.out (by simp [spec_MostWind.j2])
      | succ kj14 =>
       have H := HA.out
       clear HA
       simp only [spec_MostWind.j2] at H
       have HC20 := Aside0.mk H
       clear H
       go_upto_if 27 with (fail)
       go_cut [6] (fun v6 wc => ∃ (kq : Nat) (x6_19 : Int), v6 = .int .i64 x6_19 ∧ Aside0 (spec_MostWind.j3 kq a1 x6_19 a0_0 a0_1 a0_2 a0_3 = some (r1, r2)) ∧ Aside0 (kq ≤ kj14) ∧ Aside0 (wc.heap[gb218]? = some (.cells #[.int .i64 a0_0, .int .i64 a0_1, .int .i64 a0_2, .int .i64 a0_3] 26 (0, 0))) ∧ Aside0 (Below w.heap.size w wc))
       case first =>
        have H := HC20.out
        clear HC20
        by_cases c21 : x27_14 = true
        ·subst c21
         have H1 : (spec_MostWind.j3 kj14 a1 4 a0_0 a0_1 a0_2 a0_3) = some (r1, r2) := by rw [if_pos rfl] at H; exact H
         clear H
         have H := H1
         clear H1
         have H' := Aside0.mk H
         clear H
         go_wp2
         go_meet
         case rel => exact ⟨_, (4), (by first | rfl | (simp; done) | (simp [*]; done)), H', ⟨by have := HJ3.out; have := HJ12.out; have := HJ14.out; first | omega | exact Nat.le_refl _⟩, ⟨by (with_reducible repeat (first | refine blk_drewN ?_ _ | refine blk_drew ?_ | refine blk_alloc ?_ _)); exact BK218.out⟩, ⟨by repeat (first | (with_reducible first | exact HB.out | apply below_alloc | apply pw_below_drewN | apply below_drew1 | refine below_set ?_ GE218.out) | exact HB.out)⟩⟩
        ·replace c21 := Bool.eq_false_iff.mpr c21
         subst c21
         have H1 : (spec_MostWind.j3 kj14 a1 x6_12 a0_0 a0_1 a0_2 a0_3) = some (r1, r2) := by rw [if_neg (show ¬ (false = true) by decide)] at H; exact H
         clear H
         have H := H1
         clear H1
         have H' := Aside0.mk H
         clear H
         go_wp2
         go_meet
         case rel => exact ⟨_, (x6_12), (by first | rfl | (simp; done) | (simp [*]; done)), H', ⟨by have := HJ3.out; have := HJ12.out; have := HJ14.out; first | omega | exact Nat.le_refl _⟩, ⟨by (with_reducible repeat (first | refine blk_drewN ?_ _ | refine blk_drew ?_ | refine blk_alloc ?_ _)); exact BK218.out⟩, ⟨by repeat (first | (with_reducible first | exact HB.out | apply below_alloc | apply pw_below_drewN | apply below_drew1 | refine below_set ?_ GE218.out) | exact HB.out)⟩⟩
       case rest =>
        clear HC20
        try clear c1
        try clear c2
        try clear p2
        try clear c4
        try clear c11
        try clear c11b0
        try clear c11b1
        try clear c14
        try clear c16
        try clear c16b0
        try clear c16b1
        try clear c21
        try clear hcz18_0
        try clear hcz18_1
        try clear hcz18_2
        try clear hcz18_3
        try clear hcz6_0
        try clear hcz6_1
        try clear hcz6_2
        try clear hcz6_3
        try clear hfz18_0
        try clear hfz18_1
        try clear hfz18_2
        try clear hfz18_3
        try clear hfz6_0
        try clear hfz6_1
        try clear hfz6_2
        try clear hfz6_3
        try clear p2
        obtain ⟨kq, x6_19, rfl, HA, HJ19, BK218, HB⟩ := hcut
        cases kq with
        | zero => exact absurd HA.out (by simp [spec_MostWind.j3])
        | succ kj19 =>
         have H := HA.out
         clear HA
         simp only [spec_MostWind.j3] at H
         by_cases c22 : x6_19 = 0
         ·rw [if_pos c22] at H
          have c22b0 : (x6_19 == 0) = true := beq_iff_eq.mpr c22
          have c22b1 : (x6_19 != 0) = false := bne_eq_false_iff_eq.mpr c22
          clear c22
          have H' := Aside0.mk H
          clear H
          go_wp2
          go_loopg [7, 8] kj19 (fun kq v7 v8 w' => ∃ (x7_5 : Int) (x8_5 : Int), v7 = .int .i64 x7_5 ∧ v8 = .int .i64 x8_5 ∧ Aside0 (spec_MostWind.l0 kq a1 x7_5 x8_5 a0_0 a0_1 a0_2 a0_3 = some (r1, r2)) ∧ Aside0 (kq ≤ kj19) ∧ Aside0 (w'.heap[gb218]? = some (.cells #[.int .i64 a0_0, .int .i64 a0_1, .int .i64 a0_2, .int .i64 a0_3] 26 (0, 0))) ∧ Aside0 (Below w.heap.size w w'))
          case atStart => exact ⟨(0), (50001), (by first | rfl | (simp; done) | (simp [*]; done)), (by first | rfl | (simp; done) | (simp [*]; done)), H', ⟨Nat.le_refl _⟩, ⟨by (with_reducible repeat (first | refine blk_drewN ?_ _ | refine blk_drew ?_ | refine blk_alloc ?_ _)); exact BK218.out⟩, ⟨by repeat (first | (with_reducible first | exact HB.out | apply below_alloc | apply pw_below_drewN | apply below_drew1 | refine below_set ?_ GE218.out) | exact HB.out)⟩⟩
          case round =>
           clear H'
           try clear c1
           try clear c2
           try clear p2
           try clear c4
           try clear c11
           try clear c11b0
           try clear c11b1
           try clear c14
           try clear c16
           try clear c16b0
           try clear c16b1
           try clear c21
           try clear c22
           try clear c22b0
           try clear c22b1
           try clear hcz18_0
           try clear hcz18_1
           try clear hcz18_2
           try clear hcz18_3
           try clear hcz6_0
           try clear hcz6_1
           try clear hcz6_2
           try clear hcz6_3
           try clear hfz18_0
           try clear hfz18_1
           try clear hfz18_2
           try clear hfz18_3
           try clear hfz6_0
           try clear hfz6_1
           try clear hfz6_2
           try clear hfz6_3
           try clear p2
           obtain ⟨x7_5, x8_5, rfl, rfl, HA, HK5, BK218, HB⟩ := hrel
           cases gk with
           | zero => exact absurd HA.out (by simp [spec_MostWind.l0])
           | succ k5 =>
            have H := HA.out
            clear HA
            simp only [spec_MostWind.l0] at H
            by_cases c23 : (wrap64 (x7_5 + 1)) < x8_5
            ·rw [if_pos c23] at H
             have c23b0 : decide ((wrap64 (x7_5 + 1)) < x8_5) = true := decide_eq_true c23
             clear c23
             replace H := Option.bind_eq_some_iff.mp H
             obtain ⟨t225, A240, H⟩ := H
             replace H : (if t225 = true then (spec_MostWind.l0 k5 a1 (wrap64 (Int.tdiv (wrap64 (x7_5 + x8_5)) 2)) x8_5 a0_0 a0_1 a0_2 a0_3) else (spec_MostWind.l0 k5 a1 x7_5 (wrap64 (Int.tdiv (wrap64 (x7_5 + x8_5)) 2)) a0_0 a0_1 a0_2 a0_3)) = some (r1, r2) := H
             have A24 := Aside0.mk A240
             clear A240
             by_cases c25 : t225 = true
             ·subst c25
              have H1 : (spec_MostWind.l0 k5 a1 (wrap64 (Int.tdiv (wrap64 (x7_5 + x8_5)) 2)) x8_5 a0_0 a0_1 a0_2 a0_3) = some (r1, r2) := by rw [if_pos rfl] at H; exact H
              clear H
              have H := H1
              clear H1
              have H' := Aside0.mk H
              clear H
              have hcz26_0 : wr.cell? ⟨gb218, 0, none⟩ = some (.int .i64 a0_0) := (blk_cell BK218.out 0).trans rfl
              have hcz26_1 : wr.cell? ⟨gb218, 1, none⟩ = some (.int .i64 a0_1) := (blk_cell BK218.out 1).trans rfl
              have hcz26_2 : wr.cell? ⟨gb218, 2, none⟩ = some (.int .i64 a0_2) := (blk_cell BK218.out 2).trans rfl
              have hcz26_3 : wr.cell? ⟨gb218, 3, none⟩ = some (.int .i64 a0_3) := (blk_cell BK218.out 3).trans rfl
              have hfz26_0 := blk_frozen BK218.out 0
              have hfz26_1 := blk_frozen BK218.out 1
              have hfz26_2 := blk_frozen BK218.out 2
              have hfz26_3 := blk_frozen BK218.out 3
              go_wp2_with (first | ((with_reducible refine gate_callee (f := 28) rfl ?_); refine goesL_ (some 42) rfl rfl Try.func28 (by kernel_rfl) rfl #[.agg #[.int .i64 a0_0, .int .i64 a0_1, .int .i64 a0_2, .int .i64 a0_3], .int .i64 (wrap64 (Int.tdiv (wrap64 (x7_5 + x8_5)) 2)), .int .i64 a1] rfl (by (try simp only [List.map_toArray, List.map_cons, List.map_nil]); first | done | rfl | (simp only [List.length_drop, List.length_take]; rfl)) ?_; (with_reducible refine (spec_l06Within.calls k5 a0_0 a0_1 a0_2 a0_3 (wrap64 (Int.tdiv (wrap64 (x7_5 + x8_5)) 2)) a1 true _ A24.out).mono ?_); rintro e w27 ⟨rfl, hb⟩; refine ⟨_, rfl, ?_⟩; have n0_ := Aside0.mk (blk_below (g := gb218) (o := .cells #[.int .i64 a0_0, .int .i64 a0_1, .int .i64 a0_2, .int .i64 a0_3] 26 (0, 0)) (by (with_reducible repeat (first | refine blk_drewN ?_ _ | refine blk_drew ?_ | refine blk_alloc ?_ _)); exact BK218.out) hb); have n1_ := Aside0.mk (below_step (by repeat (first | (with_reducible first | exact HB.out | apply below_alloc | apply pw_below_drewN | apply below_drew1 | refine below_set ?_ GE218.out) | exact HB.out)) hb); clear BK218; clear HB; have BK218 := n0_; have HB := n1_; clear n0_ n1_; (try clear hb); (try clear hb2); (try clear hk); (try clear hi)))
              go_roundg k5
              case measure => have := HJ3.out; have := HJ12.out; have := HJ14.out; have := HJ19.out; have := HK5.out; omega
              case rel => exact ⟨(wrap64 (Int.tdiv (wrap64 (x7_5 + x8_5)) 2)), (x8_5), (by first | rfl | (simp; done) | (simp [*]; done)), (by first | rfl | (simp; done) | (simp [*]; done)), H', ⟨by have := HJ3.out; have := HJ12.out; have := HJ14.out; have := HJ19.out; have := HK5.out; omega⟩, ⟨by (with_reducible repeat (first | refine blk_drewN ?_ _ | refine blk_drew ?_ | refine blk_alloc ?_ _)); exact BK218.out⟩, ⟨by repeat (first | (with_reducible first | exact HB.out | apply below_alloc | apply pw_below_drewN | apply below_drew1 | refine below_set ?_ GE218.out) | exact HB.out)⟩⟩
             ·replace c25 := Bool.eq_false_iff.mpr c25
              subst c25
              have H1 : (spec_MostWind.l0 k5 a1 x7_5 (wrap64 (Int.tdiv (wrap64 (x7_5 + x8_5)) 2)) a0_0 a0_1 a0_2 a0_3) = some (r1, r2) := by rw [if_neg (show ¬ (false = true) by decide)] at H; exact H
              clear H
              have H := H1
              clear H1
              have H' := Aside0.mk H
              clear H
              have hcz28_0 : wr.cell? ⟨gb218, 0, none⟩ = some (.int .i64 a0_0) := (blk_cell BK218.out 0).trans rfl
              have hcz28_1 : wr.cell? ⟨gb218, 1, none⟩ = some (.int .i64 a0_1) := (blk_cell BK218.out 1).trans rfl
              have hcz28_2 : wr.cell? ⟨gb218, 2, none⟩ = some (.int .i64 a0_2) := (blk_cell BK218.out 2).trans rfl
              have hcz28_3 : wr.cell? ⟨gb218, 3, none⟩ = some (.int .i64 a0_3) := (blk_cell BK218.out 3).trans rfl
              have hfz28_0 := blk_frozen BK218.out 0
              have hfz28_1 := blk_frozen BK218.out 1
              have hfz28_2 := blk_frozen BK218.out 2
              have hfz28_3 := blk_frozen BK218.out 3
              go_wp2_with (first | ((with_reducible refine gate_callee (f := 28) rfl ?_); refine goesL_ (some 42) rfl rfl Try.func28 (by kernel_rfl) rfl #[.agg #[.int .i64 a0_0, .int .i64 a0_1, .int .i64 a0_2, .int .i64 a0_3], .int .i64 (wrap64 (Int.tdiv (wrap64 (x7_5 + x8_5)) 2)), .int .i64 a1] rfl (by (try simp only [List.map_toArray, List.map_cons, List.map_nil]); first | done | rfl | (simp only [List.length_drop, List.length_take]; rfl)) ?_; (with_reducible refine (spec_l06Within.calls k5 a0_0 a0_1 a0_2 a0_3 (wrap64 (Int.tdiv (wrap64 (x7_5 + x8_5)) 2)) a1 false _ A24.out).mono ?_); rintro e w29 ⟨rfl, hb⟩; refine ⟨_, rfl, ?_⟩; have n0_ := Aside0.mk (blk_below (g := gb218) (o := .cells #[.int .i64 a0_0, .int .i64 a0_1, .int .i64 a0_2, .int .i64 a0_3] 26 (0, 0)) (by (with_reducible repeat (first | refine blk_drewN ?_ _ | refine blk_drew ?_ | refine blk_alloc ?_ _)); exact BK218.out) hb); have n1_ := Aside0.mk (below_step (by repeat (first | (with_reducible first | exact HB.out | apply below_alloc | apply pw_below_drewN | apply below_drew1 | refine below_set ?_ GE218.out) | exact HB.out)) hb); clear BK218; clear HB; have BK218 := n0_; have HB := n1_; clear n0_ n1_; (try clear hb); (try clear hb2); (try clear hk); (try clear hi)))
              go_roundg k5
              case measure => have := HJ3.out; have := HJ12.out; have := HJ14.out; have := HJ19.out; have := HK5.out; omega
              case rel => exact ⟨(x7_5), (wrap64 (Int.tdiv (wrap64 (x7_5 + x8_5)) 2)), (by first | rfl | (simp; done) | (simp [*]; done)), (by first | rfl | (simp; done) | (simp [*]; done)), H', ⟨by have := HJ3.out; have := HJ12.out; have := HJ14.out; have := HJ19.out; have := HK5.out; omega⟩, ⟨by (with_reducible repeat (first | refine blk_drewN ?_ _ | refine blk_drew ?_ | refine blk_alloc ?_ _)); exact BK218.out⟩, ⟨by repeat (first | (with_reducible first | exact HB.out | apply below_alloc | apply pw_below_drewN | apply below_drew1 | refine below_set ?_ GE218.out) | exact HB.out)⟩⟩
            ·rw [if_neg c23] at H
             have c23b0 : decide ((wrap64 (x7_5 + 1)) < x8_5) = false := decide_eq_false c23
             clear c23
             simp only [Option.some.injEq, Prod.mk.injEq] at H
             obtain ⟨rfl, rfl⟩ := H
             go_wp2
             go_ret2
             exact ⟨by first | rfl | (simp [errW_none, errW_some] <;> rfl) | (simp [*, errW_none, errW_some] <;> rfl), by repeat (first | (with_reducible first | exact HB.out | apply below_alloc | apply pw_below_drewN | apply below_drew1 | refine below_set ?_ GE218.out) | exact HB.out)⟩
         ·rw [if_neg c22] at H
          have c22b0 : (x6_19 == 0) = false := beq_eq_false_iff_ne.mpr c22
          have c22b1 : (x6_19 != 0) = true := bne_iff_ne.mpr c22
          simp only [Option.some.injEq, Prod.mk.injEq] at H
          obtain ⟨rfl, rfl⟩ := H
          go_wp2
          go_ret2
          exact ⟨by first | rfl | (simp [errW_none, errW_some] <;> rfl) | (simp [*, errW_none, errW_some] <;> rfl), by repeat (first | (with_reducible first | exact HB.out | apply below_alloc | apply pw_below_drewN | apply below_drew1 | refine below_set ?_ GE218.out) | exact HB.out)⟩
end Go.Proofs.Ytemkongfmceedaa.F
namespace Go.Proofs.Ytemkongfmceedaa.F
open Go.RowKit Go.Proofs.YtemkongfmceedaaW.PrintWords Go.Proofs.YtemkongfmceedaaW.PrintLast Go.Proofs.YtemkongfmceedaaW.PrintMore
attribute [local go_sem] max2_int min2_int max_two min_two max_three min_three max_four min_four   -- for this text's walks alone
set_option linter.unusedVariables false
set_option linter.unusedSimpArgs false
def impl_within.f (a0 : Int) (a1 : Int) (a2 : Int) : Option (Bool) := if a1 ≤ a0 then (some (decide (a0 ≤ a2))) else (some false)
set_option maxHeartbeats 8000000 in
set_option maxRecDepth 100000 in
theorem impl_within.calls (a0 : Int) (a1 : Int) (a2 : Int) (r : Bool) (w : World) (h : impl_within.f a0 a1 a2 = some r) :
  Calls Try.prog 29 #[.int .i64 a0, .int .i64 a1, .int .i64 a2] w fun e w' => e = .returned (.bool r) ∧ Drawn0 w w' := by
 have H : (if a1 ≤ a0 then (some (decide (a0 ≤ a2))) else (some false)) = some r := h
 clear h
 by_cases c4 : a1 ≤ a0
 ·rw [if_pos c4] at H
  have c4b0 : decide (a1 ≤ a0) = true := decide_eq_true c4
  clear c4
  obtain rfl := Option.some.inj H
  go_enter Try.func29, Try.ntmps29
  go_wp2
  go_ret
  exact ⟨by first | rfl | (simp; done) | (simp [*]; done), by repeat (first | exact Drawn0.refl _ | apply Drawn0.step)⟩
 ·rw [if_neg c4] at H
  have c4b0 : decide (a1 ≤ a0) = false := decide_eq_false c4
  clear c4
  obtain rfl := Option.some.inj H
  go_enter Try.func29, Try.ntmps29
  go_wp2
  go_ret
  exact ⟨by first | rfl | (simp; done) | (simp [*]; done), by repeat (first | exact Drawn0.refl _ | apply Drawn0.step)⟩
end Go.Proofs.Ytemkongfmceedaa.F
namespace Go.Proofs.Ytemkongfmceedaa.F
open Go.RowKit Go.Proofs.YtemkongfmceedaaW.PrintWords Go.Proofs.YtemkongfmceedaaW.PrintLast Go.Proofs.YtemkongfmceedaaW.PrintMore
attribute [local go_sem] max2_int min2_int max_two min_two max_three min_three max_four min_four   -- for this text's walks alone
set_option linter.unusedVariables false
set_option linter.unusedSimpArgs false
def impl_isUp.f (a0 : Int) : Option (Bool) := (impl_within.f a0 0 200000).bind fun t158 => (some t158)
set_option maxHeartbeats 8000000 in
set_option maxRecDepth 100000 in
theorem impl_isUp.calls (a0 : Int) (r : Bool) (w : World) (h : impl_isUp.f a0 = some r) :
  Calls Try.prog 40 #[.int .i64 a0] w fun e w' => e = .returned (.bool r) ∧ Drawn0 w w' := by
 have H : ((impl_within.f a0 0 200000).bind fun t158 => (some t158)) = some r := h
 clear h
 replace H := Option.bind_eq_some_iff.mp H
 obtain ⟨t158, A20, H⟩ := H
 replace H : (some t158) = some r := H
 have A2 := Aside0.mk A20
 clear A20
 obtain rfl := Option.some.inj H
 go_enter Try.func40, Try.ntmps40
 go_wp2_with (first | ((with_reducible refine gate_callee (f := 29) rfl ?_); refine goesL_ (some 4) rfl rfl Try.func29 (by kernel_rfl) rfl #[.int .i64 a0, .int .i64 0, .int .i64 200000] rfl (by (try simp only [List.map_toArray, List.map_cons, List.map_nil]); first | done | rfl | (simp only [List.length_drop, List.length_take]; rfl)) ?_; (with_reducible refine (impl_within.calls a0 0 200000 t158 _ A2.out).mono ?_); rintro e w' ⟨rfl, ⟨nd, rfl⟩⟩; refine ⟨_, rfl, ?_⟩))
 go_ret
 exact ⟨by first | rfl | (simp; done) | (simp [*]; done), by repeat (first | exact Drawn0.refl _ | apply Drawn0.step)⟩
end Go.Proofs.Ytemkongfmceedaa.F
namespace Go.Proofs.Ytemkongfmceedaa.F
open Go.RowKit Go.Proofs.YtemkongfmceedaaW.PrintWords Go.Proofs.YtemkongfmceedaaW.PrintLast Go.Proofs.YtemkongfmceedaaW.PrintMore
attribute [local go_sem] max2_int min2_int max_two min_two max_three min_three max_four min_four   -- for this text's walks alone
set_option linter.unusedVariables false
set_option linter.unusedSimpArgs false
def impl_isSide.f (a0 : Int) : Option (Bool) := (impl_within.f a0 (-50000) 50000).bind fun t159 => (some t159)
set_option maxHeartbeats 8000000 in
set_option maxRecDepth 100000 in
theorem impl_isSide.calls (a0 : Int) (r : Bool) (w : World) (h : impl_isSide.f a0 = some r) :
  Calls Try.prog 41 #[.int .i64 a0] w fun e w' => e = .returned (.bool r) ∧ Drawn0 w w' := by
 have H : ((impl_within.f a0 (-50000) 50000).bind fun t159 => (some t159)) = some r := h
 clear h
 replace H := Option.bind_eq_some_iff.mp H
 obtain ⟨t159, A20, H⟩ := H
 replace H : (some t159) = some r := H
 have A2 := Aside0.mk A20
 clear A20
 obtain rfl := Option.some.inj H
 go_enter Try.func41, Try.ntmps41
 go_wp2_with (first | ((with_reducible refine gate_callee (f := 29) rfl ?_); refine goesL_ (some 4) rfl rfl Try.func29 (by kernel_rfl) rfl #[.int .i64 a0, .int .i64 (-50000), .int .i64 50000] rfl (by (try simp only [List.map_toArray, List.map_cons, List.map_nil]); first | done | rfl | (simp only [List.length_drop, List.length_take]; rfl)) ?_; (with_reducible refine (impl_within.calls a0 (-50000) 50000 t159 _ A2.out).mono ?_); rintro e w' ⟨rfl, ⟨nd, rfl⟩⟩; refine ⟨_, rfl, ?_⟩))
 go_ret
 exact ⟨by first | rfl | (simp; done) | (simp [*]; done), by repeat (first | exact Drawn0.refl _ | apply Drawn0.step)⟩
end Go.Proofs.Ytemkongfmceedaa.F
namespace Go.Proofs.Ytemkongfmceedaa.F
open Go.RowKit Go.Proofs.YtemkongfmceedaaW.PrintWords Go.Proofs.YtemkongfmceedaaW.PrintLast Go.Proofs.YtemkongfmceedaaW.PrintMore
attribute [local go_sem] max2_int min2_int max_two min_two max_three min_three max_four min_four   -- for this text's walks alone
set_option linter.unusedVariables false
set_option linter.unusedSimpArgs false
def impl_IsShot.f (a0_0 : Int) (a0_1 : Int) (a0_2 : Int) (a0_3 : Int) : Option (Bool) := (impl_isUp.f a0_0).bind fun t161 => (if t161 = true then ((impl_isSide.f a0_1).bind fun t162 => (if t162 = true then ((impl_within.f a0_2 100 10000).bind fun t163 => (if t163 = true then ((impl_within.f a0_3 0 200000).bind fun t164 => (some t164)) else (some false))) else (some false))) else (some false))
set_option maxHeartbeats 8000000 in
set_option maxRecDepth 100000 in
theorem impl_IsShot.calls (a0_0 : Int) (a0_1 : Int) (a0_2 : Int) (a0_3 : Int) (r : Bool) (w : World) (h : impl_IsShot.f a0_0 a0_1 a0_2 a0_3 = some r) :
  Calls Try.prog 24 #[.agg #[.int .i64 a0_0, .int .i64 a0_1, .int .i64 a0_2, .int .i64 a0_3]] w fun e w' => e = .returned (.bool r) ∧ Below w.heap.size w w' := by
 have hu26 := Try.underlying26
 have HB := Aside0.mk (Below.refl w.heap.size w)
 have H : ((impl_isUp.f a0_0).bind fun t161 => (if t161 = true then ((impl_isSide.f a0_1).bind fun t162 => (if t162 = true then ((impl_within.f a0_2 100 10000).bind fun t163 => (if t163 = true then ((impl_within.f a0_3 0 200000).bind fun t164 => (some t164)) else (some false))) else (some false))) else (some false))) = some r := h
 clear h
 replace H := Option.bind_eq_some_iff.mp H
 obtain ⟨t161, A20, H⟩ := H
 replace H : (if t161 = true then ((impl_isSide.f a0_1).bind fun t162 => (if t162 = true then ((impl_within.f a0_2 100 10000).bind fun t163 => (if t163 = true then ((impl_within.f a0_3 0 200000).bind fun t164 => (some t164)) else (some false))) else (some false))) else (some false)) = some r := H
 have A2 := Aside0.mk A20
 clear A20
 by_cases c3 : t161 = true
 ·subst c3
  have H1 : ((impl_isSide.f a0_1).bind fun t162 => (if t162 = true then ((impl_within.f a0_2 100 10000).bind fun t163 => (if t163 = true then ((impl_within.f a0_3 0 200000).bind fun t164 => (some t164)) else (some false))) else (some false))) = some r := by rw [if_pos rfl] at H; exact H
  clear H
  have H := H1
  clear H1
  replace H := Option.bind_eq_some_iff.mp H
  obtain ⟨t162, A40, H⟩ := H
  replace H : (if t162 = true then ((impl_within.f a0_2 100 10000).bind fun t163 => (if t163 = true then ((impl_within.f a0_3 0 200000).bind fun t164 => (some t164)) else (some false))) else (some false)) = some r := H
  have A4 := Aside0.mk A40
  clear A40
  by_cases c5 : t162 = true
  ·subst c5
   have H1 : ((impl_within.f a0_2 100 10000).bind fun t163 => (if t163 = true then ((impl_within.f a0_3 0 200000).bind fun t164 => (some t164)) else (some false))) = some r := by rw [if_pos rfl] at H; exact H
   clear H
   have H := H1
   clear H1
   replace H := Option.bind_eq_some_iff.mp H
   obtain ⟨t163, A60, H⟩ := H
   replace H : (if t163 = true then ((impl_within.f a0_3 0 200000).bind fun t164 => (some t164)) else (some false)) = some r := H
   have A6 := Aside0.mk A60
   clear A60
   by_cases c7 : t163 = true
   ·subst c7
    have H1 : ((impl_within.f a0_3 0 200000).bind fun t164 => (some t164)) = some r := by rw [if_pos rfl] at H; exact H
    clear H
    have H := H1
    clear H1
    replace H := Option.bind_eq_some_iff.mp H
    obtain ⟨t164, A80, H⟩ := H
    replace H : (some t164) = some r := H
    have A8 := Aside0.mk A80
    clear A80
    obtain rfl := Option.some.inj H
    go_enter Try.func24, Try.ntmps24
    go_wp2_with (first | ((with_reducible refine gate_dst (N := 1) rfl ?_); refine box_event ?hg (N := 1) ?hd (cs := #[.int .i64 a0_0, .int .i64 a0_1, .int .i64 a0_2, .int .i64 a0_3]) (t := 26) ?hr ?_; (case hd => rfl); (case hg => rfl); (case hr => first | (go_simp; done) | (go_simp; rfl)); intro gb160 hg w9 hbox hb; have n0_ := Aside0.mk (below_step (by repeat (first | (with_reducible first | exact HB.out | apply below_alloc | apply pw_below_drewN | apply below_drew1) | exact HB.out)) hb); have n1_ := Aside0.mk (hbox); have n2_ := Aside0.mk ((by rw [hg]; exact (below_size (by repeat (first | (with_reducible first | exact HB.out | apply below_alloc | apply pw_below_drewN | apply below_drew1) | exact HB.out))) : w.heap.size ≤ gb160)); have n3_ := Aside0.mk ((by rw [hg]; exact (below_size (by repeat (first | (with_reducible first | exact HB.out | apply below_alloc | apply pw_below_drewN | apply below_drew1) | exact HB.out))) : w.heap.size ≤ gb160)); clear HB; have HB := n0_; have BK160 := n1_; have GW160 := n2_; have GE160 := n3_; clear n0_ n1_ n2_ n3_; clear hb hbox hg; have hcz10_0 : w9.cell? ⟨gb160, 0, none⟩ = some (.int .i64 a0_0) := (blk_cell BK160.out 0).trans rfl; have hcz10_1 : w9.cell? ⟨gb160, 1, none⟩ = some (.int .i64 a0_1) := (blk_cell BK160.out 1).trans rfl; have hcz10_2 : w9.cell? ⟨gb160, 2, none⟩ = some (.int .i64 a0_2) := (blk_cell BK160.out 2).trans rfl; have hcz10_3 : w9.cell? ⟨gb160, 3, none⟩ = some (.int .i64 a0_3) := (blk_cell BK160.out 3).trans rfl; have hfz10_0 := blk_frozen BK160.out 0; have hfz10_1 := blk_frozen BK160.out 1; have hfz10_2 := blk_frozen BK160.out 2; have hfz10_3 := blk_frozen BK160.out 3) | ((with_reducible refine gate_callee (f := 40) rfl ?_); refine goesL_ (some 5) rfl rfl Try.func40 (by kernel_rfl) rfl #[.int .i64 a0_0] rfl (by (try simp only [List.map_toArray, List.map_cons, List.map_nil]); first | done | rfl | (simp only [List.length_drop, List.length_take]; rfl)) ?_; (with_reducible refine (impl_isUp.calls a0_0 true _ A2.out).mono ?_); rintro e w' ⟨rfl, ⟨nd, rfl⟩⟩; refine ⟨_, rfl, ?_⟩) | (go_at_call 41; (with_reducible refine (impl_isSide.calls a0_1 true _ A4.out).mono ?_); rintro e w' ⟨rfl, ⟨nd, rfl⟩⟩) | (go_at_call 29; (with_reducible refine (impl_within.calls a0_2 100 10000 true _ A6.out).mono ?_); rintro e w' ⟨rfl, ⟨nd, rfl⟩⟩) | (go_at_call 29; (with_reducible refine (impl_within.calls a0_3 0 200000 t164 _ A8.out).mono ?_); rintro e w' ⟨rfl, ⟨nd, rfl⟩⟩))
    go_ret
    exact ⟨by first | rfl | (simp [errW_none, errW_some] <;> rfl) | (simp [*, errW_none, errW_some] <;> rfl), by repeat (first | (with_reducible first | exact HB.out | apply below_alloc | apply pw_below_drewN | apply below_drew1 | refine below_set ?_ GE160.out) | exact HB.out)⟩
   ·replace c7 := Bool.eq_false_iff.mpr c7
    subst c7
    have H1 : (some false) = some r := by rw [if_neg (show ¬ (false = true) by decide)] at H; exact H
    clear H
    have H := H1
    clear H1
    obtain rfl := Option.some.inj H
    go_enter Try.func24, Try.ntmps24
    go_wp2_with (first | ((with_reducible refine gate_dst (N := 1) rfl ?_); refine box_event ?hg (N := 1) ?hd (cs := #[.int .i64 a0_0, .int .i64 a0_1, .int .i64 a0_2, .int .i64 a0_3]) (t := 26) ?hr ?_; (case hd => rfl); (case hg => rfl); (case hr => first | (go_simp; done) | (go_simp; rfl)); intro gb160 hg w11 hbox hb; have n0_ := Aside0.mk (below_step (by repeat (first | (with_reducible first | exact HB.out | apply below_alloc | apply pw_below_drewN | apply below_drew1) | exact HB.out)) hb); have n1_ := Aside0.mk (hbox); have n2_ := Aside0.mk ((by rw [hg]; exact (below_size (by repeat (first | (with_reducible first | exact HB.out | apply below_alloc | apply pw_below_drewN | apply below_drew1) | exact HB.out))) : w.heap.size ≤ gb160)); have n3_ := Aside0.mk ((by rw [hg]; exact (below_size (by repeat (first | (with_reducible first | exact HB.out | apply below_alloc | apply pw_below_drewN | apply below_drew1) | exact HB.out))) : w.heap.size ≤ gb160)); clear HB; have HB := n0_; have BK160 := n1_; have GW160 := n2_; have GE160 := n3_; clear n0_ n1_ n2_ n3_; clear hb hbox hg; have hcz12_0 : w11.cell? ⟨gb160, 0, none⟩ = some (.int .i64 a0_0) := (blk_cell BK160.out 0).trans rfl; have hcz12_1 : w11.cell? ⟨gb160, 1, none⟩ = some (.int .i64 a0_1) := (blk_cell BK160.out 1).trans rfl; have hcz12_2 : w11.cell? ⟨gb160, 2, none⟩ = some (.int .i64 a0_2) := (blk_cell BK160.out 2).trans rfl; have hcz12_3 : w11.cell? ⟨gb160, 3, none⟩ = some (.int .i64 a0_3) := (blk_cell BK160.out 3).trans rfl; have hfz12_0 := blk_frozen BK160.out 0; have hfz12_1 := blk_frozen BK160.out 1; have hfz12_2 := blk_frozen BK160.out 2; have hfz12_3 := blk_frozen BK160.out 3) | ((with_reducible refine gate_callee (f := 40) rfl ?_); refine goesL_ (some 5) rfl rfl Try.func40 (by kernel_rfl) rfl #[.int .i64 a0_0] rfl (by (try simp only [List.map_toArray, List.map_cons, List.map_nil]); first | done | rfl | (simp only [List.length_drop, List.length_take]; rfl)) ?_; (with_reducible refine (impl_isUp.calls a0_0 true _ A2.out).mono ?_); rintro e w' ⟨rfl, ⟨nd, rfl⟩⟩; refine ⟨_, rfl, ?_⟩) | (go_at_call 41; (with_reducible refine (impl_isSide.calls a0_1 true _ A4.out).mono ?_); rintro e w' ⟨rfl, ⟨nd, rfl⟩⟩) | (go_at_call 29; (with_reducible refine (impl_within.calls a0_2 100 10000 false _ A6.out).mono ?_); rintro e w' ⟨rfl, ⟨nd, rfl⟩⟩))
    go_ret
    exact ⟨by first | rfl | (simp [errW_none, errW_some] <;> rfl) | (simp [*, errW_none, errW_some] <;> rfl), by repeat (first | (with_reducible first | exact HB.out | apply below_alloc | apply pw_below_drewN | apply below_drew1 | refine below_set ?_ GE160.out) | exact HB.out)⟩
  ·replace c5 := Bool.eq_false_iff.mpr c5
   subst c5
   have H1 : (some false) = some r := by rw [if_neg (show ¬ (false = true) by decide)] at H; exact H
   clear H
   have H := H1
   clear H1
   obtain rfl := Option.some.inj H
   go_enter Try.func24, Try.ntmps24
   go_wp2_with (first | ((with_reducible refine gate_dst (N := 1) rfl ?_); refine box_event ?hg (N := 1) ?hd (cs := #[.int .i64 a0_0, .int .i64 a0_1, .int .i64 a0_2, .int .i64 a0_3]) (t := 26) ?hr ?_; (case hd => rfl); (case hg => rfl); (case hr => first | (go_simp; done) | (go_simp; rfl)); intro gb160 hg w13 hbox hb; have n0_ := Aside0.mk (below_step (by repeat (first | (with_reducible first | exact HB.out | apply below_alloc | apply pw_below_drewN | apply below_drew1) | exact HB.out)) hb); have n1_ := Aside0.mk (hbox); have n2_ := Aside0.mk ((by rw [hg]; exact (below_size (by repeat (first | (with_reducible first | exact HB.out | apply below_alloc | apply pw_below_drewN | apply below_drew1) | exact HB.out))) : w.heap.size ≤ gb160)); have n3_ := Aside0.mk ((by rw [hg]; exact (below_size (by repeat (first | (with_reducible first | exact HB.out | apply below_alloc | apply pw_below_drewN | apply below_drew1) | exact HB.out))) : w.heap.size ≤ gb160)); clear HB; have HB := n0_; have BK160 := n1_; have GW160 := n2_; have GE160 := n3_; clear n0_ n1_ n2_ n3_; clear hb hbox hg; have hcz14_0 : w13.cell? ⟨gb160, 0, none⟩ = some (.int .i64 a0_0) := (blk_cell BK160.out 0).trans rfl; have hcz14_1 : w13.cell? ⟨gb160, 1, none⟩ = some (.int .i64 a0_1) := (blk_cell BK160.out 1).trans rfl; have hcz14_2 : w13.cell? ⟨gb160, 2, none⟩ = some (.int .i64 a0_2) := (blk_cell BK160.out 2).trans rfl; have hcz14_3 : w13.cell? ⟨gb160, 3, none⟩ = some (.int .i64 a0_3) := (blk_cell BK160.out 3).trans rfl; have hfz14_0 := blk_frozen BK160.out 0; have hfz14_1 := blk_frozen BK160.out 1; have hfz14_2 := blk_frozen BK160.out 2; have hfz14_3 := blk_frozen BK160.out 3) | ((with_reducible refine gate_callee (f := 40) rfl ?_); refine goesL_ (some 5) rfl rfl Try.func40 (by kernel_rfl) rfl #[.int .i64 a0_0] rfl (by (try simp only [List.map_toArray, List.map_cons, List.map_nil]); first | done | rfl | (simp only [List.length_drop, List.length_take]; rfl)) ?_; (with_reducible refine (impl_isUp.calls a0_0 true _ A2.out).mono ?_); rintro e w' ⟨rfl, ⟨nd, rfl⟩⟩; refine ⟨_, rfl, ?_⟩) | (go_at_call 41; (with_reducible refine (impl_isSide.calls a0_1 false _ A4.out).mono ?_); rintro e w' ⟨rfl, ⟨nd, rfl⟩⟩))
   go_ret
   exact ⟨by first | rfl | (simp [errW_none, errW_some] <;> rfl) | (simp [*, errW_none, errW_some] <;> rfl), by repeat (first | (with_reducible first | exact HB.out | apply below_alloc | apply pw_below_drewN | apply below_drew1 | refine below_set ?_ GE160.out) | exact HB.out)⟩
 ·replace c3 := Bool.eq_false_iff.mpr c3
  subst c3
  have H1 : (some false) = some r := by rw [if_neg (show ¬ (false = true) by decide)] at H; exact H
  clear H
  have H := H1
  clear H1
  obtain rfl := Option.some.inj H
  go_enter Try.func24, Try.ntmps24
  go_wp2_with (first | ((with_reducible refine gate_dst (N := 1) rfl ?_); refine box_event ?hg (N := 1) ?hd (cs := #[.int .i64 a0_0, .int .i64 a0_1, .int .i64 a0_2, .int .i64 a0_3]) (t := 26) ?hr ?_; (case hd => rfl); (case hg => rfl); (case hr => first | (go_simp; done) | (go_simp; rfl)); intro gb160 hg w15 hbox hb; have n0_ := Aside0.mk (below_step (by repeat (first | (with_reducible first | exact HB.out | apply below_alloc | apply pw_below_drewN | apply below_drew1) | exact HB.out)) hb); have n1_ := Aside0.mk (hbox); have n2_ := Aside0.mk ((by rw [hg]; exact (below_size (by repeat (first | (with_reducible first | exact HB.out | apply below_alloc | apply pw_below_drewN | apply below_drew1) | exact HB.out))) : w.heap.size ≤ gb160)); have n3_ := Aside0.mk ((by rw [hg]; exact (below_size (by repeat (first | (with_reducible first | exact HB.out | apply below_alloc | apply pw_below_drewN | apply below_drew1) | exact HB.out))) : w.heap.size ≤ gb160)); clear HB; have HB := n0_; have BK160 := n1_; have GW160 := n2_; have GE160 := n3_; clear n0_ n1_ n2_ n3_; clear hb hbox hg; have hcz16_0 : w15.cell? ⟨gb160, 0, none⟩ = some (.int .i64 a0_0) := (blk_cell BK160.out 0).trans rfl; have hcz16_1 : w15.cell? ⟨gb160, 1, none⟩ = some (.int .i64 a0_1) := (blk_cell BK160.out 1).trans rfl; have hcz16_2 : w15.cell? ⟨gb160, 2, none⟩ = some (.int .i64 a0_2) := (blk_cell BK160.out 2).trans rfl; have hcz16_3 : w15.cell? ⟨gb160, 3, none⟩ = some (.int .i64 a0_3) := (blk_cell BK160.out 3).trans rfl; have hfz16_0 := blk_frozen BK160.out 0; have hfz16_1 := blk_frozen BK160.out 1; have hfz16_2 := blk_frozen BK160.out 2; have hfz16_3 := blk_frozen BK160.out 3) | ((with_reducible refine gate_callee (f := 40) rfl ?_); refine goesL_ (some 5) rfl rfl Try.func40 (by kernel_rfl) rfl #[.int .i64 a0_0] rfl (by (try simp only [List.map_toArray, List.map_cons, List.map_nil]); first | done | rfl | (simp only [List.length_drop, List.length_take]; rfl)) ?_; (with_reducible refine (impl_isUp.calls a0_0 false _ A2.out).mono ?_); rintro e w' ⟨rfl, ⟨nd, rfl⟩⟩; refine ⟨_, rfl, ?_⟩))
  go_ret
  exact ⟨by first | rfl | (simp [errW_none, errW_some] <;> rfl) | (simp [*, errW_none, errW_some] <;> rfl), by repeat (first | (with_reducible first | exact HB.out | apply below_alloc | apply pw_below_drewN | apply below_drew1 | refine below_set ?_ GE160.out) | exact HB.out)⟩
end Go.Proofs.Ytemkongfmceedaa.F
namespace Go.Proofs.Ytemkongfmceedaa.F
open Go.RowKit Go.Proofs.YtemkongfmceedaaW.PrintWords Go.Proofs.YtemkongfmceedaaW.PrintLast Go.Proofs.YtemkongfmceedaaW.PrintMore
attribute [local go_sem] max2_int min2_int max_two min_two max_three min_three max_four min_four   -- for this text's walks alone
set_option linter.unusedVariables false
set_option linter.unusedSimpArgs false
def impl_floorDiv.f (a0 : Int) (a1 : Int) : Option (Int) := if a1 = 0 then (none) else (if (Int.tmod a0 a1) < 0 then (some (wrap64 ((wrap64 (Int.tdiv a0 a1)) - 1))) else (some (wrap64 (Int.tdiv a0 a1))))
set_option maxHeartbeats 8000000 in
set_option maxRecDepth 100000 in
theorem impl_floorDiv.calls (a0 : Int) (a1 : Int) (r : Int) (w : World) (h : impl_floorDiv.f a0 a1 = some r) :
  Calls Try.prog 30 #[.int .i64 a0, .int .i64 a1] w fun e w' => e = .returned (.int .i64 r) ∧ Drawn0 w w' := by
 have H : (if a1 = 0 then (none) else (if (Int.tmod a0 a1) < 0 then (some (wrap64 ((wrap64 (Int.tdiv a0 a1)) - 1))) else (some (wrap64 (Int.tdiv a0 a1))))) = some r := h
 clear h
 by_cases c3 : a1 = 0
 ·rw [if_pos c3] at H
  exact absurd H (by simp)
 ·rw [if_neg c3] at H
  have c3b0 : (a1 == 0) = false := beq_eq_false_iff_ne.mpr c3
  have c3b1 : (a1 != 0) = true := bne_iff_ne.mpr c3
  by_cases c4 : (Int.tmod a0 a1) < 0
  ·rw [if_pos c4] at H
   have c4b0 : decide ((Int.tmod a0 a1) < 0) = true := decide_eq_true c4
   clear c4
   obtain rfl := Option.some.inj H
   go_enter Try.func30, Try.ntmps30
   go_wp2
   go_ret
   exact ⟨by first | rfl | (simp; done) | (simp [*]; done), by repeat (first | exact Drawn0.refl _ | apply Drawn0.step)⟩
  ·rw [if_neg c4] at H
   have c4b0 : decide ((Int.tmod a0 a1) < 0) = false := decide_eq_false c4
   clear c4
   obtain rfl := Option.some.inj H
   go_enter Try.func30, Try.ntmps30
   go_wp2
   go_ret
   exact ⟨by first | rfl | (simp; done) | (simp [*]; done), by repeat (first | exact Drawn0.refl _ | apply Drawn0.step)⟩
end Go.Proofs.Ytemkongfmceedaa.F
namespace Go.Proofs.Ytemkongfmceedaa.F
open Go.RowKit Go.Proofs.YtemkongfmceedaaW.PrintWords Go.Proofs.YtemkongfmceedaaW.PrintLast Go.Proofs.YtemkongfmceedaaW.PrintMore
attribute [local go_sem] max2_int min2_int max_two min_two max_three min_three max_four min_four   -- for this text's walks alone
set_option linter.unusedVariables false
set_option linter.unusedSimpArgs false
def impl_driftAt.f (a0 : Int) (a1 : Int) (a2 : Int) : Option (Int) := (impl_floorDiv.f (wrap64 ((wrap64 (a0 + a1)) * a2)) 1000).bind fun t167 => (some t167)
set_option maxHeartbeats 8000000 in
set_option maxRecDepth 100000 in
theorem impl_driftAt.calls (a0 : Int) (a1 : Int) (a2 : Int) (r : Int) (w : World) (h : impl_driftAt.f a0 a1 a2 = some r) :
  Calls Try.prog 44 #[.int .i64 a0, .int .i64 a1, .int .i64 a2] w fun e w' => e = .returned (.int .i64 r) ∧ Drawn0 w w' := by
 have H : ((impl_floorDiv.f (wrap64 ((wrap64 (a0 + a1)) * a2)) 1000).bind fun t167 => (some t167)) = some r := h
 clear h
 replace H := Option.bind_eq_some_iff.mp H
 obtain ⟨t167, A40, H⟩ := H
 replace H : (some t167) = some r := H
 have A4 := Aside0.mk A40
 clear A40
 obtain rfl := Option.some.inj H
 go_enter Try.func44, Try.ntmps44
 go_wp2_with (first | ((with_reducible refine gate_callee (f := 30) rfl ?_); refine goesL_ (some 12) rfl rfl Try.func30 (by kernel_rfl) rfl #[.int .i64 (wrap64 ((wrap64 (a0 + a1)) * a2)), .int .i64 1000] rfl (by (try simp only [List.map_toArray, List.map_cons, List.map_nil]); first | done | rfl | (simp only [List.length_drop, List.length_take]; rfl)) ?_; (with_reducible refine (impl_floorDiv.calls (wrap64 ((wrap64 (a0 + a1)) * a2)) 1000 t167 _ A4.out).mono ?_); rintro e w' ⟨rfl, ⟨nd, rfl⟩⟩; refine ⟨_, rfl, ?_⟩))
 go_ret
 exact ⟨by first | rfl | (simp; done) | (simp [*]; done), by repeat (first | exact Drawn0.refl _ | apply Drawn0.step)⟩
end Go.Proofs.Ytemkongfmceedaa.F
namespace Go.Proofs.Ytemkongfmceedaa.F
open Go.RowKit Go.Proofs.YtemkongfmceedaaW.PrintWords Go.Proofs.YtemkongfmceedaaW.PrintLast Go.Proofs.YtemkongfmceedaaW.PrintMore
attribute [local go_sem] max2_int min2_int max_two min_two max_three min_three max_four min_four   -- for this text's walks alone
set_option linter.unusedVariables false
set_option linter.unusedSimpArgs false
def impl_heightAt.f (a0 : Int) (a1 : Int) : Option (Int) := (impl_floorDiv.f (wrap64 ((wrap64 ((wrap64 (2000 * a0)) * a1)) - (wrap64 ((wrap64 (9810 * a1)) * a1)))) 2000000).bind fun t168 => (some t168)
set_option maxHeartbeats 8000000 in
set_option maxRecDepth 100000 in
theorem impl_heightAt.calls (a0 : Int) (a1 : Int) (r : Int) (w : World) (h : impl_heightAt.f a0 a1 = some r) :
  Calls Try.prog 55 #[.int .i64 a0, .int .i64 a1] w fun e w' => e = .returned (.int .i64 r) ∧ Drawn0 w w' := by
 have H : ((impl_floorDiv.f (wrap64 ((wrap64 ((wrap64 (2000 * a0)) * a1)) - (wrap64 ((wrap64 (9810 * a1)) * a1)))) 2000000).bind fun t168 => (some t168)) = some r := h
 clear h
 replace H := Option.bind_eq_some_iff.mp H
 obtain ⟨t168, A30, H⟩ := H
 replace H : (some t168) = some r := H
 have A3 := Aside0.mk A30
 clear A30
 obtain rfl := Option.some.inj H
 go_enter Try.func55, Try.ntmps55
 go_wp2_with (first | ((with_reducible refine gate_callee (f := 30) rfl ?_); refine goesL_ (some 14) rfl rfl Try.func30 (by kernel_rfl) rfl #[.int .i64 (wrap64 ((wrap64 ((wrap64 (2000 * a0)) * a1)) - (wrap64 ((wrap64 (9810 * a1)) * a1)))), .int .i64 2000000] rfl (by (try simp only [List.map_toArray, List.map_cons, List.map_nil]); first | done | rfl | (simp only [List.length_drop, List.length_take]; rfl)) ?_; (with_reducible refine (impl_floorDiv.calls (wrap64 ((wrap64 ((wrap64 (2000 * a0)) * a1)) - (wrap64 ((wrap64 (9810 * a1)) * a1)))) 2000000 t168 _ A3.out).mono ?_); rintro e w' ⟨rfl, ⟨nd, rfl⟩⟩; refine ⟨_, rfl, ?_⟩))
 go_ret
 exact ⟨by first | rfl | (simp; done) | (simp [*]; done), by repeat (first | exact Drawn0.refl _ | apply Drawn0.step)⟩
end Go.Proofs.Ytemkongfmceedaa.F
namespace Go.Proofs.Ytemkongfmceedaa.F
open Go.RowKit Go.Proofs.YtemkongfmceedaaW.PrintWords Go.Proofs.YtemkongfmceedaaW.PrintLast Go.Proofs.YtemkongfmceedaaW.PrintMore
attribute [local go_sem] max2_int min2_int max_two min_two max_three min_three max_four min_four   -- for this text's walks alone
set_option linter.unusedVariables false
set_option linter.unusedSimpArgs false
def impl_topOf.l0 : Nat → Int → Int → Int → Int → Option (Int × Int)
 | 0, _, _, _, _ => none
 | k + 1, x0, x5, x7, x8 => if x7 < x8 then ((impl_heightAt.f x0 (wrap64 (Int.tdiv (wrap64 (x7 + x8)) 2))).bind fun t171 => (if t171 ≥ x5 then (impl_topOf.l0 k x0 x5 x7 (wrap64 (Int.tdiv (wrap64 (x7 + x8)) 2))) else (impl_topOf.l0 k x0 x5 (wrap64 ((wrap64 (Int.tdiv (wrap64 (x7 + x8)) 2)) + 1)) x8))) else (some (x7, x5))
def impl_topOf.f (k : Nat) (a0 : Int) : Option (Int × Int) := (impl_heightAt.f a0 (wrap64 (Int.tdiv (wrap64 (1000 * a0)) 9810))).bind fun t169 => ((impl_heightAt.f a0 (wrap64 ((wrap64 (Int.tdiv (wrap64 (1000 * a0)) 9810)) + 1))).bind fun t170 => (if t170 > t169 then (some (wrap64 ((wrap64 (Int.tdiv (wrap64 (1000 * a0)) 9810)) + 1), t170)) else (impl_topOf.l0 k a0 t169 0 (wrap64 (Int.tdiv (wrap64 (1000 * a0)) 9810)))))
theorem impl_topOf.mono_l : ∀ k, (∀ y0 y1 y2 y3, LeO (impl_topOf.l0 k y0 y1 y2 y3) (impl_topOf.l0 (k + 1) y0 y1 y2 y3))
 | 0 => fun _ _ _ _ r h => by simp [impl_topOf.l0] at h
 | k + 1 => by
  have ih0 := impl_topOf.mono_l k
  ·intro y0 y1 y2 y3
   unfold impl_topOf.l0
   repeat' first
   | (with_reducible exact ih0 _ _ _ _)
   | (with_reducible exact LeO.refl _)
   | (with_reducible exact LeO.none _)
   | (with_reducible refine LeO.ite ?_ ?_)
   | (with_reducible refine LeO.bind ?_ (fun _ => ?_))
   | exact ih0 _ _ _ _
   | exact LeO.none _
   | refine LeO.ite ?_ ?_
   | refine LeO.bind ?_ (fun _ => ?_)
theorem impl_topOf.mono : ∀ a0 k, LeO (impl_topOf.f k a0) (impl_topOf.f (k + 1) a0) := by
 intro a0 k
 have ih0 := impl_topOf.mono_l k
 unfold impl_topOf.f
 repeat' first
   | (with_reducible exact ih0 _ _ _ _)
   | (with_reducible exact LeO.refl _)
   | (with_reducible exact LeO.none _)
   | (with_reducible refine LeO.ite ?_ ?_)
   | (with_reducible refine LeO.bind ?_ (fun _ => ?_))
   | exact ih0 _ _ _ _
   | exact LeO.none _
   | refine LeO.ite ?_ ?_
   | refine LeO.bind ?_ (fun _ => ?_)
set_option maxHeartbeats 8000000 in
set_option maxRecDepth 100000 in
theorem impl_topOf.calls (k : Nat) (a0 : Int) (r1 : Int) (r2 : Int) (w : World) (h : impl_topOf.f k a0 = some (r1, r2)) :
  Calls Try.prog 56 #[.int .i64 a0] w fun e w' => e = .returned (.tuple #[.int .i64 r1, .int .i64 r2]) ∧ Drawn0 w w' := by
 have H : ((impl_heightAt.f a0 (wrap64 (Int.tdiv (wrap64 (1000 * a0)) 9810))).bind fun t169 => ((impl_heightAt.f a0 (wrap64 ((wrap64 (Int.tdiv (wrap64 (1000 * a0)) 9810)) + 1))).bind fun t170 => (if t170 > t169 then (some (wrap64 ((wrap64 (Int.tdiv (wrap64 (1000 * a0)) 9810)) + 1), t170)) else (impl_topOf.l0 k a0 t169 0 (wrap64 (Int.tdiv (wrap64 (1000 * a0)) 9810)))))) = some (r1, r2) := h
 clear h
 replace H := Option.bind_eq_some_iff.mp H
 obtain ⟨t169, A20, H⟩ := H
 replace H : ((impl_heightAt.f a0 (wrap64 ((wrap64 (Int.tdiv (wrap64 (1000 * a0)) 9810)) + 1))).bind fun t170 => (if t170 > t169 then (some (wrap64 ((wrap64 (Int.tdiv (wrap64 (1000 * a0)) 9810)) + 1), t170)) else (impl_topOf.l0 k a0 t169 0 (wrap64 (Int.tdiv (wrap64 (1000 * a0)) 9810))))) = some (r1, r2) := H
 have A2 := Aside0.mk A20
 clear A20
 replace H := Option.bind_eq_some_iff.mp H
 obtain ⟨t170, A30, H⟩ := H
 replace H : (if t170 > t169 then (some (wrap64 ((wrap64 (Int.tdiv (wrap64 (1000 * a0)) 9810)) + 1), t170)) else (impl_topOf.l0 k a0 t169 0 (wrap64 (Int.tdiv (wrap64 (1000 * a0)) 9810)))) = some (r1, r2) := H
 have A3 := Aside0.mk A30
 clear A30
 by_cases c4 : t170 > t169
 ·rw [if_pos c4] at H
  have c4b0 : decide (t169 < t170) = true := decide_eq_true c4
  clear c4
  simp only [Option.some.injEq, Prod.mk.injEq] at H
  obtain ⟨rfl, rfl⟩ := H
  go_enter Try.func56, Try.ntmps56
  go_wp2_with (first | ((with_reducible refine gate_callee (f := 55) rfl ?_); refine goesL_ (some 15) rfl rfl Try.func55 (by kernel_rfl) rfl #[.int .i64 a0, .int .i64 (wrap64 (Int.tdiv (wrap64 (1000 * a0)) 9810))] rfl (by (try simp only [List.map_toArray, List.map_cons, List.map_nil]); first | done | rfl | (simp only [List.length_drop, List.length_take]; rfl)) ?_; (with_reducible refine (impl_heightAt.calls a0 (wrap64 (Int.tdiv (wrap64 (1000 * a0)) 9810)) t169 _ A2.out).mono ?_); rintro e w' ⟨rfl, ⟨nd, rfl⟩⟩; refine ⟨_, rfl, ?_⟩) | ((with_reducible refine gate_callee (f := 55) rfl ?_); refine goesL_ (some 19) rfl rfl Try.func55 (by kernel_rfl) rfl #[.int .i64 a0, .int .i64 (wrap64 ((wrap64 (Int.tdiv (wrap64 (1000 * a0)) 9810)) + 1))] rfl (by (try simp only [List.map_toArray, List.map_cons, List.map_nil]); first | done | rfl | (simp only [List.length_drop, List.length_take]; rfl)) ?_; (with_reducible refine (impl_heightAt.calls a0 (wrap64 ((wrap64 (Int.tdiv (wrap64 (1000 * a0)) 9810)) + 1)) t170 _ A3.out).mono ?_); rintro e w' ⟨rfl, ⟨nd, rfl⟩⟩; refine ⟨_, rfl, ?_⟩))
  go_ret2
  exact ⟨by first | rfl | (simp; done) | (simp [*]; done), by repeat (first | exact Drawn0.refl _ | apply Drawn0.step)⟩
 ·rw [if_neg c4] at H
  have c4b0 : decide (t169 < t170) = false := decide_eq_false c4
  clear c4
  have H' := Aside0.mk H
  clear H
  go_enter Try.func56, Try.ntmps56
  go_wp2_with (first | ((with_reducible refine gate_callee (f := 55) rfl ?_); refine goesL_ (some 15) rfl rfl Try.func55 (by kernel_rfl) rfl #[.int .i64 a0, .int .i64 (wrap64 (Int.tdiv (wrap64 (1000 * a0)) 9810))] rfl (by (try simp only [List.map_toArray, List.map_cons, List.map_nil]); first | done | rfl | (simp only [List.length_drop, List.length_take]; rfl)) ?_; (with_reducible refine (impl_heightAt.calls a0 (wrap64 (Int.tdiv (wrap64 (1000 * a0)) 9810)) t169 _ A2.out).mono ?_); rintro e w' ⟨rfl, ⟨nd, rfl⟩⟩; refine ⟨_, rfl, ?_⟩) | ((with_reducible refine gate_callee (f := 55) rfl ?_); refine goesL_ (some 19) rfl rfl Try.func55 (by kernel_rfl) rfl #[.int .i64 a0, .int .i64 (wrap64 ((wrap64 (Int.tdiv (wrap64 (1000 * a0)) 9810)) + 1))] rfl (by (try simp only [List.map_toArray, List.map_cons, List.map_nil]); first | done | rfl | (simp only [List.length_drop, List.length_take]; rfl)) ?_; (with_reducible refine (impl_heightAt.calls a0 (wrap64 ((wrap64 (Int.tdiv (wrap64 (1000 * a0)) 9810)) + 1)) t170 _ A3.out).mono ?_); rintro e w' ⟨rfl, ⟨nd, rfl⟩⟩; refine ⟨_, rfl, ?_⟩))
  go_loopg [7, 8] k (fun kq v7 v8 w' => ∃ (x7_1 : Int) (x8_1 : Int), v7 = .int .i64 x7_1 ∧ v8 = .int .i64 x8_1 ∧ Aside0 (impl_topOf.l0 kq a0 t169 x7_1 x8_1 = some (r1, r2)) ∧ Aside0 (kq ≤ k) ∧ Drawn0 w w')
  case atStart => exact ⟨(0), (wrap64 (Int.tdiv (wrap64 (1000 * a0)) 9810)), (by first | rfl | (simp; done) | (simp [*]; done)), (by first | rfl | (simp; done) | (simp [*]; done)), H', ⟨Nat.le_refl _⟩, by repeat (first | exact Drawn0.refl _ | apply Drawn0.step)⟩
  case round =>
   clear H'
   try clear p2
   try clear c4
   try clear c4b0
   obtain ⟨x7_1, x8_1, rfl, rfl, HA, HK1, ⟨m1, rfl⟩⟩ := hrel
   cases gk with
   | zero => exact absurd HA.out (by simp [impl_topOf.l0])
   | succ k1 =>
    have H := HA.out
    clear HA
    simp only [impl_topOf.l0] at H
    by_cases c5 : x7_1 < x8_1
    ·rw [if_pos c5] at H
     have c5b0 : decide (x7_1 < x8_1) = true := decide_eq_true c5
     clear c5
     replace H := Option.bind_eq_some_iff.mp H
     obtain ⟨t171, A60, H⟩ := H
     replace H : (if t171 ≥ t169 then (impl_topOf.l0 k1 a0 t169 x7_1 (wrap64 (Int.tdiv (wrap64 (x7_1 + x8_1)) 2))) else (impl_topOf.l0 k1 a0 t169 (wrap64 ((wrap64 (Int.tdiv (wrap64 (x7_1 + x8_1)) 2)) + 1)) x8_1)) = some (r1, r2) := H
     have A6 := Aside0.mk A60
     clear A60
     by_cases c7 : t171 ≥ t169
     ·rw [if_pos c7] at H
      have c7b0 : decide (t169 ≤ t171) = true := decide_eq_true c7
      clear c7
      have H' := Aside0.mk H
      clear H
      go_wp2_with (first | ((with_reducible refine gate_callee (f := 55) rfl ?_); refine goesL_ (some 36) rfl rfl Try.func55 (by kernel_rfl) rfl #[.int .i64 a0, .int .i64 (wrap64 (Int.tdiv (wrap64 (x7_1 + x8_1)) 2))] rfl (by (try simp only [List.map_toArray, List.map_cons, List.map_nil]); first | done | rfl | (simp only [List.length_drop, List.length_take]; rfl)) ?_; (with_reducible refine (impl_heightAt.calls a0 (wrap64 (Int.tdiv (wrap64 (x7_1 + x8_1)) 2)) t171 _ A6.out).mono ?_); rintro e w' ⟨rfl, ⟨nd, rfl⟩⟩; refine ⟨_, rfl, ?_⟩))
      go_roundg k1
      case measure => have := HK1.out; omega
      case rel => exact ⟨(x7_1), (wrap64 (Int.tdiv (wrap64 (x7_1 + x8_1)) 2)), (by first | rfl | (simp; done) | (simp [*]; done)), (by first | rfl | (simp; done) | (simp [*]; done)), H', ⟨by have := HK1.out; omega⟩, by repeat (first | exact Drawn0.refl _ | apply Drawn0.step)⟩
     ·rw [if_neg c7] at H
      have c7b0 : decide (t169 ≤ t171) = false := decide_eq_false c7
      clear c7
      have H' := Aside0.mk H
      clear H
      go_wp2_with (first | ((with_reducible refine gate_callee (f := 55) rfl ?_); refine goesL_ (some 36) rfl rfl Try.func55 (by kernel_rfl) rfl #[.int .i64 a0, .int .i64 (wrap64 (Int.tdiv (wrap64 (x7_1 + x8_1)) 2))] rfl (by (try simp only [List.map_toArray, List.map_cons, List.map_nil]); first | done | rfl | (simp only [List.length_drop, List.length_take]; rfl)) ?_; (with_reducible refine (impl_heightAt.calls a0 (wrap64 (Int.tdiv (wrap64 (x7_1 + x8_1)) 2)) t171 _ A6.out).mono ?_); rintro e w' ⟨rfl, ⟨nd, rfl⟩⟩; refine ⟨_, rfl, ?_⟩))
      go_roundg k1
      case measure => have := HK1.out; omega
      case rel => exact ⟨(wrap64 ((wrap64 (Int.tdiv (wrap64 (x7_1 + x8_1)) 2)) + 1)), (x8_1), (by first | rfl | (simp; done) | (simp [*]; done)), (by first | rfl | (simp; done) | (simp [*]; done)), H', ⟨by have := HK1.out; omega⟩, by repeat (first | exact Drawn0.refl _ | apply Drawn0.step)⟩
    ·rw [if_neg c5] at H
     have c5b0 : decide (x7_1 < x8_1) = false := decide_eq_false c5
     clear c5
     simp only [Option.some.injEq, Prod.mk.injEq] at H
     obtain ⟨rfl, rfl⟩ := H
     go_wp2
     go_ret2
     exact ⟨by first | rfl | (simp; done) | (simp [*]; done), by repeat (first | exact Drawn0.refl _ | apply Drawn0.step)⟩
end Go.Proofs.Ytemkongfmceedaa.F
namespace Go.Proofs.Ytemkongfmceedaa.F
open Go.RowKit Go.Proofs.YtemkongfmceedaaW.PrintWords Go.Proofs.YtemkongfmceedaaW.PrintLast Go.Proofs.YtemkongfmceedaaW.PrintMore
attribute [local go_sem] max2_int min2_int max_two min_two max_three min_three max_four min_four   -- for this text's walks alone
set_option linter.unusedVariables false
set_option linter.unusedSimpArgs false
def impl_burstRange.f (k : Nat) (a0_0 : Int) (a0_1 : Int) (a0_2 : Int) (a0_3 : Int) (a1 : Int) (a2 : Int) : Option (Int × Int) := (impl_topOf.f k a0_0).bind fun bt173 => ((impl_driftAt.f a0_1 a1 bt173.1).bind fun t175 => ((impl_driftAt.f a0_1 a2 bt173.1).bind fun t176 => (some (t175, t176))))
theorem impl_burstRange.mono : ∀ a0 a1 a2 a3 a4 a5 k, LeO (impl_burstRange.f k a0 a1 a2 a3 a4 a5) (impl_burstRange.f (k + 1) a0 a1 a2 a3 a4 a5) := by
 intro a0 a1 a2 a3 a4 a5 k
 unfold impl_burstRange.f
 repeat' first
   | (with_reducible exact impl_topOf.mono _ _)
   | (with_reducible exact LeO.refl _)
   | (with_reducible exact LeO.none _)
   | (with_reducible refine LeO.ite ?_ ?_)
   | (with_reducible refine LeO.bind ?_ (fun _ => ?_))
   | exact impl_topOf.mono _ _
   | exact LeO.none _
   | refine LeO.ite ?_ ?_
   | refine LeO.bind ?_ (fun _ => ?_)
set_option maxHeartbeats 8000000 in
set_option maxRecDepth 100000 in
theorem impl_burstRange.calls (k : Nat) (a0_0 : Int) (a0_1 : Int) (a0_2 : Int) (a0_3 : Int) (a1 : Int) (a2 : Int) (r1 : Int) (r2 : Int) (w : World) (h : impl_burstRange.f k a0_0 a0_1 a0_2 a0_3 a1 a2 = some (r1, r2)) :
  Calls Try.prog 53 #[.agg #[.int .i64 a0_0, .int .i64 a0_1, .int .i64 a0_2, .int .i64 a0_3], .int .i64 a1, .int .i64 a2] w fun e w' => e = .returned (.tuple #[.int .i64 r1, .int .i64 r2]) ∧ Below w.heap.size w w' := by
 have hu26 := Try.underlying26
 have HB := Aside0.mk (Below.refl w.heap.size w)
 have H : ((impl_topOf.f k a0_0).bind fun bt173 => ((impl_driftAt.f a0_1 a1 bt173.1).bind fun t175 => ((impl_driftAt.f a0_1 a2 bt173.1).bind fun t176 => (some (t175, t176))))) = some (r1, r2) := h
 clear h
 replace H := Option.bind_eq_some_iff.mp H
 obtain ⟨⟨t173, t174⟩, A40, H⟩ := H
 replace H : ((impl_driftAt.f a0_1 a1 t173).bind fun t175 => ((impl_driftAt.f a0_1 a2 t173).bind fun t176 => (some (t175, t176)))) = some (r1, r2) := H
 have A4 := Aside0.mk A40
 clear A40
 replace H := Option.bind_eq_some_iff.mp H
 obtain ⟨t175, A50, H⟩ := H
 replace H : ((impl_driftAt.f a0_1 a2 t173).bind fun t176 => (some (t175, t176))) = some (r1, r2) := H
 have A5 := Aside0.mk A50
 clear A50
 replace H := Option.bind_eq_some_iff.mp H
 obtain ⟨t176, A60, H⟩ := H
 replace H : (some (t175, t176)) = some (r1, r2) := H
 have A6 := Aside0.mk A60
 clear A60
 simp only [Option.some.injEq, Prod.mk.injEq] at H
 obtain ⟨rfl, rfl⟩ := H
 go_enter Try.func53, Try.ntmps53
 go_wp2_with (first | ((with_reducible refine gate_dst (N := 3) rfl ?_); refine box_event ?hg (N := 3) ?hd (cs := #[.int .i64 a0_0, .int .i64 a0_1, .int .i64 a0_2, .int .i64 a0_3]) (t := 26) ?hr ?_; (case hd => rfl); (case hg => rfl); (case hr => first | (go_simp; done) | (go_simp; rfl)); intro gb172 hg w7 hbox hb; have n0_ := Aside0.mk (below_step (by repeat (first | (with_reducible first | exact HB.out | apply below_alloc | apply pw_below_drewN | apply below_drew1) | exact HB.out)) hb); have n1_ := Aside0.mk (hbox); have n2_ := Aside0.mk ((by rw [hg]; exact (below_size (by repeat (first | (with_reducible first | exact HB.out | apply below_alloc | apply pw_below_drewN | apply below_drew1) | exact HB.out))) : w.heap.size ≤ gb172)); have n3_ := Aside0.mk ((by rw [hg]; exact (below_size (by repeat (first | (with_reducible first | exact HB.out | apply below_alloc | apply pw_below_drewN | apply below_drew1) | exact HB.out))) : w.heap.size ≤ gb172)); clear HB; have HB := n0_; have BK172 := n1_; have GW172 := n2_; have GE172 := n3_; clear n0_ n1_ n2_ n3_; clear hb hbox hg; have hcz8_0 : w7.cell? ⟨gb172, 0, none⟩ = some (.int .i64 a0_0) := (blk_cell BK172.out 0).trans rfl; have hcz8_1 : w7.cell? ⟨gb172, 1, none⟩ = some (.int .i64 a0_1) := (blk_cell BK172.out 1).trans rfl; have hcz8_2 : w7.cell? ⟨gb172, 2, none⟩ = some (.int .i64 a0_2) := (blk_cell BK172.out 2).trans rfl; have hcz8_3 : w7.cell? ⟨gb172, 3, none⟩ = some (.int .i64 a0_3) := (blk_cell BK172.out 3).trans rfl; have hfz8_0 := blk_frozen BK172.out 0; have hfz8_1 := blk_frozen BK172.out 1; have hfz8_2 := blk_frozen BK172.out 2; have hfz8_3 := blk_frozen BK172.out 3) | (go_at_call 56; (with_reducible refine (impl_topOf.calls k a0_0 t173 t174 _ A4.out).mono ?_); rintro e w' ⟨rfl, ⟨nd, rfl⟩⟩; (try first | exact ⟨rfl, _, World.drewN_drewN _ _ _⟩ | exact ⟨rfl, _, Eq.trans (World.drewN_drewN _ _ _) (congrArg (World.drewN _) (Nat.add_assoc _ _ _))⟩)) | (go_at_call 44; (with_reducible refine (impl_driftAt.calls a0_1 a1 t173 t175 _ A5.out).mono ?_); rintro e w' ⟨rfl, ⟨nd, rfl⟩⟩; (try first | exact ⟨rfl, _, World.drewN_drewN _ _ _⟩ | exact ⟨rfl, _, Eq.trans (World.drewN_drewN _ _ _) (congrArg (World.drewN _) (Nat.add_assoc _ _ _))⟩)) | (go_at_call 44; (with_reducible refine (impl_driftAt.calls a0_1 a2 t173 t176 _ A6.out).mono ?_); rintro e w' ⟨rfl, ⟨nd, rfl⟩⟩; (try first | exact ⟨rfl, _, World.drewN_drewN _ _ _⟩ | exact ⟨rfl, _, Eq.trans (World.drewN_drewN _ _ _) (congrArg (World.drewN _) (Nat.add_assoc _ _ _))⟩)))
 repeat (go_quiet (first | ((with_reducible refine gate_dst (N := 3) rfl ?_); refine box_event ?hg (N := 3) ?hd (cs := #[.int .i64 a0_0, .int .i64 a0_1, .int .i64 a0_2, .int .i64 a0_3]) (t := 26) ?hr ?_; (case hd => rfl); (case hg => rfl); (case hr => first | (go_simp; done) | (go_simp; rfl)); intro gb172 hg w7 hbox hb; have n0_ := Aside0.mk (below_step (by repeat (first | (with_reducible first | exact HB.out | apply below_alloc | apply pw_below_drewN | apply below_drew1) | exact HB.out)) hb); have n1_ := Aside0.mk (hbox); have n2_ := Aside0.mk ((by rw [hg]; exact (below_size (by repeat (first | (with_reducible first | exact HB.out | apply below_alloc | apply pw_below_drewN | apply below_drew1) | exact HB.out))) : w.heap.size ≤ gb172)); have n3_ := Aside0.mk ((by rw [hg]; exact (below_size (by repeat (first | (with_reducible first | exact HB.out | apply below_alloc | apply pw_below_drewN | apply below_drew1) | exact HB.out))) : w.heap.size ≤ gb172)); clear HB; have HB := n0_; have BK172 := n1_; have GW172 := n2_; have GE172 := n3_; clear n0_ n1_ n2_ n3_; clear hb hbox hg; have hcz8_0 : w7.cell? ⟨gb172, 0, none⟩ = some (.int .i64 a0_0) := (blk_cell BK172.out 0).trans rfl; have hcz8_1 : w7.cell? ⟨gb172, 1, none⟩ = some (.int .i64 a0_1) := (blk_cell BK172.out 1).trans rfl; have hcz8_2 : w7.cell? ⟨gb172, 2, none⟩ = some (.int .i64 a0_2) := (blk_cell BK172.out 2).trans rfl; have hcz8_3 : w7.cell? ⟨gb172, 3, none⟩ = some (.int .i64 a0_3) := (blk_cell BK172.out 3).trans rfl; have hfz8_0 := blk_frozen BK172.out 0; have hfz8_1 := blk_frozen BK172.out 1; have hfz8_2 := blk_frozen BK172.out 2; have hfz8_3 := blk_frozen BK172.out 3) | (go_at_call 56; (with_reducible refine (impl_topOf.calls k a0_0 t173 t174 _ A4.out).mono ?_); rintro e w' ⟨rfl, ⟨nd, rfl⟩⟩; (try first | exact ⟨rfl, _, World.drewN_drewN _ _ _⟩ | exact ⟨rfl, _, Eq.trans (World.drewN_drewN _ _ _) (congrArg (World.drewN _) (Nat.add_assoc _ _ _))⟩)) | (go_at_call 44; (with_reducible refine (impl_driftAt.calls a0_1 a1 t173 t175 _ A5.out).mono ?_); rintro e w' ⟨rfl, ⟨nd, rfl⟩⟩; (try first | exact ⟨rfl, _, World.drewN_drewN _ _ _⟩ | exact ⟨rfl, _, Eq.trans (World.drewN_drewN _ _ _) (congrArg (World.drewN _) (Nat.add_assoc _ _ _))⟩)) | (go_at_call 44; (with_reducible refine (impl_driftAt.calls a0_1 a2 t173 t176 _ A6.out).mono ?_); rintro e w' ⟨rfl, ⟨nd, rfl⟩⟩; (try first | exact ⟨rfl, _, World.drewN_drewN _ _ _⟩ | exact ⟨rfl, _, Eq.trans (World.drewN_drewN _ _ _) (congrArg (World.drewN _) (Nat.add_assoc _ _ _))⟩))); try go_wp2_with (first | ((with_reducible refine gate_dst (N := 3) rfl ?_); refine box_event ?hg (N := 3) ?hd (cs := #[.int .i64 a0_0, .int .i64 a0_1, .int .i64 a0_2, .int .i64 a0_3]) (t := 26) ?hr ?_; (case hd => rfl); (case hg => rfl); (case hr => first | (go_simp; done) | (go_simp; rfl)); intro gb172 hg w7 hbox hb; have n0_ := Aside0.mk (below_step (by repeat (first | (with_reducible first | exact HB.out | apply below_alloc | apply pw_below_drewN | apply below_drew1) | exact HB.out)) hb); have n1_ := Aside0.mk (hbox); have n2_ := Aside0.mk ((by rw [hg]; exact (below_size (by repeat (first | (with_reducible first | exact HB.out | apply below_alloc | apply pw_below_drewN | apply below_drew1) | exact HB.out))) : w.heap.size ≤ gb172)); have n3_ := Aside0.mk ((by rw [hg]; exact (below_size (by repeat (first | (with_reducible first | exact HB.out | apply below_alloc | apply pw_below_drewN | apply below_drew1) | exact HB.out))) : w.heap.size ≤ gb172)); clear HB; have HB := n0_; have BK172 := n1_; have GW172 := n2_; have GE172 := n3_; clear n0_ n1_ n2_ n3_; clear hb hbox hg; have hcz8_0 : w7.cell? ⟨gb172, 0, none⟩ = some (.int .i64 a0_0) := (blk_cell BK172.out 0).trans rfl; have hcz8_1 : w7.cell? ⟨gb172, 1, none⟩ = some (.int .i64 a0_1) := (blk_cell BK172.out 1).trans rfl; have hcz8_2 : w7.cell? ⟨gb172, 2, none⟩ = some (.int .i64 a0_2) := (blk_cell BK172.out 2).trans rfl; have hcz8_3 : w7.cell? ⟨gb172, 3, none⟩ = some (.int .i64 a0_3) := (blk_cell BK172.out 3).trans rfl; have hfz8_0 := blk_frozen BK172.out 0; have hfz8_1 := blk_frozen BK172.out 1; have hfz8_2 := blk_frozen BK172.out 2; have hfz8_3 := blk_frozen BK172.out 3) | (go_at_call 56; (with_reducible refine (impl_topOf.calls k a0_0 t173 t174 _ A4.out).mono ?_); rintro e w' ⟨rfl, ⟨nd, rfl⟩⟩; (try first | exact ⟨rfl, _, World.drewN_drewN _ _ _⟩ | exact ⟨rfl, _, Eq.trans (World.drewN_drewN _ _ _) (congrArg (World.drewN _) (Nat.add_assoc _ _ _))⟩)) | (go_at_call 44; (with_reducible refine (impl_driftAt.calls a0_1 a1 t173 t175 _ A5.out).mono ?_); rintro e w' ⟨rfl, ⟨nd, rfl⟩⟩; (try first | exact ⟨rfl, _, World.drewN_drewN _ _ _⟩ | exact ⟨rfl, _, Eq.trans (World.drewN_drewN _ _ _) (congrArg (World.drewN _) (Nat.add_assoc _ _ _))⟩)) | (go_at_call 44; (with_reducible refine (impl_driftAt.calls a0_1 a2 t173 t176 _ A6.out).mono ?_); rintro e w' ⟨rfl, ⟨nd, rfl⟩⟩; (try first | exact ⟨rfl, _, World.drewN_drewN _ _ _⟩ | exact ⟨rfl, _, Eq.trans (World.drewN_drewN _ _ _) (congrArg (World.drewN _) (Nat.add_assoc _ _ _))⟩))))
 go_ret2
 exact ⟨by first | rfl | (simp [errW_none, errW_some] <;> rfl) | (simp [*, errW_none, errW_some] <;> rfl), by repeat (first | (with_reducible first | exact HB.out | apply below_alloc | apply pw_below_drewN | apply below_drew1 | refine below_set ?_ GE172.out) | exact HB.out)⟩
end Go.Proofs.Ytemkongfmceedaa.F
namespace Go.Proofs.Ytemkongfmceedaa.F
open Go.RowKit Go.Proofs.YtemkongfmceedaaW.PrintWords Go.Proofs.YtemkongfmceedaaW.PrintLast Go.Proofs.YtemkongfmceedaaW.PrintMore
attribute [local go_sem] max2_int min2_int max_two min_two max_three min_three max_four min_four   -- for this text's walks alone
set_option linter.unusedVariables false
set_option linter.unusedSimpArgs false
def impl_ceilDiv.f (a0 : Int) (a1 : Int) : Option (Int) := if a1 = 0 then (none) else (some (wrap64 (Int.tdiv (wrap64 ((wrap64 (a0 + a1)) - 1)) a1)))
set_option maxHeartbeats 8000000 in
set_option maxRecDepth 100000 in
theorem impl_ceilDiv.calls (a0 : Int) (a1 : Int) (r : Int) (w : World) (h : impl_ceilDiv.f a0 a1 = some r) :
  Calls Try.prog 57 #[.int .i64 a0, .int .i64 a1] w fun e w' => e = .returned (.int .i64 r) ∧ Drawn0 w w' := by
 have H : (if a1 = 0 then (none) else (some (wrap64 (Int.tdiv (wrap64 ((wrap64 (a0 + a1)) - 1)) a1)))) = some r := h
 clear h
 by_cases c3 : a1 = 0
 ·rw [if_pos c3] at H
  exact absurd H (by simp)
 ·rw [if_neg c3] at H
  have c3b0 : (a1 == 0) = false := beq_eq_false_iff_ne.mpr c3
  have c3b1 : (a1 != 0) = true := bne_iff_ne.mpr c3
  obtain rfl := Option.some.inj H
  go_enter Try.func57, Try.ntmps57
  go_wp2
  go_ret
  exact ⟨by first | rfl | (simp; done) | (simp [*]; done), by repeat (first | exact Drawn0.refl _ | apply Drawn0.step)⟩
end Go.Proofs.Ytemkongfmceedaa.F
namespace Go.Proofs.Ytemkongfmceedaa.F
open Go.RowKit Go.Proofs.YtemkongfmceedaaW.PrintWords Go.Proofs.YtemkongfmceedaaW.PrintLast Go.Proofs.YtemkongfmceedaaW.PrintMore
attribute [local go_sem] max2_int min2_int max_two min_two max_three min_three max_four min_four   -- for this text's walks alone
set_option linter.unusedVariables false
set_option linter.unusedSimpArgs false
def impl_debrisTime.f (k : Nat) (a0_0 : Int) (a0_1 : Int) (a0_2 : Int) (a0_3 : Int) : Option (Int) := (impl_topOf.f k a0_0).bind fun bt178 => ((impl_ceilDiv.f (wrap64 (1000 * bt178.2)) a0_2).bind fun t180 => (some t180))
theorem impl_debrisTime.mono : ∀ a0 a1 a2 a3 k, LeO (impl_debrisTime.f k a0 a1 a2 a3) (impl_debrisTime.f (k + 1) a0 a1 a2 a3) := by
 intro a0 a1 a2 a3 k
 unfold impl_debrisTime.f
 repeat' first
   | (with_reducible exact impl_topOf.mono _ _)
   | (with_reducible exact LeO.refl _)
   | (with_reducible exact LeO.none _)
   | (with_reducible refine LeO.ite ?_ ?_)
   | (with_reducible refine LeO.bind ?_ (fun _ => ?_))
   | exact impl_topOf.mono _ _
   | exact LeO.none _
   | refine LeO.ite ?_ ?_
   | refine LeO.bind ?_ (fun _ => ?_)
set_option maxHeartbeats 8000000 in
set_option maxRecDepth 100000 in
theorem impl_debrisTime.calls (k : Nat) (a0_0 : Int) (a0_1 : Int) (a0_2 : Int) (a0_3 : Int) (r : Int) (w : World) (h : impl_debrisTime.f k a0_0 a0_1 a0_2 a0_3 = some r) :
  Calls Try.prog 54 #[.agg #[.int .i64 a0_0, .int .i64 a0_1, .int .i64 a0_2, .int .i64 a0_3]] w fun e w' => e = .returned (.int .i64 r) ∧ Below w.heap.size w w' := by
 have hu26 := Try.underlying26
 have HB := Aside0.mk (Below.refl w.heap.size w)
 have H : ((impl_topOf.f k a0_0).bind fun bt178 => ((impl_ceilDiv.f (wrap64 (1000 * bt178.2)) a0_2).bind fun t180 => (some t180))) = some r := h
 clear h
 replace H := Option.bind_eq_some_iff.mp H
 obtain ⟨⟨t178, t179⟩, A20, H⟩ := H
 replace H : ((impl_ceilDiv.f (wrap64 (1000 * t179)) a0_2).bind fun t180 => (some t180)) = some r := H
 have A2 := Aside0.mk A20
 clear A20
 replace H := Option.bind_eq_some_iff.mp H
 obtain ⟨t180, A30, H⟩ := H
 replace H : (some t180) = some r := H
 have A3 := Aside0.mk A30
 clear A30
 obtain rfl := Option.some.inj H
 go_enter Try.func54, Try.ntmps54
 go_wp2_with (first | ((with_reducible refine gate_dst (N := 1) rfl ?_); refine box_event ?hg (N := 1) ?hd (cs := #[.int .i64 a0_0, .int .i64 a0_1, .int .i64 a0_2, .int .i64 a0_3]) (t := 26) ?hr ?_; (case hd => rfl); (case hg => rfl); (case hr => first | (go_simp; done) | (go_simp; rfl)); intro gb177 hg w4 hbox hb; have n0_ := Aside0.mk (below_step (by repeat (first | (with_reducible first | exact HB.out | apply below_alloc | apply pw_below_drewN | apply below_drew1) | exact HB.out)) hb); have n1_ := Aside0.mk (hbox); have n2_ := Aside0.mk ((by rw [hg]; exact (below_size (by repeat (first | (with_reducible first | exact HB.out | apply below_alloc | apply pw_below_drewN | apply below_drew1) | exact HB.out))) : w.heap.size ≤ gb177)); have n3_ := Aside0.mk ((by rw [hg]; exact (below_size (by repeat (first | (with_reducible first | exact HB.out | apply below_alloc | apply pw_below_drewN | apply below_drew1) | exact HB.out))) : w.heap.size ≤ gb177)); clear HB; have HB := n0_; have BK177 := n1_; have GW177 := n2_; have GE177 := n3_; clear n0_ n1_ n2_ n3_; clear hb hbox hg; have hcz5_0 : w4.cell? ⟨gb177, 0, none⟩ = some (.int .i64 a0_0) := (blk_cell BK177.out 0).trans rfl; have hcz5_1 : w4.cell? ⟨gb177, 1, none⟩ = some (.int .i64 a0_1) := (blk_cell BK177.out 1).trans rfl; have hcz5_2 : w4.cell? ⟨gb177, 2, none⟩ = some (.int .i64 a0_2) := (blk_cell BK177.out 2).trans rfl; have hcz5_3 : w4.cell? ⟨gb177, 3, none⟩ = some (.int .i64 a0_3) := (blk_cell BK177.out 3).trans rfl; have hfz5_0 := blk_frozen BK177.out 0; have hfz5_1 := blk_frozen BK177.out 1; have hfz5_2 := blk_frozen BK177.out 2; have hfz5_3 := blk_frozen BK177.out 3) | ((with_reducible refine gate_callee (f := 56) rfl ?_); refine goesL_ (some 8) rfl rfl Try.func56 (by kernel_rfl) rfl #[.int .i64 a0_0] rfl (by (try simp only [List.map_toArray, List.map_cons, List.map_nil]); first | done | rfl | (simp only [List.length_drop, List.length_take]; rfl)) ?_; (with_reducible refine (impl_topOf.calls k a0_0 t178 t179 _ A2.out).mono ?_); rintro e w' ⟨rfl, ⟨nd, rfl⟩⟩; refine ⟨_, rfl, ?_⟩) | ((with_reducible refine gate_callee (f := 57) rfl ?_); refine goesL_ (some 15) rfl rfl Try.func57 (by kernel_rfl) rfl #[.int .i64 (wrap64 (1000 * t179)), .int .i64 a0_2] rfl (by (try simp only [List.map_toArray, List.map_cons, List.map_nil]); first | done | rfl | (simp only [List.length_drop, List.length_take]; rfl)) ?_; (with_reducible refine (impl_ceilDiv.calls (wrap64 (1000 * t179)) a0_2 t180 _ A3.out).mono ?_); rintro e w' ⟨rfl, ⟨nd, rfl⟩⟩; refine ⟨_, rfl, ?_⟩))
 go_ret
 exact ⟨by first | rfl | (simp [errW_none, errW_some] <;> rfl) | (simp [*, errW_none, errW_some] <;> rfl), by repeat (first | (with_reducible first | exact HB.out | apply below_alloc | apply pw_below_drewN | apply below_drew1 | refine below_set ?_ GE177.out) | exact HB.out)⟩
end Go.Proofs.Ytemkongfmceedaa.F
namespace Go.Proofs.Ytemkongfmceedaa.F
open Go.RowKit Go.Proofs.YtemkongfmceedaaW.PrintWords Go.Proofs.YtemkongfmceedaaW.PrintLast Go.Proofs.YtemkongfmceedaaW.PrintMore
attribute [local go_sem] max2_int min2_int max_two min_two max_three min_three max_four min_four   -- for this text's walks alone
set_option linter.unusedVariables false
set_option linter.unusedSimpArgs false
def impl_debrisRange.f (k : Nat) (a0_0 : Int) (a0_1 : Int) (a0_2 : Int) (a0_3 : Int) (a1 : Int) (a2 : Int) : Option (Int × Int) := (impl_burstRange.f k a0_0 a0_1 a0_2 a0_3 a1 a2).bind fun bt182 => ((impl_debrisTime.f k a0_0 a0_1 a0_2 a0_3).bind fun t184 => ((impl_floorDiv.f (wrap64 (a1 * t184)) 1000).bind fun t185 => ((impl_floorDiv.f (wrap64 ((wrap64 (-a2)) * t184)) 1000).bind fun t186 => (some (wrap64 ((wrap64 (bt182.1 + t185)) - a0_3), wrap64 ((wrap64 (bt182.2 - t186)) + a0_3))))))
theorem impl_debrisRange.mono : ∀ a0 a1 a2 a3 a4 a5 k, LeO (impl_debrisRange.f k a0 a1 a2 a3 a4 a5) (impl_debrisRange.f (k + 1) a0 a1 a2 a3 a4 a5) := by
 intro a0 a1 a2 a3 a4 a5 k
 unfold impl_debrisRange.f
 repeat' first
   | (with_reducible exact impl_burstRange.mono _ _ _ _ _ _ _)
   | (with_reducible exact impl_debrisTime.mono _ _ _ _ _)
   | (with_reducible exact LeO.refl _)
   | (with_reducible exact LeO.none _)
   | (with_reducible refine LeO.ite ?_ ?_)
   | (with_reducible refine LeO.bind ?_ (fun _ => ?_))
   | exact impl_burstRange.mono _ _ _ _ _ _ _
   | exact impl_debrisTime.mono _ _ _ _ _
   | exact LeO.none _
   | refine LeO.ite ?_ ?_
   | refine LeO.bind ?_ (fun _ => ?_)
set_option maxHeartbeats 8000000 in
set_option maxRecDepth 100000 in
theorem impl_debrisRange.calls (k : Nat) (a0_0 : Int) (a0_1 : Int) (a0_2 : Int) (a0_3 : Int) (a1 : Int) (a2 : Int) (r1 : Int) (r2 : Int) (w : World) (h : impl_debrisRange.f k a0_0 a0_1 a0_2 a0_3 a1 a2 = some (r1, r2)) :
  Calls Try.prog 42 #[.agg #[.int .i64 a0_0, .int .i64 a0_1, .int .i64 a0_2, .int .i64 a0_3], .int .i64 a1, .int .i64 a2] w fun e w' => e = .returned (.tuple #[.int .i64 r1, .int .i64 r2]) ∧ Below w.heap.size w w' := by
 have hu26 := Try.underlying26
 have HB := Aside0.mk (Below.refl w.heap.size w)
 have H : ((impl_burstRange.f k a0_0 a0_1 a0_2 a0_3 a1 a2).bind fun bt182 => ((impl_debrisTime.f k a0_0 a0_1 a0_2 a0_3).bind fun t184 => ((impl_floorDiv.f (wrap64 (a1 * t184)) 1000).bind fun t185 => ((impl_floorDiv.f (wrap64 ((wrap64 (-a2)) * t184)) 1000).bind fun t186 => (some (wrap64 ((wrap64 (bt182.1 + t185)) - a0_3), wrap64 ((wrap64 (bt182.2 - t186)) + a0_3))))))) = some (r1, r2) := h
 clear h
 replace H := Option.bind_eq_some_iff.mp H
 obtain ⟨⟨t182, t183⟩, A40, H⟩ := H
 replace H : ((impl_debrisTime.f k a0_0 a0_1 a0_2 a0_3).bind fun t184 => ((impl_floorDiv.f (wrap64 (a1 * t184)) 1000).bind fun t185 => ((impl_floorDiv.f (wrap64 ((wrap64 (-a2)) * t184)) 1000).bind fun t186 => (some (wrap64 ((wrap64 (t182 + t185)) - a0_3), wrap64 ((wrap64 (t183 - t186)) + a0_3)))))) = some (r1, r2) := H
 have A4 := Aside0.mk A40
 clear A40
 replace H := Option.bind_eq_some_iff.mp H
 obtain ⟨t184, A50, H⟩ := H
 replace H : ((impl_floorDiv.f (wrap64 (a1 * t184)) 1000).bind fun t185 => ((impl_floorDiv.f (wrap64 ((wrap64 (-a2)) * t184)) 1000).bind fun t186 => (some (wrap64 ((wrap64 (t182 + t185)) - a0_3), wrap64 ((wrap64 (t183 - t186)) + a0_3))))) = some (r1, r2) := H
 have A5 := Aside0.mk A50
 clear A50
 replace H := Option.bind_eq_some_iff.mp H
 obtain ⟨t185, A60, H⟩ := H
 replace H : ((impl_floorDiv.f (wrap64 ((wrap64 (-a2)) * t184)) 1000).bind fun t186 => (some (wrap64 ((wrap64 (t182 + t185)) - a0_3), wrap64 ((wrap64 (t183 - t186)) + a0_3)))) = some (r1, r2) := H
 have A6 := Aside0.mk A60
 clear A60
 replace H := Option.bind_eq_some_iff.mp H
 obtain ⟨t186, A70, H⟩ := H
 replace H : (some (wrap64 ((wrap64 (t182 + t185)) - a0_3), wrap64 ((wrap64 (t183 - t186)) + a0_3))) = some (r1, r2) := H
 have A7 := Aside0.mk A70
 clear A70
 simp only [Option.some.injEq, Prod.mk.injEq] at H
 obtain ⟨rfl, rfl⟩ := H
 obtain ⟨jA, hjA⟩ : ∃ j_ : Int, wrap64 (a1 * t184) = j_ := ⟨_, rfl⟩
 (try rw [hjA] at A4)
 (try rw [hjA] at A5)
 (try rw [hjA] at A6)
 (try rw [hjA] at A7)
 have hjAw : IntKind.i64.wrap (a1 * t184) = jA := (i64_w _).trans hjA
 obtain ⟨jB, hjB⟩ : ∃ j_ : Int, wrap64 (-a2) = j_ := ⟨_, rfl⟩
 (try rw [hjB] at A4)
 (try rw [hjB] at A5)
 (try rw [hjB] at A6)
 (try rw [hjB] at A7)
 have hjBw : IntKind.i64.wrap (-a2) = jB := (i64_w _).trans hjB
 obtain ⟨jC, hjC⟩ : ∃ j_ : Int, wrap64 (jB * t184) = j_ := ⟨_, rfl⟩
 (try rw [hjC] at A4)
 (try rw [hjC] at A5)
 (try rw [hjC] at A6)
 (try rw [hjC] at A7)
 have hjCw : IntKind.i64.wrap (jB * t184) = jC := (i64_w _).trans hjC
 obtain ⟨jD, hjD⟩ : ∃ j_ : Int, wrap64 (t182 + t185) = j_ := ⟨_, rfl⟩
 (try rw [hjD] at A4)
 (try rw [hjD] at A5)
 (try rw [hjD] at A6)
 (try rw [hjD] at A7)
 have hjDw : IntKind.i64.wrap (t182 + t185) = jD := (i64_w _).trans hjD
 obtain ⟨jE, hjE⟩ : ∃ j_ : Int, wrap64 (jD - a0_3) = j_ := ⟨_, rfl⟩
 (try rw [hjE] at A4)
 (try rw [hjE] at A5)
 (try rw [hjE] at A6)
 (try rw [hjE] at A7)
 have hjEw : IntKind.i64.wrap (jD - a0_3) = jE := (i64_w _).trans hjE
 obtain ⟨jF, hjF⟩ : ∃ j_ : Int, wrap64 (t183 - t186) = j_ := ⟨_, rfl⟩
 (try rw [hjF] at A4)
 (try rw [hjF] at A5)
 (try rw [hjF] at A6)
 (try rw [hjF] at A7)
 have hjFw : IntKind.i64.wrap (t183 - t186) = jF := (i64_w _).trans hjF
 obtain ⟨jG, hjG⟩ : ∃ j_ : Int, wrap64 (jF + a0_3) = j_ := ⟨_, rfl⟩
 (try rw [hjG] at A4)
 (try rw [hjG] at A5)
 (try rw [hjG] at A6)
 (try rw [hjG] at A7)
 have hjGw : IntKind.i64.wrap (jF + a0_3) = jG := (i64_w _).trans hjG
 (try simp only [hjA, hjB, hjC, hjD, hjE, hjF, hjG])
 go_enter Try.func42, Try.ntmps42
 go_wp2_with (first | ((with_reducible refine gate_dst (N := 3) rfl ?_); refine box_event ?hg (N := 3) ?hd (cs := #[.int .i64 a0_0, .int .i64 a0_1, .int .i64 a0_2, .int .i64 a0_3]) (t := 26) ?hr ?_; (case hd => rfl); (case hg => rfl); (case hr => first | (go_simp; done) | (go_simp; rfl)); intro gb181 hg w8 hbox hb; have n0_ := Aside0.mk (below_step (by repeat (first | (with_reducible first | exact HB.out | apply below_alloc | apply pw_below_drewN | apply below_drew1) | exact HB.out)) hb); have n1_ := Aside0.mk (hbox); have n2_ := Aside0.mk ((by rw [hg]; exact (below_size (by repeat (first | (with_reducible first | exact HB.out | apply below_alloc | apply pw_below_drewN | apply below_drew1) | exact HB.out))) : w.heap.size ≤ gb181)); have n3_ := Aside0.mk ((by rw [hg]; exact (below_size (by repeat (first | (with_reducible first | exact HB.out | apply below_alloc | apply pw_below_drewN | apply below_drew1) | exact HB.out))) : w.heap.size ≤ gb181)); clear HB; have HB := n0_; have BK181 := n1_; have GW181 := n2_; have GE181 := n3_; clear n0_ n1_ n2_ n3_; clear hb hbox hg; have hcz9_0 : w8.cell? ⟨gb181, 0, none⟩ = some (.int .i64 a0_0) := (blk_cell BK181.out 0).trans rfl; have hcz9_1 : w8.cell? ⟨gb181, 1, none⟩ = some (.int .i64 a0_1) := (blk_cell BK181.out 1).trans rfl; have hcz9_2 : w8.cell? ⟨gb181, 2, none⟩ = some (.int .i64 a0_2) := (blk_cell BK181.out 2).trans rfl; have hcz9_3 : w8.cell? ⟨gb181, 3, none⟩ = some (.int .i64 a0_3) := (blk_cell BK181.out 3).trans rfl; have hfz9_0 := blk_frozen BK181.out 0; have hfz9_1 := blk_frozen BK181.out 1; have hfz9_2 := blk_frozen BK181.out 2; have hfz9_3 := blk_frozen BK181.out 3) | (go_at_call 53; (with_reducible refine (impl_burstRange.calls k a0_0 a0_1 a0_2 a0_3 a1 a2 t182 t183 _ A4.out).mono ?_); rintro e w10 ⟨rfl, hb⟩; have n0_ := Aside0.mk (blk_below (g := gb181) (o := .cells #[.int .i64 a0_0, .int .i64 a0_1, .int .i64 a0_2, .int .i64 a0_3] 26 (0, 0)) (by (with_reducible repeat (first | refine blk_drewN ?_ _ | refine blk_drew ?_ | refine blk_alloc ?_ _)); exact BK181.out) hb); have n1_ := Aside0.mk (below_step (by repeat (first | (with_reducible first | exact HB.out | apply below_alloc | apply pw_below_drewN | apply below_drew1 | refine below_set ?_ GE181.out) | exact HB.out)) hb); clear BK181; clear HB; have BK181 := n0_; have HB := n1_; clear n0_ n1_; (try clear hb); (try clear hb2); (try clear hk); (try clear hi); have hcz11_0 : w10.cell? ⟨gb181, 0, none⟩ = some (.int .i64 a0_0) := (blk_cell BK181.out 0).trans rfl; have hcz11_1 : w10.cell? ⟨gb181, 1, none⟩ = some (.int .i64 a0_1) := (blk_cell BK181.out 1).trans rfl; have hcz11_2 : w10.cell? ⟨gb181, 2, none⟩ = some (.int .i64 a0_2) := (blk_cell BK181.out 2).trans rfl; have hcz11_3 : w10.cell? ⟨gb181, 3, none⟩ = some (.int .i64 a0_3) := (blk_cell BK181.out 3).trans rfl; have hfz11_0 := blk_frozen BK181.out 0; have hfz11_1 := blk_frozen BK181.out 1; have hfz11_2 := blk_frozen BK181.out 2; have hfz11_3 := blk_frozen BK181.out 3) | (go_at_call 54; (with_reducible refine (impl_debrisTime.calls k a0_0 a0_1 a0_2 a0_3 t184 _ A5.out).mono ?_); rintro e w12 ⟨rfl, hb⟩; have n0_ := Aside0.mk (blk_below (g := gb181) (o := .cells #[.int .i64 a0_0, .int .i64 a0_1, .int .i64 a0_2, .int .i64 a0_3] 26 (0, 0)) (by (with_reducible repeat (first | refine blk_drewN ?_ _ | refine blk_drew ?_ | refine blk_alloc ?_ _)); exact BK181.out) hb); have n1_ := Aside0.mk (below_step (by repeat (first | (with_reducible first | exact HB.out | apply below_alloc | apply pw_below_drewN | apply below_drew1 | refine below_set ?_ GE181.out) | exact HB.out)) hb); clear BK181; clear HB; have BK181 := n0_; have HB := n1_; clear n0_ n1_; (try clear hb); (try clear hb2); (try clear hk); (try clear hi)) | (go_at_call 30; (with_reducible refine (impl_floorDiv.calls jA 1000 t185 _ A6.out).mono ?_); rintro e w' ⟨rfl, ⟨nd, rfl⟩⟩; (try first | exact ⟨rfl, _, World.drewN_drewN _ _ _⟩ | exact ⟨rfl, _, Eq.trans (World.drewN_drewN _ _ _) (congrArg (World.drewN _) (Nat.add_assoc _ _ _))⟩); have hcz13_0 : w12.cell? ⟨gb181, 0, none⟩ = some (.int .i64 a0_0) := (blk_cell BK181.out 0).trans rfl; have hcz13_1 : w12.cell? ⟨gb181, 1, none⟩ = some (.int .i64 a0_1) := (blk_cell BK181.out 1).trans rfl; have hcz13_2 : w12.cell? ⟨gb181, 2, none⟩ = some (.int .i64 a0_2) := (blk_cell BK181.out 2).trans rfl; have hcz13_3 : w12.cell? ⟨gb181, 3, none⟩ = some (.int .i64 a0_3) := (blk_cell BK181.out 3).trans rfl; have hfz13_0 := blk_frozen BK181.out 0; have hfz13_1 := blk_frozen BK181.out 1; have hfz13_2 := blk_frozen BK181.out 2; have hfz13_3 := blk_frozen BK181.out 3) | (go_at_call 30; (with_reducible refine (impl_floorDiv.calls jC 1000 t186 _ A7.out).mono ?_); rintro e w' ⟨rfl, ⟨nd, rfl⟩⟩; (try first | exact ⟨rfl, _, World.drewN_drewN _ _ _⟩ | exact ⟨rfl, _, Eq.trans (World.drewN_drewN _ _ _) (congrArg (World.drewN _) (Nat.add_assoc _ _ _))⟩)))
 repeat (go_quiet (first | ((with_reducible refine gate_dst (N := 3) rfl ?_); refine box_event ?hg (N := 3) ?hd (cs := #[.int .i64 a0_0, .int .i64 a0_1, .int .i64 a0_2, .int .i64 a0_3]) (t := 26) ?hr ?_; (case hd => rfl); (case hg => rfl); (case hr => first | (go_simp; done) | (go_simp; rfl)); intro gb181 hg w8 hbox hb; have n0_ := Aside0.mk (below_step (by repeat (first | (with_reducible first | exact HB.out | apply below_alloc | apply pw_below_drewN | apply below_drew1) | exact HB.out)) hb); have n1_ := Aside0.mk (hbox); have n2_ := Aside0.mk ((by rw [hg]; exact (below_size (by repeat (first | (with_reducible first | exact HB.out | apply below_alloc | apply pw_below_drewN | apply below_drew1) | exact HB.out))) : w.heap.size ≤ gb181)); have n3_ := Aside0.mk ((by rw [hg]; exact (below_size (by repeat (first | (with_reducible first | exact HB.out | apply below_alloc | apply pw_below_drewN | apply below_drew1) | exact HB.out))) : w.heap.size ≤ gb181)); clear HB; have HB := n0_; have BK181 := n1_; have GW181 := n2_; have GE181 := n3_; clear n0_ n1_ n2_ n3_; clear hb hbox hg; have hcz9_0 : w8.cell? ⟨gb181, 0, none⟩ = some (.int .i64 a0_0) := (blk_cell BK181.out 0).trans rfl; have hcz9_1 : w8.cell? ⟨gb181, 1, none⟩ = some (.int .i64 a0_1) := (blk_cell BK181.out 1).trans rfl; have hcz9_2 : w8.cell? ⟨gb181, 2, none⟩ = some (.int .i64 a0_2) := (blk_cell BK181.out 2).trans rfl; have hcz9_3 : w8.cell? ⟨gb181, 3, none⟩ = some (.int .i64 a0_3) := (blk_cell BK181.out 3).trans rfl; have hfz9_0 := blk_frozen BK181.out 0; have hfz9_1 := blk_frozen BK181.out 1; have hfz9_2 := blk_frozen BK181.out 2; have hfz9_3 := blk_frozen BK181.out 3) | (go_at_call 53; (with_reducible refine (impl_burstRange.calls k a0_0 a0_1 a0_2 a0_3 a1 a2 t182 t183 _ A4.out).mono ?_); rintro e w10 ⟨rfl, hb⟩; have n0_ := Aside0.mk (blk_below (g := gb181) (o := .cells #[.int .i64 a0_0, .int .i64 a0_1, .int .i64 a0_2, .int .i64 a0_3] 26 (0, 0)) (by (with_reducible repeat (first | refine blk_drewN ?_ _ | refine blk_drew ?_ | refine blk_alloc ?_ _)); exact BK181.out) hb); have n1_ := Aside0.mk (below_step (by repeat (first | (with_reducible first | exact HB.out | apply below_alloc | apply pw_below_drewN | apply below_drew1 | refine below_set ?_ GE181.out) | exact HB.out)) hb); clear BK181; clear HB; have BK181 := n0_; have HB := n1_; clear n0_ n1_; (try clear hb); (try clear hb2); (try clear hk); (try clear hi); have hcz11_0 : w10.cell? ⟨gb181, 0, none⟩ = some (.int .i64 a0_0) := (blk_cell BK181.out 0).trans rfl; have hcz11_1 : w10.cell? ⟨gb181, 1, none⟩ = some (.int .i64 a0_1) := (blk_cell BK181.out 1).trans rfl; have hcz11_2 : w10.cell? ⟨gb181, 2, none⟩ = some (.int .i64 a0_2) := (blk_cell BK181.out 2).trans rfl; have hcz11_3 : w10.cell? ⟨gb181, 3, none⟩ = some (.int .i64 a0_3) := (blk_cell BK181.out 3).trans rfl; have hfz11_0 := blk_frozen BK181.out 0; have hfz11_1 := blk_frozen BK181.out 1; have hfz11_2 := blk_frozen BK181.out 2; have hfz11_3 := blk_frozen BK181.out 3) | (go_at_call 54; (with_reducible refine (impl_debrisTime.calls k a0_0 a0_1 a0_2 a0_3 t184 _ A5.out).mono ?_); rintro e w12 ⟨rfl, hb⟩; have n0_ := Aside0.mk (blk_below (g := gb181) (o := .cells #[.int .i64 a0_0, .int .i64 a0_1, .int .i64 a0_2, .int .i64 a0_3] 26 (0, 0)) (by (with_reducible repeat (first | refine blk_drewN ?_ _ | refine blk_drew ?_ | refine blk_alloc ?_ _)); exact BK181.out) hb); have n1_ := Aside0.mk (below_step (by repeat (first | (with_reducible first | exact HB.out | apply below_alloc | apply pw_below_drewN | apply below_drew1 | refine below_set ?_ GE181.out) | exact HB.out)) hb); clear BK181; clear HB; have BK181 := n0_; have HB := n1_; clear n0_ n1_; (try clear hb); (try clear hb2); (try clear hk); (try clear hi)) | (go_at_call 30; (with_reducible refine (impl_floorDiv.calls jA 1000 t185 _ A6.out).mono ?_); rintro e w' ⟨rfl, ⟨nd, rfl⟩⟩; (try first | exact ⟨rfl, _, World.drewN_drewN _ _ _⟩ | exact ⟨rfl, _, Eq.trans (World.drewN_drewN _ _ _) (congrArg (World.drewN _) (Nat.add_assoc _ _ _))⟩); have hcz13_0 : w12.cell? ⟨gb181, 0, none⟩ = some (.int .i64 a0_0) := (blk_cell BK181.out 0).trans rfl; have hcz13_1 : w12.cell? ⟨gb181, 1, none⟩ = some (.int .i64 a0_1) := (blk_cell BK181.out 1).trans rfl; have hcz13_2 : w12.cell? ⟨gb181, 2, none⟩ = some (.int .i64 a0_2) := (blk_cell BK181.out 2).trans rfl; have hcz13_3 : w12.cell? ⟨gb181, 3, none⟩ = some (.int .i64 a0_3) := (blk_cell BK181.out 3).trans rfl; have hfz13_0 := blk_frozen BK181.out 0; have hfz13_1 := blk_frozen BK181.out 1; have hfz13_2 := blk_frozen BK181.out 2; have hfz13_3 := blk_frozen BK181.out 3) | (go_at_call 30; (with_reducible refine (impl_floorDiv.calls jC 1000 t186 _ A7.out).mono ?_); rintro e w' ⟨rfl, ⟨nd, rfl⟩⟩; (try first | exact ⟨rfl, _, World.drewN_drewN _ _ _⟩ | exact ⟨rfl, _, Eq.trans (World.drewN_drewN _ _ _) (congrArg (World.drewN _) (Nat.add_assoc _ _ _))⟩))); try go_wp2_with (first | ((with_reducible refine gate_dst (N := 3) rfl ?_); refine box_event ?hg (N := 3) ?hd (cs := #[.int .i64 a0_0, .int .i64 a0_1, .int .i64 a0_2, .int .i64 a0_3]) (t := 26) ?hr ?_; (case hd => rfl); (case hg => rfl); (case hr => first | (go_simp; done) | (go_simp; rfl)); intro gb181 hg w8 hbox hb; have n0_ := Aside0.mk (below_step (by repeat (first | (with_reducible first | exact HB.out | apply below_alloc | apply pw_below_drewN | apply below_drew1) | exact HB.out)) hb); have n1_ := Aside0.mk (hbox); have n2_ := Aside0.mk ((by rw [hg]; exact (below_size (by repeat (first | (with_reducible first | exact HB.out | apply below_alloc | apply pw_below_drewN | apply below_drew1) | exact HB.out))) : w.heap.size ≤ gb181)); have n3_ := Aside0.mk ((by rw [hg]; exact (below_size (by repeat (first | (with_reducible first | exact HB.out | apply below_alloc | apply pw_below_drewN | apply below_drew1) | exact HB.out))) : w.heap.size ≤ gb181)); clear HB; have HB := n0_; have BK181 := n1_; have GW181 := n2_; have GE181 := n3_; clear n0_ n1_ n2_ n3_; clear hb hbox hg; have hcz9_0 : w8.cell? ⟨gb181, 0, none⟩ = some (.int .i64 a0_0) := (blk_cell BK181.out 0).trans rfl; have hcz9_1 : w8.cell? ⟨gb181, 1, none⟩ = some (.int .i64 a0_1) := (blk_cell BK181.out 1).trans rfl; have hcz9_2 : w8.cell? ⟨gb181, 2, none⟩ = some (.int .i64 a0_2) := (blk_cell BK181.out 2).trans rfl; have hcz9_3 : w8.cell? ⟨gb181, 3, none⟩ = some (.int .i64 a0_3) := (blk_cell BK181.out 3).trans rfl; have hfz9_0 := blk_frozen BK181.out 0; have hfz9_1 := blk_frozen BK181.out 1; have hfz9_2 := blk_frozen BK181.out 2; have hfz9_3 := blk_frozen BK181.out 3) | (go_at_call 53; (with_reducible refine (impl_burstRange.calls k a0_0 a0_1 a0_2 a0_3 a1 a2 t182 t183 _ A4.out).mono ?_); rintro e w10 ⟨rfl, hb⟩; have n0_ := Aside0.mk (blk_below (g := gb181) (o := .cells #[.int .i64 a0_0, .int .i64 a0_1, .int .i64 a0_2, .int .i64 a0_3] 26 (0, 0)) (by (with_reducible repeat (first | refine blk_drewN ?_ _ | refine blk_drew ?_ | refine blk_alloc ?_ _)); exact BK181.out) hb); have n1_ := Aside0.mk (below_step (by repeat (first | (with_reducible first | exact HB.out | apply below_alloc | apply pw_below_drewN | apply below_drew1 | refine below_set ?_ GE181.out) | exact HB.out)) hb); clear BK181; clear HB; have BK181 := n0_; have HB := n1_; clear n0_ n1_; (try clear hb); (try clear hb2); (try clear hk); (try clear hi); have hcz11_0 : w10.cell? ⟨gb181, 0, none⟩ = some (.int .i64 a0_0) := (blk_cell BK181.out 0).trans rfl; have hcz11_1 : w10.cell? ⟨gb181, 1, none⟩ = some (.int .i64 a0_1) := (blk_cell BK181.out 1).trans rfl; have hcz11_2 : w10.cell? ⟨gb181, 2, none⟩ = some (.int .i64 a0_2) := (blk_cell BK181.out 2).trans rfl; have hcz11_3 : w10.cell? ⟨gb181, 3, none⟩ = some (.int .i64 a0_3) := (blk_cell BK181.out 3).trans rfl; have hfz11_0 := blk_frozen BK181.out 0; have hfz11_1 := blk_frozen BK181.out 1; have hfz11_2 := blk_frozen BK181.out 2; have hfz11_3 := blk_frozen BK181.out 3) | (go_at_call 54; (with_reducible refine (impl_debrisTime.calls k a0_0 a0_1 a0_2 a0_3 t184 _ A5.out).mono ?_); rintro e w12 ⟨rfl, hb⟩; have n0_ := Aside0.mk (blk_below (g := gb181) (o := .cells #[.int .i64 a0_0, .int .i64 a0_1, .int .i64 a0_2, .int .i64 a0_3] 26 (0, 0)) (by (with_reducible repeat (first | refine blk_drewN ?_ _ | refine blk_drew ?_ | refine blk_alloc ?_ _)); exact BK181.out) hb); have n1_ := Aside0.mk (below_step (by repeat (first | (with_reducible first | exact HB.out | apply below_alloc | apply pw_below_drewN | apply below_drew1 | refine below_set ?_ GE181.out) | exact HB.out)) hb); clear BK181; clear HB; have BK181 := n0_; have HB := n1_; clear n0_ n1_; (try clear hb); (try clear hb2); (try clear hk); (try clear hi)) | (go_at_call 30; (with_reducible refine (impl_floorDiv.calls jA 1000 t185 _ A6.out).mono ?_); rintro e w' ⟨rfl, ⟨nd, rfl⟩⟩; (try first | exact ⟨rfl, _, World.drewN_drewN _ _ _⟩ | exact ⟨rfl, _, Eq.trans (World.drewN_drewN _ _ _) (congrArg (World.drewN _) (Nat.add_assoc _ _ _))⟩); have hcz13_0 : w12.cell? ⟨gb181, 0, none⟩ = some (.int .i64 a0_0) := (blk_cell BK181.out 0).trans rfl; have hcz13_1 : w12.cell? ⟨gb181, 1, none⟩ = some (.int .i64 a0_1) := (blk_cell BK181.out 1).trans rfl; have hcz13_2 : w12.cell? ⟨gb181, 2, none⟩ = some (.int .i64 a0_2) := (blk_cell BK181.out 2).trans rfl; have hcz13_3 : w12.cell? ⟨gb181, 3, none⟩ = some (.int .i64 a0_3) := (blk_cell BK181.out 3).trans rfl; have hfz13_0 := blk_frozen BK181.out 0; have hfz13_1 := blk_frozen BK181.out 1; have hfz13_2 := blk_frozen BK181.out 2; have hfz13_3 := blk_frozen BK181.out 3) | (go_at_call 30; (with_reducible refine (impl_floorDiv.calls jC 1000 t186 _ A7.out).mono ?_); rintro e w' ⟨rfl, ⟨nd, rfl⟩⟩; (try first | exact ⟨rfl, _, World.drewN_drewN _ _ _⟩ | exact ⟨rfl, _, Eq.trans (World.drewN_drewN _ _ _) (congrArg (World.drewN _) (Nat.add_assoc _ _ _))⟩))))
 go_ret2
 exact ⟨by first | rfl | (simp [errW_none, errW_some] <;> rfl) | (simp [*, errW_none, errW_some] <;> rfl), by repeat (first | (with_reducible first | exact HB.out | apply below_alloc | apply pw_below_drewN | apply below_drew1 | refine below_set ?_ GE181.out) | exact HB.out)⟩
end Go.Proofs.Ytemkongfmceedaa.F
namespace Go.Proofs.Ytemkongfmceedaa.F
open Go.RowKit Go.Proofs.YtemkongfmceedaaW.PrintWords Go.Proofs.YtemkongfmceedaaW.PrintLast Go.Proofs.YtemkongfmceedaaW.PrintMore
attribute [local go_sem] max2_int min2_int max_two min_two max_three min_three max_four min_four   -- for this text's walks alone
set_option linter.unusedVariables false
set_option linter.unusedSimpArgs false
def impl_flightOf.l0 : Nat → Int → Int → Int → Option (Int)
 | 0, _, _, _ => none
 | k + 1, x0, x3, x4 => if x3 < x4 then ((impl_heightAt.f x0 (wrap64 (Int.tdiv (wrap64 (x3 + x4)) 2))).bind fun t188 => (if t188 ≤ 0 then (impl_flightOf.l0 k x0 x3 (wrap64 (Int.tdiv (wrap64 (x3 + x4)) 2))) else (impl_flightOf.l0 k x0 (wrap64 ((wrap64 (Int.tdiv (wrap64 (x3 + x4)) 2)) + 1)) x4))) else (some x3)
def impl_flightOf.f (k : Nat) (a0 : Int) : Option (Int) := (impl_heightAt.f a0 1).bind fun t187 => (if t187 ≤ 0 then (some 1) else (impl_flightOf.l0 k a0 (wrap64 ((wrap64 (Int.tdiv (wrap64 (1000 * a0)) 9810)) + 1)) 60000))
theorem impl_flightOf.mono_l : ∀ k, (∀ y0 y1 y2, LeO (impl_flightOf.l0 k y0 y1 y2) (impl_flightOf.l0 (k + 1) y0 y1 y2))
 | 0 => fun _ _ _ r h => by simp [impl_flightOf.l0] at h
 | k + 1 => by
  have ih0 := impl_flightOf.mono_l k
  ·intro y0 y1 y2
   unfold impl_flightOf.l0
   repeat' first
   | (with_reducible exact ih0 _ _ _)
   | (with_reducible exact LeO.refl _)
   | (with_reducible exact LeO.none _)
   | (with_reducible refine LeO.ite ?_ ?_)
   | (with_reducible refine LeO.bind ?_ (fun _ => ?_))
   | exact ih0 _ _ _
   | exact LeO.none _
   | refine LeO.ite ?_ ?_
   | refine LeO.bind ?_ (fun _ => ?_)
theorem impl_flightOf.mono : ∀ a0 k, LeO (impl_flightOf.f k a0) (impl_flightOf.f (k + 1) a0) := by
 intro a0 k
 have ih0 := impl_flightOf.mono_l k
 unfold impl_flightOf.f
 repeat' first
   | (with_reducible exact ih0 _ _ _)
   | (with_reducible exact LeO.refl _)
   | (with_reducible exact LeO.none _)
   | (with_reducible refine LeO.ite ?_ ?_)
   | (with_reducible refine LeO.bind ?_ (fun _ => ?_))
   | exact ih0 _ _ _
   | exact LeO.none _
   | refine LeO.ite ?_ ?_
   | refine LeO.bind ?_ (fun _ => ?_)
set_option maxHeartbeats 8000000 in
set_option maxRecDepth 100000 in
theorem impl_flightOf.calls (k : Nat) (a0 : Int) (r : Int) (w : World) (h : impl_flightOf.f k a0 = some r) :
  Calls Try.prog 43 #[.int .i64 a0] w fun e w' => e = .returned (.int .i64 r) ∧ Drawn0 w w' := by
 have H : ((impl_heightAt.f a0 1).bind fun t187 => (if t187 ≤ 0 then (some 1) else (impl_flightOf.l0 k a0 (wrap64 ((wrap64 (Int.tdiv (wrap64 (1000 * a0)) 9810)) + 1)) 60000))) = some r := h
 clear h
 replace H := Option.bind_eq_some_iff.mp H
 obtain ⟨t187, A20, H⟩ := H
 replace H : (if t187 ≤ 0 then (some 1) else (impl_flightOf.l0 k a0 (wrap64 ((wrap64 (Int.tdiv (wrap64 (1000 * a0)) 9810)) + 1)) 60000)) = some r := H
 have A2 := Aside0.mk A20
 clear A20
 by_cases c3 : t187 ≤ 0
 ·rw [if_pos c3] at H
  have c3b0 : decide (t187 ≤ 0) = true := decide_eq_true c3
  clear c3
  obtain rfl := Option.some.inj H
  go_enter Try.func43, Try.ntmps43
  go_wp2_with (first | ((with_reducible refine gate_callee (f := 55) rfl ?_); refine goesL_ (some 7) rfl rfl Try.func55 (by kernel_rfl) rfl #[.int .i64 a0, .int .i64 1] rfl (by (try simp only [List.map_toArray, List.map_cons, List.map_nil]); first | done | rfl | (simp only [List.length_drop, List.length_take]; rfl)) ?_; (with_reducible refine (impl_heightAt.calls a0 1 t187 _ A2.out).mono ?_); rintro e w' ⟨rfl, ⟨nd, rfl⟩⟩; refine ⟨_, rfl, ?_⟩))
  go_ret
  exact ⟨by first | rfl | (simp; done) | (simp [*]; done), by repeat (first | exact Drawn0.refl _ | apply Drawn0.step)⟩
 ·rw [if_neg c3] at H
  have c3b0 : decide (t187 ≤ 0) = false := decide_eq_false c3
  clear c3
  have H' := Aside0.mk H
  clear H
  go_enter Try.func43, Try.ntmps43
  go_wp2_with (first | ((with_reducible refine gate_callee (f := 55) rfl ?_); refine goesL_ (some 7) rfl rfl Try.func55 (by kernel_rfl) rfl #[.int .i64 a0, .int .i64 1] rfl (by (try simp only [List.map_toArray, List.map_cons, List.map_nil]); first | done | rfl | (simp only [List.length_drop, List.length_take]; rfl)) ?_; (with_reducible refine (impl_heightAt.calls a0 1 t187 _ A2.out).mono ?_); rintro e w' ⟨rfl, ⟨nd, rfl⟩⟩; refine ⟨_, rfl, ?_⟩))
  go_loopg [3, 4] k (fun kq v3 v4 w' => ∃ (x3_1 : Int) (x4_1 : Int), v3 = .int .i64 x3_1 ∧ v4 = .int .i64 x4_1 ∧ Aside0 (impl_flightOf.l0 kq a0 x3_1 x4_1 = some r) ∧ Aside0 (kq ≤ k) ∧ Drawn0 w w')
  case atStart => exact ⟨(wrap64 ((wrap64 (Int.tdiv (wrap64 (1000 * a0)) 9810)) + 1)), (60000), (by first | rfl | (simp; done) | (simp [*]; done)), (by first | rfl | (simp; done) | (simp [*]; done)), H', ⟨Nat.le_refl _⟩, by repeat (first | exact Drawn0.refl _ | apply Drawn0.step)⟩
  case round =>
   clear H'
   try clear p2
   try clear c3
   try clear c3b0
   obtain ⟨x3_1, x4_1, rfl, rfl, HA, HK1, ⟨m1, rfl⟩⟩ := hrel
   cases gk with
   | zero => exact absurd HA.out (by simp [impl_flightOf.l0])
   | succ k1 =>
    have H := HA.out
    clear HA
    simp only [impl_flightOf.l0] at H
    by_cases c4 : x3_1 < x4_1
    ·rw [if_pos c4] at H
     have c4b0 : decide (x3_1 < x4_1) = true := decide_eq_true c4
     clear c4
     replace H := Option.bind_eq_some_iff.mp H
     obtain ⟨t188, A50, H⟩ := H
     replace H : (if t188 ≤ 0 then (impl_flightOf.l0 k1 a0 x3_1 (wrap64 (Int.tdiv (wrap64 (x3_1 + x4_1)) 2))) else (impl_flightOf.l0 k1 a0 (wrap64 ((wrap64 (Int.tdiv (wrap64 (x3_1 + x4_1)) 2)) + 1)) x4_1)) = some r := H
     have A5 := Aside0.mk A50
     clear A50
     by_cases c6 : t188 ≤ 0
     ·rw [if_pos c6] at H
      have c6b0 : decide (t188 ≤ 0) = true := decide_eq_true c6
      clear c6
      have H' := Aside0.mk H
      clear H
      go_wp2_with (first | ((with_reducible refine gate_callee (f := 55) rfl ?_); refine goesL_ (some 22) rfl rfl Try.func55 (by kernel_rfl) rfl #[.int .i64 a0, .int .i64 (wrap64 (Int.tdiv (wrap64 (x3_1 + x4_1)) 2))] rfl (by (try simp only [List.map_toArray, List.map_cons, List.map_nil]); first | done | rfl | (simp only [List.length_drop, List.length_take]; rfl)) ?_; (with_reducible refine (impl_heightAt.calls a0 (wrap64 (Int.tdiv (wrap64 (x3_1 + x4_1)) 2)) t188 _ A5.out).mono ?_); rintro e w' ⟨rfl, ⟨nd, rfl⟩⟩; refine ⟨_, rfl, ?_⟩))
      go_roundg k1
      case measure => have := HK1.out; omega
      case rel => exact ⟨(x3_1), (wrap64 (Int.tdiv (wrap64 (x3_1 + x4_1)) 2)), (by first | rfl | (simp; done) | (simp [*]; done)), (by first | rfl | (simp; done) | (simp [*]; done)), H', ⟨by have := HK1.out; omega⟩, by repeat (first | exact Drawn0.refl _ | apply Drawn0.step)⟩
     ·rw [if_neg c6] at H
      have c6b0 : decide (t188 ≤ 0) = false := decide_eq_false c6
      clear c6
      have H' := Aside0.mk H
      clear H
      go_wp2_with (first | ((with_reducible refine gate_callee (f := 55) rfl ?_); refine goesL_ (some 22) rfl rfl Try.func55 (by kernel_rfl) rfl #[.int .i64 a0, .int .i64 (wrap64 (Int.tdiv (wrap64 (x3_1 + x4_1)) 2))] rfl (by (try simp only [List.map_toArray, List.map_cons, List.map_nil]); first | done | rfl | (simp only [List.length_drop, List.length_take]; rfl)) ?_; (with_reducible refine (impl_heightAt.calls a0 (wrap64 (Int.tdiv (wrap64 (x3_1 + x4_1)) 2)) t188 _ A5.out).mono ?_); rintro e w' ⟨rfl, ⟨nd, rfl⟩⟩; refine ⟨_, rfl, ?_⟩))
      go_roundg k1
      case measure => have := HK1.out; omega
      case rel => exact ⟨(wrap64 ((wrap64 (Int.tdiv (wrap64 (x3_1 + x4_1)) 2)) + 1)), (x4_1), (by first | rfl | (simp; done) | (simp [*]; done)), (by first | rfl | (simp; done) | (simp [*]; done)), H', ⟨by have := HK1.out; omega⟩, by repeat (first | exact Drawn0.refl _ | apply Drawn0.step)⟩
    ·rw [if_neg c4] at H
     have c4b0 : decide (x3_1 < x4_1) = false := decide_eq_false c4
     clear c4
     obtain rfl := Option.some.inj H
     go_wp2
     go_ret
     exact ⟨by first | rfl | (simp; done) | (simp [*]; done), by repeat (first | exact Drawn0.refl _ | apply Drawn0.step)⟩
end Go.Proofs.Ytemkongfmceedaa.F
namespace Go.Proofs.Ytemkongfmceedaa.F
open Go.RowKit Go.Proofs.YtemkongfmceedaaW.PrintWords Go.Proofs.YtemkongfmceedaaW.PrintLast Go.Proofs.YtemkongfmceedaaW.PrintMore
attribute [local go_sem] max2_int min2_int max_two min_two max_three min_three max_four min_four   -- for this text's walks alone
set_option linter.unusedVariables false
set_option linter.unusedSimpArgs false
def impl_stripOf.f (k : Nat) (a0_0 : Int) (a0_1 : Int) (a0_2 : Int) (a0_3 : Int) (a1 : Int) (a2 : Int) : Option (Int × Int) := (impl_debrisRange.f k a0_0 a0_1 a0_2 a0_3 a1 a2).bind fun bt190 => ((impl_flightOf.f k a0_0).bind fun t192 => ((impl_driftAt.f a0_1 a1 t192).bind fun t193 => ((impl_driftAt.f a0_1 a2 t192).bind fun t194 => (some (mn (mn bt190.1 t193) 0, mx (mx bt190.2 t194) 0)))))
theorem impl_stripOf.mono : ∀ a0 a1 a2 a3 a4 a5 k, LeO (impl_stripOf.f k a0 a1 a2 a3 a4 a5) (impl_stripOf.f (k + 1) a0 a1 a2 a3 a4 a5) := by
 intro a0 a1 a2 a3 a4 a5 k
 unfold impl_stripOf.f
 repeat' first
   | (with_reducible exact impl_debrisRange.mono _ _ _ _ _ _ _)
   | (with_reducible exact impl_flightOf.mono _ _)
   | (with_reducible exact LeO.refl _)
   | (with_reducible exact LeO.none _)
   | (with_reducible refine LeO.ite ?_ ?_)
   | (with_reducible refine LeO.bind ?_ (fun _ => ?_))
   | exact impl_debrisRange.mono _ _ _ _ _ _ _
   | exact impl_flightOf.mono _ _
   | exact LeO.none _
   | refine LeO.ite ?_ ?_
   | refine LeO.bind ?_ (fun _ => ?_)
set_option maxHeartbeats 8000000 in
set_option maxRecDepth 100000 in
theorem impl_stripOf.calls (k : Nat) (a0_0 : Int) (a0_1 : Int) (a0_2 : Int) (a0_3 : Int) (a1 : Int) (a2 : Int) (r1 : Int) (r2 : Int) (w : World) (h : impl_stripOf.f k a0_0 a0_1 a0_2 a0_3 a1 a2 = some (r1, r2)) :
  Calls Try.prog 26 #[.agg #[.int .i64 a0_0, .int .i64 a0_1, .int .i64 a0_2, .int .i64 a0_3], .int .i64 a1, .int .i64 a2] w fun e w' => e = .returned (.tuple #[.int .i64 r1, .int .i64 r2]) ∧ Below w.heap.size w w' := by
 have hu26 := Try.underlying26
 have HB := Aside0.mk (Below.refl w.heap.size w)
 have H : ((impl_debrisRange.f k a0_0 a0_1 a0_2 a0_3 a1 a2).bind fun bt190 => ((impl_flightOf.f k a0_0).bind fun t192 => ((impl_driftAt.f a0_1 a1 t192).bind fun t193 => ((impl_driftAt.f a0_1 a2 t192).bind fun t194 => (some (mn (mn bt190.1 t193) 0, mx (mx bt190.2 t194) 0)))))) = some (r1, r2) := h
 clear h
 replace H := Option.bind_eq_some_iff.mp H
 obtain ⟨⟨t190, t191⟩, A40, H⟩ := H
 replace H : ((impl_flightOf.f k a0_0).bind fun t192 => ((impl_driftAt.f a0_1 a1 t192).bind fun t193 => ((impl_driftAt.f a0_1 a2 t192).bind fun t194 => (some (mn (mn t190 t193) 0, mx (mx t191 t194) 0))))) = some (r1, r2) := H
 have A4 := Aside0.mk A40
 clear A40
 replace H := Option.bind_eq_some_iff.mp H
 obtain ⟨t192, A50, H⟩ := H
 replace H : ((impl_driftAt.f a0_1 a1 t192).bind fun t193 => ((impl_driftAt.f a0_1 a2 t192).bind fun t194 => (some (mn (mn t190 t193) 0, mx (mx t191 t194) 0)))) = some (r1, r2) := H
 have A5 := Aside0.mk A50
 clear A50
 replace H := Option.bind_eq_some_iff.mp H
 obtain ⟨t193, A60, H⟩ := H
 replace H : ((impl_driftAt.f a0_1 a2 t192).bind fun t194 => (some (mn (mn t190 t193) 0, mx (mx t191 t194) 0))) = some (r1, r2) := H
 have A6 := Aside0.mk A60
 clear A60
 obtain ⟨ji7, hji7⟩ : ∃ j_ : Int, (mn t190 t193) = j_ := ⟨_, rfl⟩
 replace H : ((impl_driftAt.f a0_1 a2 t192).bind fun t194 => (some (mn (ji7) 0, mx (mx t191 t194) 0))) = some (r1, r2) := by first | (rw [hji7] at H; exact H) | (simp only [hji7] at H ⊢; exact H)
 (try rw [hji7] at A4)
 (try rw [hji7] at A5)
 (try rw [hji7] at A6)
 have hji7_ : (if t193 < t190 then t193 else t190) = ji7 := hji7
 obtain ⟨ji8, hji8⟩ : ∃ j_ : Int, (mn (ji7) 0) = j_ := ⟨_, rfl⟩
 replace H : ((impl_driftAt.f a0_1 a2 t192).bind fun t194 => (some (ji8, mx (mx t191 t194) 0))) = some (r1, r2) := by first | (rw [hji8] at H; exact H) | (simp only [hji8] at H ⊢; exact H)
 (try rw [hji8] at A4)
 (try rw [hji8] at A5)
 (try rw [hji8] at A6)
 have hji8_ : (if 0 < (ji7) then 0 else (ji7)) = ji8 := hji8
 replace H := Option.bind_eq_some_iff.mp H
 obtain ⟨t194, A90, H⟩ := H
 replace H : (some (ji8, mx (mx t191 t194) 0)) = some (r1, r2) := H
 have A9 := Aside0.mk A90
 clear A90
 obtain ⟨ji10, hji10⟩ : ∃ j_ : Int, (mx t191 t194) = j_ := ⟨_, rfl⟩
 replace H : (some (ji8, mx (ji10) 0)) = some (r1, r2) := by first | (rw [hji10] at H; exact H) | (simp only [hji10] at H ⊢; exact H)
 (try rw [hji10] at A4)
 (try rw [hji10] at A5)
 (try rw [hji10] at A6)
 (try rw [hji10] at A9)
 have hji10_ : (if t191 < t194 then t194 else t191) = ji10 := hji10
 obtain ⟨ji11, hji11⟩ : ∃ j_ : Int, (mx (ji10) 0) = j_ := ⟨_, rfl⟩
 replace H : (some (ji8, ji11)) = some (r1, r2) := by first | (rw [hji11] at H; exact H) | (simp only [hji11] at H ⊢; exact H)
 (try rw [hji11] at A4)
 (try rw [hji11] at A5)
 (try rw [hji11] at A6)
 (try rw [hji11] at A9)
 have hji11_ : (if (ji10) < 0 then 0 else (ji10)) = ji11 := hji11
 simp only [Option.some.injEq, Prod.mk.injEq] at H
 obtain ⟨rfl, rfl⟩ := H
 go_enter Try.func26, Try.ntmps26
 go_wp2_with (first | ((with_reducible refine gate_dst (N := 3) rfl ?_); refine box_event ?hg (N := 3) ?hd (cs := #[.int .i64 a0_0, .int .i64 a0_1, .int .i64 a0_2, .int .i64 a0_3]) (t := 26) ?hr ?_; (case hd => rfl); (case hg => rfl); (case hr => first | (go_simp; done) | (go_simp; rfl)); intro gb189 hg w12 hbox hb; have n0_ := Aside0.mk (below_step (by repeat (first | (with_reducible first | exact HB.out | apply below_alloc | apply pw_below_drewN | apply below_drew1) | exact HB.out)) hb); have n1_ := Aside0.mk (hbox); have n2_ := Aside0.mk ((by rw [hg]; exact (below_size (by repeat (first | (with_reducible first | exact HB.out | apply below_alloc | apply pw_below_drewN | apply below_drew1) | exact HB.out))) : w.heap.size ≤ gb189)); have n3_ := Aside0.mk ((by rw [hg]; exact (below_size (by repeat (first | (with_reducible first | exact HB.out | apply below_alloc | apply pw_below_drewN | apply below_drew1) | exact HB.out))) : w.heap.size ≤ gb189)); clear HB; have HB := n0_; have BK189 := n1_; have GW189 := n2_; have GE189 := n3_; clear n0_ n1_ n2_ n3_; clear hb hbox hg; have hcz13_0 : w12.cell? ⟨gb189, 0, none⟩ = some (.int .i64 a0_0) := (blk_cell BK189.out 0).trans rfl; have hcz13_1 : w12.cell? ⟨gb189, 1, none⟩ = some (.int .i64 a0_1) := (blk_cell BK189.out 1).trans rfl; have hcz13_2 : w12.cell? ⟨gb189, 2, none⟩ = some (.int .i64 a0_2) := (blk_cell BK189.out 2).trans rfl; have hcz13_3 : w12.cell? ⟨gb189, 3, none⟩ = some (.int .i64 a0_3) := (blk_cell BK189.out 3).trans rfl; have hfz13_0 := blk_frozen BK189.out 0; have hfz13_1 := blk_frozen BK189.out 1; have hfz13_2 := blk_frozen BK189.out 2; have hfz13_3 := blk_frozen BK189.out 3) | (go_at_call 42; (with_reducible refine (impl_debrisRange.calls k a0_0 a0_1 a0_2 a0_3 a1 a2 t190 t191 _ A4.out).mono ?_); rintro e w14 ⟨rfl, hb⟩; have n0_ := Aside0.mk (blk_below (g := gb189) (o := .cells #[.int .i64 a0_0, .int .i64 a0_1, .int .i64 a0_2, .int .i64 a0_3] 26 (0, 0)) (by (with_reducible repeat (first | refine blk_drewN ?_ _ | refine blk_drew ?_ | refine blk_alloc ?_ _)); exact BK189.out) hb); have n1_ := Aside0.mk (below_step (by repeat (first | (with_reducible first | exact HB.out | apply below_alloc | apply pw_below_drewN | apply below_drew1 | refine below_set ?_ GE189.out) | exact HB.out)) hb); clear BK189; clear HB; have BK189 := n0_; have HB := n1_; clear n0_ n1_; (try clear hb); (try clear hb2); (try clear hk); (try clear hi); have hcz15_0 : w14.cell? ⟨gb189, 0, none⟩ = some (.int .i64 a0_0) := (blk_cell BK189.out 0).trans rfl; have hcz15_1 : w14.cell? ⟨gb189, 1, none⟩ = some (.int .i64 a0_1) := (blk_cell BK189.out 1).trans rfl; have hcz15_2 : w14.cell? ⟨gb189, 2, none⟩ = some (.int .i64 a0_2) := (blk_cell BK189.out 2).trans rfl; have hcz15_3 : w14.cell? ⟨gb189, 3, none⟩ = some (.int .i64 a0_3) := (blk_cell BK189.out 3).trans rfl; have hfz15_0 := blk_frozen BK189.out 0; have hfz15_1 := blk_frozen BK189.out 1; have hfz15_2 := blk_frozen BK189.out 2; have hfz15_3 := blk_frozen BK189.out 3) | (go_at_call 43; (with_reducible refine (impl_flightOf.calls k a0_0 t192 _ A5.out).mono ?_); rintro e w' ⟨rfl, ⟨nd, rfl⟩⟩; (try first | exact ⟨rfl, _, World.drewN_drewN _ _ _⟩ | exact ⟨rfl, _, Eq.trans (World.drewN_drewN _ _ _) (congrArg (World.drewN _) (Nat.add_assoc _ _ _))⟩)) | (go_at_call 44; (with_reducible refine (impl_driftAt.calls a0_1 a1 t192 t193 _ A6.out).mono ?_); rintro e w' ⟨rfl, ⟨nd, rfl⟩⟩; (try first | exact ⟨rfl, _, World.drewN_drewN _ _ _⟩ | exact ⟨rfl, _, Eq.trans (World.drewN_drewN _ _ _) (congrArg (World.drewN _) (Nat.add_assoc _ _ _))⟩)) | (go_at_call 44; (with_reducible refine (impl_driftAt.calls a0_1 a2 t192 t194 _ A9.out).mono ?_); rintro e w' ⟨rfl, ⟨nd, rfl⟩⟩; (try first | exact ⟨rfl, _, World.drewN_drewN _ _ _⟩ | exact ⟨rfl, _, Eq.trans (World.drewN_drewN _ _ _) (congrArg (World.drewN _) (Nat.add_assoc _ _ _))⟩)))
 repeat (go_quiet (first | ((with_reducible refine gate_dst (N := 3) rfl ?_); refine box_event ?hg (N := 3) ?hd (cs := #[.int .i64 a0_0, .int .i64 a0_1, .int .i64 a0_2, .int .i64 a0_3]) (t := 26) ?hr ?_; (case hd => rfl); (case hg => rfl); (case hr => first | (go_simp; done) | (go_simp; rfl)); intro gb189 hg w12 hbox hb; have n0_ := Aside0.mk (below_step (by repeat (first | (with_reducible first | exact HB.out | apply below_alloc | apply pw_below_drewN | apply below_drew1) | exact HB.out)) hb); have n1_ := Aside0.mk (hbox); have n2_ := Aside0.mk ((by rw [hg]; exact (below_size (by repeat (first | (with_reducible first | exact HB.out | apply below_alloc | apply pw_below_drewN | apply below_drew1) | exact HB.out))) : w.heap.size ≤ gb189)); have n3_ := Aside0.mk ((by rw [hg]; exact (below_size (by repeat (first | (with_reducible first | exact HB.out | apply below_alloc | apply pw_below_drewN | apply below_drew1) | exact HB.out))) : w.heap.size ≤ gb189)); clear HB; have HB := n0_; have BK189 := n1_; have GW189 := n2_; have GE189 := n3_; clear n0_ n1_ n2_ n3_; clear hb hbox hg; have hcz13_0 : w12.cell? ⟨gb189, 0, none⟩ = some (.int .i64 a0_0) := (blk_cell BK189.out 0).trans rfl; have hcz13_1 : w12.cell? ⟨gb189, 1, none⟩ = some (.int .i64 a0_1) := (blk_cell BK189.out 1).trans rfl; have hcz13_2 : w12.cell? ⟨gb189, 2, none⟩ = some (.int .i64 a0_2) := (blk_cell BK189.out 2).trans rfl; have hcz13_3 : w12.cell? ⟨gb189, 3, none⟩ = some (.int .i64 a0_3) := (blk_cell BK189.out 3).trans rfl; have hfz13_0 := blk_frozen BK189.out 0; have hfz13_1 := blk_frozen BK189.out 1; have hfz13_2 := blk_frozen BK189.out 2; have hfz13_3 := blk_frozen BK189.out 3) | (go_at_call 42; (with_reducible refine (impl_debrisRange.calls k a0_0 a0_1 a0_2 a0_3 a1 a2 t190 t191 _ A4.out).mono ?_); rintro e w14 ⟨rfl, hb⟩; have n0_ := Aside0.mk (blk_below (g := gb189) (o := .cells #[.int .i64 a0_0, .int .i64 a0_1, .int .i64 a0_2, .int .i64 a0_3] 26 (0, 0)) (by (with_reducible repeat (first | refine blk_drewN ?_ _ | refine blk_drew ?_ | refine blk_alloc ?_ _)); exact BK189.out) hb); have n1_ := Aside0.mk (below_step (by repeat (first | (with_reducible first | exact HB.out | apply below_alloc | apply pw_below_drewN | apply below_drew1 | refine below_set ?_ GE189.out) | exact HB.out)) hb); clear BK189; clear HB; have BK189 := n0_; have HB := n1_; clear n0_ n1_; (try clear hb); (try clear hb2); (try clear hk); (try clear hi); have hcz15_0 : w14.cell? ⟨gb189, 0, none⟩ = some (.int .i64 a0_0) := (blk_cell BK189.out 0).trans rfl; have hcz15_1 : w14.cell? ⟨gb189, 1, none⟩ = some (.int .i64 a0_1) := (blk_cell BK189.out 1).trans rfl; have hcz15_2 : w14.cell? ⟨gb189, 2, none⟩ = some (.int .i64 a0_2) := (blk_cell BK189.out 2).trans rfl; have hcz15_3 : w14.cell? ⟨gb189, 3, none⟩ = some (.int .i64 a0_3) := (blk_cell BK189.out 3).trans rfl; have hfz15_0 := blk_frozen BK189.out 0; have hfz15_1 := blk_frozen BK189.out 1; have hfz15_2 := blk_frozen BK189.out 2; have hfz15_3 := blk_frozen BK189.out 3) | (go_at_call 43; (with_reducible refine (impl_flightOf.calls k a0_0 t192 _ A5.out).mono ?_); rintro e w' ⟨rfl, ⟨nd, rfl⟩⟩; (try first | exact ⟨rfl, _, World.drewN_drewN _ _ _⟩ | exact ⟨rfl, _, Eq.trans (World.drewN_drewN _ _ _) (congrArg (World.drewN _) (Nat.add_assoc _ _ _))⟩)) | (go_at_call 44; (with_reducible refine (impl_driftAt.calls a0_1 a1 t192 t193 _ A6.out).mono ?_); rintro e w' ⟨rfl, ⟨nd, rfl⟩⟩; (try first | exact ⟨rfl, _, World.drewN_drewN _ _ _⟩ | exact ⟨rfl, _, Eq.trans (World.drewN_drewN _ _ _) (congrArg (World.drewN _) (Nat.add_assoc _ _ _))⟩)) | (go_at_call 44; (with_reducible refine (impl_driftAt.calls a0_1 a2 t192 t194 _ A9.out).mono ?_); rintro e w' ⟨rfl, ⟨nd, rfl⟩⟩; (try first | exact ⟨rfl, _, World.drewN_drewN _ _ _⟩ | exact ⟨rfl, _, Eq.trans (World.drewN_drewN _ _ _) (congrArg (World.drewN _) (Nat.add_assoc _ _ _))⟩))); try go_wp2_with (first | ((with_reducible refine gate_dst (N := 3) rfl ?_); refine box_event ?hg (N := 3) ?hd (cs := #[.int .i64 a0_0, .int .i64 a0_1, .int .i64 a0_2, .int .i64 a0_3]) (t := 26) ?hr ?_; (case hd => rfl); (case hg => rfl); (case hr => first | (go_simp; done) | (go_simp; rfl)); intro gb189 hg w12 hbox hb; have n0_ := Aside0.mk (below_step (by repeat (first | (with_reducible first | exact HB.out | apply below_alloc | apply pw_below_drewN | apply below_drew1) | exact HB.out)) hb); have n1_ := Aside0.mk (hbox); have n2_ := Aside0.mk ((by rw [hg]; exact (below_size (by repeat (first | (with_reducible first | exact HB.out | apply below_alloc | apply pw_below_drewN | apply below_drew1) | exact HB.out))) : w.heap.size ≤ gb189)); have n3_ := Aside0.mk ((by rw [hg]; exact (below_size (by repeat (first | (with_reducible first | exact HB.out | apply below_alloc | apply pw_below_drewN | apply below_drew1) | exact HB.out))) : w.heap.size ≤ gb189)); clear HB; have HB := n0_; have BK189 := n1_; have GW189 := n2_; have GE189 := n3_; clear n0_ n1_ n2_ n3_; clear hb hbox hg; have hcz13_0 : w12.cell? ⟨gb189, 0, none⟩ = some (.int .i64 a0_0) := (blk_cell BK189.out 0).trans rfl; have hcz13_1 : w12.cell? ⟨gb189, 1, none⟩ = some (.int .i64 a0_1) := (blk_cell BK189.out 1).trans rfl; have hcz13_2 : w12.cell? ⟨gb189, 2, none⟩ = some (.int .i64 a0_2) := (blk_cell BK189.out 2).trans rfl; have hcz13_3 : w12.cell? ⟨gb189, 3, none⟩ = some (.int .i64 a0_3) := (blk_cell BK189.out 3).trans rfl; have hfz13_0 := blk_frozen BK189.out 0; have hfz13_1 := blk_frozen BK189.out 1; have hfz13_2 := blk_frozen BK189.out 2; have hfz13_3 := blk_frozen BK189.out 3) | (go_at_call 42; (with_reducible refine (impl_debrisRange.calls k a0_0 a0_1 a0_2 a0_3 a1 a2 t190 t191 _ A4.out).mono ?_); rintro e w14 ⟨rfl, hb⟩; have n0_ := Aside0.mk (blk_below (g := gb189) (o := .cells #[.int .i64 a0_0, .int .i64 a0_1, .int .i64 a0_2, .int .i64 a0_3] 26 (0, 0)) (by (with_reducible repeat (first | refine blk_drewN ?_ _ | refine blk_drew ?_ | refine blk_alloc ?_ _)); exact BK189.out) hb); have n1_ := Aside0.mk (below_step (by repeat (first | (with_reducible first | exact HB.out | apply below_alloc | apply pw_below_drewN | apply below_drew1 | refine below_set ?_ GE189.out) | exact HB.out)) hb); clear BK189; clear HB; have BK189 := n0_; have HB := n1_; clear n0_ n1_; (try clear hb); (try clear hb2); (try clear hk); (try clear hi); have hcz15_0 : w14.cell? ⟨gb189, 0, none⟩ = some (.int .i64 a0_0) := (blk_cell BK189.out 0).trans rfl; have hcz15_1 : w14.cell? ⟨gb189, 1, none⟩ = some (.int .i64 a0_1) := (blk_cell BK189.out 1).trans rfl; have hcz15_2 : w14.cell? ⟨gb189, 2, none⟩ = some (.int .i64 a0_2) := (blk_cell BK189.out 2).trans rfl; have hcz15_3 : w14.cell? ⟨gb189, 3, none⟩ = some (.int .i64 a0_3) := (blk_cell BK189.out 3).trans rfl; have hfz15_0 := blk_frozen BK189.out 0; have hfz15_1 := blk_frozen BK189.out 1; have hfz15_2 := blk_frozen BK189.out 2; have hfz15_3 := blk_frozen BK189.out 3) | (go_at_call 43; (with_reducible refine (impl_flightOf.calls k a0_0 t192 _ A5.out).mono ?_); rintro e w' ⟨rfl, ⟨nd, rfl⟩⟩; (try first | exact ⟨rfl, _, World.drewN_drewN _ _ _⟩ | exact ⟨rfl, _, Eq.trans (World.drewN_drewN _ _ _) (congrArg (World.drewN _) (Nat.add_assoc _ _ _))⟩)) | (go_at_call 44; (with_reducible refine (impl_driftAt.calls a0_1 a1 t192 t193 _ A6.out).mono ?_); rintro e w' ⟨rfl, ⟨nd, rfl⟩⟩; (try first | exact ⟨rfl, _, World.drewN_drewN _ _ _⟩ | exact ⟨rfl, _, Eq.trans (World.drewN_drewN _ _ _) (congrArg (World.drewN _) (Nat.add_assoc _ _ _))⟩)) | (go_at_call 44; (with_reducible refine (impl_driftAt.calls a0_1 a2 t192 t194 _ A9.out).mono ?_); rintro e w' ⟨rfl, ⟨nd, rfl⟩⟩; (try first | exact ⟨rfl, _, World.drewN_drewN _ _ _⟩ | exact ⟨rfl, _, Eq.trans (World.drewN_drewN _ _ _) (congrArg (World.drewN _) (Nat.add_assoc _ _ _))⟩))))
 go_ret2
 exact ⟨by first | rfl | (simp [errW_none, errW_some] <;> rfl) | (simp only [← hji7, ← hji8, ← hji10, ← hji11]; first | rfl | (simp [errW_none, errW_some] <;> rfl)) | (simp [*, errW_none, errW_some] <;> rfl), by repeat (first | (with_reducible first | exact HB.out | apply below_alloc | apply pw_below_drewN | apply below_drew1 | refine below_set ?_ GE189.out) | exact HB.out)⟩
end Go.Proofs.Ytemkongfmceedaa.F
namespace Go.Proofs.Ytemkongfmceedaa.F
open Go.RowKit Go.Proofs.YtemkongfmceedaaW.PrintWords Go.Proofs.YtemkongfmceedaaW.PrintLast Go.Proofs.YtemkongfmceedaaW.PrintMore
attribute [local go_sem] max2_int min2_int max_two min_two max_three min_three max_four min_four   -- for this text's walks alone
set_option linter.unusedVariables false
set_option linter.unusedSimpArgs false
def impl_MostWind.l0 : Nat → Int → Int → Int → Int → Int → Int → Int → Option (Int × Int)
 | 0, _, _, _, _, _, _, _ => none
 | k + 1, x1, x6, x7, x227000, x227001, x227002, x227003 => if x6 < x7 then ((impl_floorDiv.f (wrap64 ((wrap64 (x6 + x7)) + 1)) 2).bind fun t229 => ((impl_stripOf.f k x227000 x227001 x227002 x227003 (wrap64 (-t229)) t229).bind fun bt230 => (if bt230.1 ≥ (wrap64 (-x1)) then (if bt230.2 ≤ x1 then (impl_MostWind.l0 k x1 t229 x7 x227000 x227001 x227002 x227003) else (impl_MostWind.l0 k x1 x6 (wrap64 (t229 - 1)) x227000 x227001 x227002 x227003)) else (impl_MostWind.l0 k x1 x6 (wrap64 (t229 - 1)) x227000 x227001 x227002 x227003)))) else (if x6 < 0 then (some (0, 4)) else (some (x6, 0)))
def impl_MostWind.f (k : Nat) (a0_0 : Int) (a0_1 : Int) (a0_2 : Int) (a0_3 : Int) (a1 : Int) : Option (Int × Int) := (impl_IsShot.f a0_0 a0_1 a0_2 a0_3).bind fun t227 => (if t227 = true then ((impl_within.f a1 0 100000000).bind fun t228 => (if t228 = true then (impl_MostWind.l0 k a1 (-1) 50000 a0_0 a0_1 a0_2 a0_3) else (some (0, 2)))) else (some (0, 1)))
theorem impl_MostWind.mono_l : ∀ k, (∀ y0 y1 y2 y3 y4 y5 y6, LeO (impl_MostWind.l0 k y0 y1 y2 y3 y4 y5 y6) (impl_MostWind.l0 (k + 1) y0 y1 y2 y3 y4 y5 y6))
 | 0 => fun _ _ _ _ _ _ _ r h => by simp [impl_MostWind.l0] at h
 | k + 1 => by
  have ih0 := impl_MostWind.mono_l k
  ·intro y0 y1 y2 y3 y4 y5 y6
   unfold impl_MostWind.l0
   repeat' first
   | (with_reducible exact ih0 _ _ _ _ _ _ _)
   | (with_reducible exact impl_stripOf.mono _ _ _ _ _ _ _)
   | (with_reducible exact LeO.refl _)
   | (with_reducible exact LeO.none _)
   | (with_reducible refine LeO.ite ?_ ?_)
   | (with_reducible refine LeO.bind ?_ (fun _ => ?_))
   | exact ih0 _ _ _ _ _ _ _
   | exact impl_stripOf.mono _ _ _ _ _ _ _
   | exact LeO.none _
   | refine LeO.ite ?_ ?_
   | refine LeO.bind ?_ (fun _ => ?_)
theorem impl_MostWind.mono : ∀ a0 a1 a2 a3 a4 k, LeO (impl_MostWind.f k a0 a1 a2 a3 a4) (impl_MostWind.f (k + 1) a0 a1 a2 a3 a4) := by
 intro a0 a1 a2 a3 a4 k
 have ih0 := impl_MostWind.mono_l k
 unfold impl_MostWind.f
 repeat' first
   | (with_reducible exact ih0 _ _ _ _ _ _ _)
   | (with_reducible exact impl_stripOf.mono _ _ _ _ _ _ _)
   | (with_reducible exact LeO.refl _)
   | (with_reducible exact LeO.none _)
   | (with_reducible refine LeO.ite ?_ ?_)
   | (with_reducible refine LeO.bind ?_ (fun _ => ?_))
   | exact ih0 _ _ _ _ _ _ _
   | exact impl_stripOf.mono _ _ _ _ _ _ _
   | exact LeO.none _
   | refine LeO.ite ?_ ?_
   | refine LeO.bind ?_ (fun _ => ?_)
set_option maxHeartbeats 8000000 in
set_option maxRecDepth 100000 in
theorem impl_MostWind.calls (k : Nat) (a0_0 : Int) (a0_1 : Int) (a0_2 : Int) (a0_3 : Int) (a1 : Int) (r1 : Int) (r2 : Int) (w : World) (h : impl_MostWind.f k a0_0 a0_1 a0_2 a0_3 a1 = some (r1, r2)) :
  Calls Try.prog 12 #[.agg #[.int .i64 a0_0, .int .i64 a0_1, .int .i64 a0_2, .int .i64 a0_3], .int .i64 a1] w fun e w' => e = .returned (.tuple #[.int .i64 r1, .int .i64 r2]) ∧ Below w.heap.size w w' := by
 have hu26 := Try.underlying26
 have HB := Aside0.mk (Below.refl w.heap.size w)
 have H : ((impl_IsShot.f a0_0 a0_1 a0_2 a0_3).bind fun t227 => (if t227 = true then ((impl_within.f a1 0 100000000).bind fun t228 => (if t228 = true then (impl_MostWind.l0 k a1 (-1) 50000 a0_0 a0_1 a0_2 a0_3) else (some (0, 2)))) else (some (0, 1)))) = some (r1, r2) := h
 clear h
 replace H := Option.bind_eq_some_iff.mp H
 obtain ⟨t227, A30, H⟩ := H
 replace H : (if t227 = true then ((impl_within.f a1 0 100000000).bind fun t228 => (if t228 = true then (impl_MostWind.l0 k a1 (-1) 50000 a0_0 a0_1 a0_2 a0_3) else (some (0, 2)))) else (some (0, 1))) = some (r1, r2) := H
 have A3 := Aside0.mk A30
 clear A30
 by_cases c4 : t227 = true
 ·subst c4
  have H1 : ((impl_within.f a1 0 100000000).bind fun t228 => (if t228 = true then (impl_MostWind.l0 k a1 (-1) 50000 a0_0 a0_1 a0_2 a0_3) else (some (0, 2)))) = some (r1, r2) := by rw [if_pos rfl] at H; exact H
  clear H
  have H := H1
  clear H1
  replace H := Option.bind_eq_some_iff.mp H
  obtain ⟨t228, A50, H⟩ := H
  replace H : (if t228 = true then (impl_MostWind.l0 k a1 (-1) 50000 a0_0 a0_1 a0_2 a0_3) else (some (0, 2))) = some (r1, r2) := H
  have A5 := Aside0.mk A50
  clear A50
  by_cases c6 : t228 = true
  ·subst c6
   have H1 : (impl_MostWind.l0 k a1 (-1) 50000 a0_0 a0_1 a0_2 a0_3) = some (r1, r2) := by rw [if_pos rfl] at H; exact H
   clear H
   have H := H1
   clear H1
   have H' := Aside0.mk H
   clear H
   go_enter Try.func12, Try.ntmps12
   go_wp2_with (first | ((with_reducible refine gate_dst (N := 2) rfl ?_); refine box_event ?hg (N := 2) ?hd (cs := #[.int .i64 a0_0, .int .i64 a0_1, .int .i64 a0_2, .int .i64 a0_3]) (t := 26) ?hr ?_; (case hd => rfl); (case hg => rfl); (case hr => first | (go_simp; done) | (go_simp; rfl)); intro gb226 hg w7 hbox hb; have n0_ := Aside0.mk (below_step (by repeat (first | (with_reducible first | exact HB.out | apply below_alloc | apply pw_below_drewN | apply below_drew1) | exact HB.out)) hb); have n1_ := Aside0.mk (hbox); have n2_ := Aside0.mk ((by rw [hg]; exact (below_size (by repeat (first | (with_reducible first | exact HB.out | apply below_alloc | apply pw_below_drewN | apply below_drew1) | exact HB.out))) : w.heap.size ≤ gb226)); have n3_ := Aside0.mk ((by rw [hg]; exact (below_size (by repeat (first | (with_reducible first | exact HB.out | apply below_alloc | apply pw_below_drewN | apply below_drew1) | exact HB.out))) : w.heap.size ≤ gb226)); clear HB; have HB := n0_; have BK226 := n1_; have GW226 := n2_; have GE226 := n3_; clear n0_ n1_ n2_ n3_; clear hb hbox hg; have hcz8_0 : w7.cell? ⟨gb226, 0, none⟩ = some (.int .i64 a0_0) := (blk_cell BK226.out 0).trans rfl; have hcz8_1 : w7.cell? ⟨gb226, 1, none⟩ = some (.int .i64 a0_1) := (blk_cell BK226.out 1).trans rfl; have hcz8_2 : w7.cell? ⟨gb226, 2, none⟩ = some (.int .i64 a0_2) := (blk_cell BK226.out 2).trans rfl; have hcz8_3 : w7.cell? ⟨gb226, 3, none⟩ = some (.int .i64 a0_3) := (blk_cell BK226.out 3).trans rfl; have hfz8_0 := blk_frozen BK226.out 0; have hfz8_1 := blk_frozen BK226.out 1; have hfz8_2 := blk_frozen BK226.out 2; have hfz8_3 := blk_frozen BK226.out 3) | ((with_reducible refine gate_callee (f := 24) rfl ?_); refine goesL_ (some 12) rfl rfl Try.func24 (by kernel_rfl) rfl #[.agg #[.int .i64 a0_0, .int .i64 a0_1, .int .i64 a0_2, .int .i64 a0_3]] rfl (by (try simp only [List.map_toArray, List.map_cons, List.map_nil]); first | done | rfl | (simp only [List.length_drop, List.length_take]; rfl)) ?_; (with_reducible refine (impl_IsShot.calls a0_0 a0_1 a0_2 a0_3 true _ A3.out).mono ?_); rintro e w9 ⟨rfl, hb⟩; refine ⟨_, rfl, ?_⟩; have n0_ := Aside0.mk (blk_below (g := gb226) (o := .cells #[.int .i64 a0_0, .int .i64 a0_1, .int .i64 a0_2, .int .i64 a0_3] 26 (0, 0)) (by (with_reducible repeat (first | refine blk_drewN ?_ _ | refine blk_drew ?_ | refine blk_alloc ?_ _)); exact BK226.out) hb); have n1_ := Aside0.mk (below_step (by repeat (first | (with_reducible first | exact HB.out | apply below_alloc | apply pw_below_drewN | apply below_drew1 | refine below_set ?_ GE226.out) | exact HB.out)) hb); clear BK226; clear HB; have BK226 := n0_; have HB := n1_; clear n0_ n1_; (try clear hb); (try clear hb2); (try clear hk); (try clear hi)) | ((with_reducible refine gate_callee (f := 29) rfl ?_); refine goesL_ (some 15) rfl rfl Try.func29 (by kernel_rfl) rfl #[.int .i64 a1, .int .i64 0, .int .i64 100000000] rfl (by (try simp only [List.map_toArray, List.map_cons, List.map_nil]); first | done | rfl | (simp only [List.length_drop, List.length_take]; rfl)) ?_; (with_reducible refine (impl_within.calls a1 0 100000000 true _ A5.out).mono ?_); rintro e w' ⟨rfl, ⟨nd, rfl⟩⟩; refine ⟨_, rfl, ?_⟩))
   go_loopg [6, 7] k (fun kq v6 v7 w' => ∃ (x6_1 : Int) (x7_1 : Int), v6 = .int .i64 x6_1 ∧ v7 = .int .i64 x7_1 ∧ Aside0 (impl_MostWind.l0 kq a1 x6_1 x7_1 a0_0 a0_1 a0_2 a0_3 = some (r1, r2)) ∧ Aside0 (kq ≤ k) ∧ Aside0 (w'.heap[gb226]? = some (.cells #[.int .i64 a0_0, .int .i64 a0_1, .int .i64 a0_2, .int .i64 a0_3] 26 (0, 0))) ∧ Aside0 (Below w.heap.size w w'))
   case atStart => exact ⟨((-1)), (50000), (by first | rfl | (simp; done) | (simp [*]; done)), (by first | rfl | (simp; done) | (simp [*]; done)), H', ⟨Nat.le_refl _⟩, ⟨by (with_reducible repeat (first | refine blk_drewN ?_ _ | refine blk_drew ?_ | refine blk_alloc ?_ _)); exact BK226.out⟩, ⟨by repeat (first | (with_reducible first | exact HB.out | apply below_alloc | apply pw_below_drewN | apply below_drew1 | refine below_set ?_ GE226.out) | exact HB.out)⟩⟩
   case round =>
    clear H'
    try clear c1
    try clear c2
    try clear p2
    try clear c4
    try clear c6
    try clear hcz8_0
    try clear hcz8_1
    try clear hcz8_2
    try clear hcz8_3
    try clear hfz8_0
    try clear hfz8_1
    try clear hfz8_2
    try clear hfz8_3
    obtain ⟨x6_1, x7_1, rfl, rfl, HA, HK1, BK226, HB⟩ := hrel
    cases gk with
    | zero => exact absurd HA.out (by simp [impl_MostWind.l0])
    | succ k1 =>
     have H := HA.out
     clear HA
     simp only [impl_MostWind.l0] at H
     by_cases c10 : x6_1 < x7_1
     ·rw [if_pos c10] at H
      have c10b0 : decide (x6_1 < x7_1) = true := decide_eq_true c10
      clear c10
      replace H := Option.bind_eq_some_iff.mp H
      obtain ⟨t229, A110, H⟩ := H
      replace H : ((impl_stripOf.f k1 a0_0 a0_1 a0_2 a0_3 (wrap64 (-t229)) t229).bind fun bt230 => (if bt230.1 ≥ (wrap64 (-a1)) then (if bt230.2 ≤ a1 then (impl_MostWind.l0 k1 a1 t229 x7_1 a0_0 a0_1 a0_2 a0_3) else (impl_MostWind.l0 k1 a1 x6_1 (wrap64 (t229 - 1)) a0_0 a0_1 a0_2 a0_3)) else (impl_MostWind.l0 k1 a1 x6_1 (wrap64 (t229 - 1)) a0_0 a0_1 a0_2 a0_3))) = some (r1, r2) := H
      have A11 := Aside0.mk A110
      clear A110
      replace H := Option.bind_eq_some_iff.mp H
      obtain ⟨⟨t230, t231⟩, A120, H⟩ := H
      replace H : (if t230 ≥ (wrap64 (-a1)) then (if t231 ≤ a1 then (impl_MostWind.l0 k1 a1 t229 x7_1 a0_0 a0_1 a0_2 a0_3) else (impl_MostWind.l0 k1 a1 x6_1 (wrap64 (t229 - 1)) a0_0 a0_1 a0_2 a0_3)) else (impl_MostWind.l0 k1 a1 x6_1 (wrap64 (t229 - 1)) a0_0 a0_1 a0_2 a0_3)) = some (r1, r2) := H
      have A12 := Aside0.mk A120
      clear A120
      by_cases c13 : t230 ≥ (wrap64 (-a1))
      ·rw [if_pos c13] at H
       have c13b0 : decide ((wrap64 (-a1)) ≤ t230) = true := decide_eq_true c13
       clear c13
       by_cases c14 : t231 ≤ a1
       ·rw [if_pos c14] at H
        have c14b0 : decide (t231 ≤ a1) = true := decide_eq_true c14
        clear c14
        have H' := Aside0.mk H
        clear H
        go_wp2_with (first | ((with_reducible refine gate_callee (f := 30) rfl ?_); refine goesL_ (some 24) rfl rfl Try.func30 (by kernel_rfl) rfl #[.int .i64 (wrap64 ((wrap64 (x6_1 + x7_1)) + 1)), .int .i64 2] rfl (by (try simp only [List.map_toArray, List.map_cons, List.map_nil]); first | done | rfl | (simp only [List.length_drop, List.length_take]; rfl)) ?_; (with_reducible refine (impl_floorDiv.calls (wrap64 ((wrap64 (x6_1 + x7_1)) + 1)) 2 t229 _ A11.out).mono ?_); rintro e w' ⟨rfl, ⟨nd, rfl⟩⟩; refine ⟨_, rfl, ?_⟩; have hcz15_0 : wr.cell? ⟨gb226, 0, none⟩ = some (.int .i64 a0_0) := (blk_cell BK226.out 0).trans rfl; have hcz15_1 : wr.cell? ⟨gb226, 1, none⟩ = some (.int .i64 a0_1) := (blk_cell BK226.out 1).trans rfl; have hcz15_2 : wr.cell? ⟨gb226, 2, none⟩ = some (.int .i64 a0_2) := (blk_cell BK226.out 2).trans rfl; have hcz15_3 : wr.cell? ⟨gb226, 3, none⟩ = some (.int .i64 a0_3) := (blk_cell BK226.out 3).trans rfl; have hfz15_0 := blk_frozen BK226.out 0; have hfz15_1 := blk_frozen BK226.out 1; have hfz15_2 := blk_frozen BK226.out 2; have hfz15_3 := blk_frozen BK226.out 3) | ((with_reducible refine gate_callee (f := 26) rfl ?_); refine goesL_ (some 30) rfl rfl Try.func26 (by kernel_rfl) rfl #[.agg #[.int .i64 a0_0, .int .i64 a0_1, .int .i64 a0_2, .int .i64 a0_3], .int .i64 (wrap64 (-t229)), .int .i64 t229] rfl (by (try simp only [List.map_toArray, List.map_cons, List.map_nil]); first | done | rfl | (simp only [List.length_drop, List.length_take]; rfl)) ?_; (with_reducible refine (impl_stripOf.calls k1 a0_0 a0_1 a0_2 a0_3 (wrap64 (-t229)) t229 t230 t231 _ A12.out).mono ?_); rintro e w16 ⟨rfl, hb⟩; refine ⟨_, rfl, ?_⟩; have n0_ := Aside0.mk (blk_below (g := gb226) (o := .cells #[.int .i64 a0_0, .int .i64 a0_1, .int .i64 a0_2, .int .i64 a0_3] 26 (0, 0)) (by (with_reducible repeat (first | refine blk_drewN ?_ _ | refine blk_drew ?_ | refine blk_alloc ?_ _)); exact BK226.out) hb); have n1_ := Aside0.mk (below_step (by repeat (first | (with_reducible first | exact HB.out | apply below_alloc | apply pw_below_drewN | apply below_drew1 | refine below_set ?_ GE226.out) | exact HB.out)) hb); clear BK226; clear HB; have BK226 := n0_; have HB := n1_; clear n0_ n1_; (try clear hb); (try clear hb2); (try clear hk); (try clear hi)))
        go_roundg k1
        case measure => have := HK1.out; omega
        case rel => exact ⟨(t229), (x7_1), (by first | rfl | (simp; done) | (simp [*]; done)), (by first | rfl | (simp; done) | (simp [*]; done)), H', ⟨by have := HK1.out; omega⟩, ⟨by (with_reducible repeat (first | refine blk_drewN ?_ _ | refine blk_drew ?_ | refine blk_alloc ?_ _)); exact BK226.out⟩, ⟨by repeat (first | (with_reducible first | exact HB.out | apply below_alloc | apply pw_below_drewN | apply below_drew1 | refine below_set ?_ GE226.out) | exact HB.out)⟩⟩
       ·rw [if_neg c14] at H
        have c14b0 : decide (t231 ≤ a1) = false := decide_eq_false c14
        clear c14
        have H' := Aside0.mk H
        clear H
        go_wp2_with (first | ((with_reducible refine gate_callee (f := 30) rfl ?_); refine goesL_ (some 24) rfl rfl Try.func30 (by kernel_rfl) rfl #[.int .i64 (wrap64 ((wrap64 (x6_1 + x7_1)) + 1)), .int .i64 2] rfl (by (try simp only [List.map_toArray, List.map_cons, List.map_nil]); first | done | rfl | (simp only [List.length_drop, List.length_take]; rfl)) ?_; (with_reducible refine (impl_floorDiv.calls (wrap64 ((wrap64 (x6_1 + x7_1)) + 1)) 2 t229 _ A11.out).mono ?_); rintro e w' ⟨rfl, ⟨nd, rfl⟩⟩; refine ⟨_, rfl, ?_⟩; have hcz17_0 : wr.cell? ⟨gb226, 0, none⟩ = some (.int .i64 a0_0) := (blk_cell BK226.out 0).trans rfl; have hcz17_1 : wr.cell? ⟨gb226, 1, none⟩ = some (.int .i64 a0_1) := (blk_cell BK226.out 1).trans rfl; have hcz17_2 : wr.cell? ⟨gb226, 2, none⟩ = some (.int .i64 a0_2) := (blk_cell BK226.out 2).trans rfl; have hcz17_3 : wr.cell? ⟨gb226, 3, none⟩ = some (.int .i64 a0_3) := (blk_cell BK226.out 3).trans rfl; have hfz17_0 := blk_frozen BK226.out 0; have hfz17_1 := blk_frozen BK226.out 1; have hfz17_2 := blk_frozen BK226.out 2; have hfz17_3 := blk_frozen BK226.out 3) | ((with_reducible refine gate_callee (f := 26) rfl ?_); refine goesL_ (some 30) rfl rfl Try.func26 (by kernel_rfl) rfl #[.agg #[.int .i64 a0_0, .int .i64 a0_1, .int .i64 a0_2, .int .i64 a0_3], .int .i64 (wrap64 (-t229)), .int .i64 t229] rfl (by (try simp only [List.map_toArray, List.map_cons, List.map_nil]); first | done | rfl | (simp only [List.length_drop, List.length_take]; rfl)) ?_; (with_reducible refine (impl_stripOf.calls k1 a0_0 a0_1 a0_2 a0_3 (wrap64 (-t229)) t229 t230 t231 _ A12.out).mono ?_); rintro e w18 ⟨rfl, hb⟩; refine ⟨_, rfl, ?_⟩; have n0_ := Aside0.mk (blk_below (g := gb226) (o := .cells #[.int .i64 a0_0, .int .i64 a0_1, .int .i64 a0_2, .int .i64 a0_3] 26 (0, 0)) (by (with_reducible repeat (first | refine blk_drewN ?_ _ | refine blk_drew ?_ | refine blk_alloc ?_ _)); exact BK226.out) hb); have n1_ := Aside0.mk (below_step (by repeat (first | (with_reducible first | exact HB.out | apply below_alloc | apply pw_below_drewN | apply below_drew1 | refine below_set ?_ GE226.out) | exact HB.out)) hb); clear BK226; clear HB; have BK226 := n0_; have HB := n1_; clear n0_ n1_; (try clear hb); (try clear hb2); (try clear hk); (try clear hi)))
        go_roundg k1
        case measure => have := HK1.out; omega
        case rel => exact ⟨(x6_1), (wrap64 (t229 - 1)), (by first | rfl | (simp; done) | (simp [*]; done)), (by first | rfl | (simp; done) | (simp [*]; done)), H', ⟨by have := HK1.out; omega⟩, ⟨by (with_reducible repeat (first | refine blk_drewN ?_ _ | refine blk_drew ?_ | refine blk_alloc ?_ _)); exact BK226.out⟩, ⟨by repeat (first | (with_reducible first | exact HB.out | apply below_alloc | apply pw_below_drewN | apply below_drew1 | refine below_set ?_ GE226.out) | exact HB.out)⟩⟩
      ·rw [if_neg c13] at H
       have c13b0 : decide ((wrap64 (-a1)) ≤ t230) = false := decide_eq_false c13
       clear c13
       have H' := Aside0.mk H
       clear H
       go_wp2_with (first | ((with_reducible refine gate_callee (f := 30) rfl ?_); refine goesL_ (some 24) rfl rfl Try.func30 (by kernel_rfl) rfl #[.int .i64 (wrap64 ((wrap64 (x6_1 + x7_1)) + 1)), .int .i64 2] rfl (by (try simp only [List.map_toArray, List.map_cons, List.map_nil]); first | done | rfl | (simp only [List.length_drop, List.length_take]; rfl)) ?_; (with_reducible refine (impl_floorDiv.calls (wrap64 ((wrap64 (x6_1 + x7_1)) + 1)) 2 t229 _ A11.out).mono ?_); rintro e w' ⟨rfl, ⟨nd, rfl⟩⟩; refine ⟨_, rfl, ?_⟩; have hcz19_0 : wr.cell? ⟨gb226, 0, none⟩ = some (.int .i64 a0_0) := (blk_cell BK226.out 0).trans rfl; have hcz19_1 : wr.cell? ⟨gb226, 1, none⟩ = some (.int .i64 a0_1) := (blk_cell BK226.out 1).trans rfl; have hcz19_2 : wr.cell? ⟨gb226, 2, none⟩ = some (.int .i64 a0_2) := (blk_cell BK226.out 2).trans rfl; have hcz19_3 : wr.cell? ⟨gb226, 3, none⟩ = some (.int .i64 a0_3) := (blk_cell BK226.out 3).trans rfl; have hfz19_0 := blk_frozen BK226.out 0; have hfz19_1 := blk_frozen BK226.out 1; have hfz19_2 := blk_frozen BK226.out 2; have hfz19_3 := blk_frozen BK226.out 3) | ((with_reducible refine gate_callee (f := 26) rfl ?_); refine goesL_ (some 30) rfl rfl Try.func26 (by kernel_rfl) rfl #[.agg #[.int .i64 a0_0, .int .i64 a0_1, .int .i64 a0_2, .int .i64 a0_3], .int .i64 (wrap64 (-t229)), .int .i64 t229] rfl (by (try simp only [List.map_toArray, List.map_cons, List.map_nil]); first | done | rfl | (simp only [List.length_drop, List.length_take]; rfl)) ?_; (with_reducible refine (impl_stripOf.calls k1 a0_0 a0_1 a0_2 a0_3 (wrap64 (-t229)) t229 t230 t231 _ A12.out).mono ?_); rintro e w20 ⟨rfl, hb⟩; refine ⟨_, rfl, ?_⟩; have n0_ := Aside0.mk (blk_below (g := gb226) (o := .cells #[.int .i64 a0_0, .int .i64 a0_1, .int .i64 a0_2, .int .i64 a0_3] 26 (0, 0)) (by (with_reducible repeat (first | refine blk_drewN ?_ _ | refine blk_drew ?_ | refine blk_alloc ?_ _)); exact BK226.out) hb); have n1_ := Aside0.mk (below_step (by repeat (first | (with_reducible first | exact HB.out | apply below_alloc | apply pw_below_drewN | apply below_drew1 | refine below_set ?_ GE226.out) | exact HB.out)) hb); clear BK226; clear HB; have BK226 := n0_; have HB := n1_; clear n0_ n1_; (try clear hb); (try clear hb2); (try clear hk); (try clear hi)))
       go_roundg k1
       case measure => have := HK1.out; omega
       case rel => exact ⟨(x6_1), (wrap64 (t229 - 1)), (by first | rfl | (simp; done) | (simp [*]; done)), (by first | rfl | (simp; done) | (simp [*]; done)), H', ⟨by have := HK1.out; omega⟩, ⟨by (with_reducible repeat (first | refine blk_drewN ?_ _ | refine blk_drew ?_ | refine blk_alloc ?_ _)); exact BK226.out⟩, ⟨by repeat (first | (with_reducible first | exact HB.out | apply below_alloc | apply pw_below_drewN | apply below_drew1 | refine below_set ?_ GE226.out) | exact HB.out)⟩⟩
     ·rw [if_neg c10] at H
      have c10b0 : decide (x6_1 < x7_1) = false := decide_eq_false c10
      clear c10
      by_cases c21 : x6_1 < 0
      ·rw [if_pos c21] at H
       have c21b0 : decide (x6_1 < 0) = true := decide_eq_true c21
       clear c21
       simp only [Option.some.injEq, Prod.mk.injEq] at H
       obtain ⟨rfl, rfl⟩ := H
       go_wp2
       go_ret2
       exact ⟨by first | rfl | (simp [errW_none, errW_some] <;> rfl) | (simp [*, errW_none, errW_some] <;> rfl), by repeat (first | (with_reducible first | exact HB.out | apply below_alloc | apply pw_below_drewN | apply below_drew1 | refine below_set ?_ GE226.out) | exact HB.out)⟩
      ·rw [if_neg c21] at H
       have c21b0 : decide (x6_1 < 0) = false := decide_eq_false c21
       clear c21
       simp only [Option.some.injEq, Prod.mk.injEq] at H
       obtain ⟨rfl, rfl⟩ := H
       go_wp2
       go_ret2
       exact ⟨by first | rfl | (simp [errW_none, errW_some] <;> rfl) | (simp [*, errW_none, errW_some] <;> rfl), by repeat (first | (with_reducible first | exact HB.out | apply below_alloc | apply pw_below_drewN | apply below_drew1 | refine below_set ?_ GE226.out) | exact HB.out)⟩
  ·replace c6 := Bool.eq_false_iff.mpr c6
   subst c6
   have H1 : (some (0, 2)) = some (r1, r2) := by rw [if_neg (show ¬ (false = true) by decide)] at H; exact H
   clear H
   have H := H1
   clear H1
   simp only [Option.some.injEq, Prod.mk.injEq] at H
   obtain ⟨rfl, rfl⟩ := H
   go_enter Try.func12, Try.ntmps12
   go_wp2_with (first | ((with_reducible refine gate_dst (N := 2) rfl ?_); refine box_event ?hg (N := 2) ?hd (cs := #[.int .i64 a0_0, .int .i64 a0_1, .int .i64 a0_2, .int .i64 a0_3]) (t := 26) ?hr ?_; (case hd => rfl); (case hg => rfl); (case hr => first | (go_simp; done) | (go_simp; rfl)); intro gb226 hg w22 hbox hb; have n0_ := Aside0.mk (below_step (by repeat (first | (with_reducible first | exact HB.out | apply below_alloc | apply pw_below_drewN | apply below_drew1) | exact HB.out)) hb); have n1_ := Aside0.mk (hbox); have n2_ := Aside0.mk ((by rw [hg]; exact (below_size (by repeat (first | (with_reducible first | exact HB.out | apply below_alloc | apply pw_below_drewN | apply below_drew1) | exact HB.out))) : w.heap.size ≤ gb226)); have n3_ := Aside0.mk ((by rw [hg]; exact (below_size (by repeat (first | (with_reducible first | exact HB.out | apply below_alloc | apply pw_below_drewN | apply below_drew1) | exact HB.out))) : w.heap.size ≤ gb226)); clear HB; have HB := n0_; have BK226 := n1_; have GW226 := n2_; have GE226 := n3_; clear n0_ n1_ n2_ n3_; clear hb hbox hg; have hcz23_0 : w22.cell? ⟨gb226, 0, none⟩ = some (.int .i64 a0_0) := (blk_cell BK226.out 0).trans rfl; have hcz23_1 : w22.cell? ⟨gb226, 1, none⟩ = some (.int .i64 a0_1) := (blk_cell BK226.out 1).trans rfl; have hcz23_2 : w22.cell? ⟨gb226, 2, none⟩ = some (.int .i64 a0_2) := (blk_cell BK226.out 2).trans rfl; have hcz23_3 : w22.cell? ⟨gb226, 3, none⟩ = some (.int .i64 a0_3) := (blk_cell BK226.out 3).trans rfl; have hfz23_0 := blk_frozen BK226.out 0; have hfz23_1 := blk_frozen BK226.out 1; have hfz23_2 := blk_frozen BK226.out 2; have hfz23_3 := blk_frozen BK226.out 3) | ((with_reducible refine gate_callee (f := 24) rfl ?_); refine goesL_ (some 12) rfl rfl Try.func24 (by kernel_rfl) rfl #[.agg #[.int .i64 a0_0, .int .i64 a0_1, .int .i64 a0_2, .int .i64 a0_3]] rfl (by (try simp only [List.map_toArray, List.map_cons, List.map_nil]); first | done | rfl | (simp only [List.length_drop, List.length_take]; rfl)) ?_; (with_reducible refine (impl_IsShot.calls a0_0 a0_1 a0_2 a0_3 true _ A3.out).mono ?_); rintro e w24 ⟨rfl, hb⟩; refine ⟨_, rfl, ?_⟩; have n0_ := Aside0.mk (blk_below (g := gb226) (o := .cells #[.int .i64 a0_0, .int .i64 a0_1, .int .i64 a0_2, .int .i64 a0_3] 26 (0, 0)) (by (with_reducible repeat (first | refine blk_drewN ?_ _ | refine blk_drew ?_ | refine blk_alloc ?_ _)); exact BK226.out) hb); have n1_ := Aside0.mk (below_step (by repeat (first | (with_reducible first | exact HB.out | apply below_alloc | apply pw_below_drewN | apply below_drew1 | refine below_set ?_ GE226.out) | exact HB.out)) hb); clear BK226; clear HB; have BK226 := n0_; have HB := n1_; clear n0_ n1_; (try clear hb); (try clear hb2); (try clear hk); (try clear hi)) | ((with_reducible refine gate_callee (f := 29) rfl ?_); refine goesL_ (some 15) rfl rfl Try.func29 (by kernel_rfl) rfl #[.int .i64 a1, .int .i64 0, .int .i64 100000000] rfl (by (try simp only [List.map_toArray, List.map_cons, List.map_nil]); first | done | rfl | (simp only [List.length_drop, List.length_take]; rfl)) ?_; (with_reducible refine (impl_within.calls a1 0 100000000 false _ A5.out).mono ?_); rintro e w' ⟨rfl, ⟨nd, rfl⟩⟩; refine ⟨_, rfl, ?_⟩))
   go_ret2
   exact ⟨by first | rfl | (simp [errW_none, errW_some] <;> rfl) | (simp [*, errW_none, errW_some] <;> rfl), by repeat (first | (with_reducible first | exact HB.out | apply below_alloc | apply pw_below_drewN | apply below_drew1 | refine below_set ?_ GE226.out) | exact HB.out)⟩
 ·replace c4 := Bool.eq_false_iff.mpr c4
  subst c4
  have H1 : (some (0, 1)) = some (r1, r2) := by rw [if_neg (show ¬ (false = true) by decide)] at H; exact H
  clear H
  have H := H1
  clear H1
  simp only [Option.some.injEq, Prod.mk.injEq] at H
  obtain ⟨rfl, rfl⟩ := H
  go_enter Try.func12, Try.ntmps12
  go_wp2_with (first | ((with_reducible refine gate_dst (N := 2) rfl ?_); refine box_event ?hg (N := 2) ?hd (cs := #[.int .i64 a0_0, .int .i64 a0_1, .int .i64 a0_2, .int .i64 a0_3]) (t := 26) ?hr ?_; (case hd => rfl); (case hg => rfl); (case hr => first | (go_simp; done) | (go_simp; rfl)); intro gb226 hg w25 hbox hb; have n0_ := Aside0.mk (below_step (by repeat (first | (with_reducible first | exact HB.out | apply below_alloc | apply pw_below_drewN | apply below_drew1) | exact HB.out)) hb); have n1_ := Aside0.mk (hbox); have n2_ := Aside0.mk ((by rw [hg]; exact (below_size (by repeat (first | (with_reducible first | exact HB.out | apply below_alloc | apply pw_below_drewN | apply below_drew1) | exact HB.out))) : w.heap.size ≤ gb226)); have n3_ := Aside0.mk ((by rw [hg]; exact (below_size (by repeat (first | (with_reducible first | exact HB.out | apply below_alloc | apply pw_below_drewN | apply below_drew1) | exact HB.out))) : w.heap.size ≤ gb226)); clear HB; have HB := n0_; have BK226 := n1_; have GW226 := n2_; have GE226 := n3_; clear n0_ n1_ n2_ n3_; clear hb hbox hg; have hcz26_0 : w25.cell? ⟨gb226, 0, none⟩ = some (.int .i64 a0_0) := (blk_cell BK226.out 0).trans rfl; have hcz26_1 : w25.cell? ⟨gb226, 1, none⟩ = some (.int .i64 a0_1) := (blk_cell BK226.out 1).trans rfl; have hcz26_2 : w25.cell? ⟨gb226, 2, none⟩ = some (.int .i64 a0_2) := (blk_cell BK226.out 2).trans rfl; have hcz26_3 : w25.cell? ⟨gb226, 3, none⟩ = some (.int .i64 a0_3) := (blk_cell BK226.out 3).trans rfl; have hfz26_0 := blk_frozen BK226.out 0; have hfz26_1 := blk_frozen BK226.out 1; have hfz26_2 := blk_frozen BK226.out 2; have hfz26_3 := blk_frozen BK226.out 3) | ((with_reducible refine gate_callee (f := 24) rfl ?_); refine goesL_ (some 12) rfl rfl Try.func24 (by kernel_rfl) rfl #[.agg #[.int .i64 a0_0, .int .i64 a0_1, .int .i64 a0_2, .int .i64 a0_3]] rfl (by (try simp only [List.map_toArray, List.map_cons, List.map_nil]); first | done | rfl | (simp only [List.length_drop, List.length_take]; rfl)) ?_; (with_reducible refine (impl_IsShot.calls a0_0 a0_1 a0_2 a0_3 false _ A3.out).mono ?_); rintro e w27 ⟨rfl, hb⟩; refine ⟨_, rfl, ?_⟩; have n0_ := Aside0.mk (blk_below (g := gb226) (o := .cells #[.int .i64 a0_0, .int .i64 a0_1, .int .i64 a0_2, .int .i64 a0_3] 26 (0, 0)) (by (with_reducible repeat (first | refine blk_drewN ?_ _ | refine blk_drew ?_ | refine blk_alloc ?_ _)); exact BK226.out) hb); have n1_ := Aside0.mk (below_step (by repeat (first | (with_reducible first | exact HB.out | apply below_alloc | apply pw_below_drewN | apply below_drew1 | refine below_set ?_ GE226.out) | exact HB.out)) hb); clear BK226; clear HB; have BK226 := n0_; have HB := n1_; clear n0_ n1_; (try clear hb); (try clear hb2); (try clear hk); (try clear hi)))
  go_ret2
  exact ⟨by first | rfl | (simp [errW_none, errW_some] <;> rfl) | (simp [*, errW_none, errW_some] <;> rfl), by repeat (first | (with_reducible first | exact HB.out | apply below_alloc | apply pw_below_drewN | apply below_drew1 | refine below_set ?_ GE226.out) | exact HB.out)⟩
end Go.Proofs.Ytemkongfmceedaa.F
namespace Go.Proofs.Ytemkongfmceedaa.F
open Go.RowKit Go.Proofs.YtemkongfmceedaaW.PrintWords Go.Proofs.YtemkongfmceedaaW.PrintLast Go.Proofs.YtemkongfmceedaaW.PrintMore
set_option linter.unusedVariables false
set_option linter.unusedSimpArgs false
theorem one23 : Try.prog.cellsOf 2 = 1 := by kernel_rfl
theorem size23 : Try.prog.cellsOf 23 = 4 := by kernel_rfl
theorem open_V23 {H : Type} {enc : TypeId × Value → H} {W : World} {base : Nat} {sp : Nat → Bool} {held : Bool} {fuel : Nat} {cs : List Value} {y : DataW H × List MemPlace} (h : DataW.trod enc Try.prog W base sp held fuel 23 cs = some y) : ∃ (z0 : Int) (z1 : Int) (z2 : Int) (z3 : Int), cs = [.int .i64 z0, .int .i64 z1, .int .i64 z2, .int .i64 z3] ∧ I64 z0 ∧ I64 z1 ∧ I64 z2 ∧ I64 z3 := by
 obtain ⟨xs, n, _, rfl, hl, hlen, hf⟩ := DataW.trod_struct Try.underlying23 h
 rw [size23] at hl
 obtain ⟨v0, e0, _, w0⟩ := DataW.trod_int Try.underlying2 ((hf 0 _ rfl).trans (List.getElem?_eq_getElem (by rw [hlen]; decide)))
 have g0 : cs[0]? = some (.int .i64 v0) := one_cell (by have z : List.take (Try.prog.cellsOf 2) (List.drop 0 cs) = [.int .i64 v0] := e0; rw [one23] at z; exact z)
 obtain ⟨v1, e1, _, w1⟩ := DataW.trod_int Try.underlying2 ((hf 1 _ rfl).trans (List.getElem?_eq_getElem (by rw [hlen]; decide)))
 have g1 : cs[1]? = some (.int .i64 v1) := one_cell (by have z : List.take (Try.prog.cellsOf 2) (List.drop 1 cs) = [.int .i64 v1] := e1; rw [one23] at z; exact z)
 obtain ⟨v2, e2, _, w2⟩ := DataW.trod_int Try.underlying2 ((hf 2 _ rfl).trans (List.getElem?_eq_getElem (by rw [hlen]; decide)))
 have g2 : cs[2]? = some (.int .i64 v2) := one_cell (by have z : List.take (Try.prog.cellsOf 2) (List.drop 2 cs) = [.int .i64 v2] := e2; rw [one23] at z; exact z)
 obtain ⟨v3, e3, _, w3⟩ := DataW.trod_int Try.underlying2 ((hf 3 _ rfl).trans (List.getElem?_eq_getElem (by rw [hlen]; decide)))
 have g3 : cs[3]? = some (.int .i64 v3) := one_cell (by have z : List.take (Try.prog.cellsOf 2) (List.drop 3 cs) = [.int .i64 v3] := e3; rw [one23] at z; exact z)
 have hcs : cs = [.int .i64 v0, .int .i64 v1, .int .i64 v2, .int .i64 v3] := by
  apply List.ext_getElem?
  intro i
  match i with
  | 0 => exact g0
  | 1 => exact g1
  | 2 => exact g2
  | 3 => exact g3
  | i + 4 => rw [List.getElem?_eq_none (by omega)]; rfl
 exact ⟨v0, v1, v2, v3, hcs, I64_of w0, I64_of w1, I64_of w2, I64_of w3⟩
structure Ok_FnExactMostWind (k : Nat) (a0_0 : Int) (a0_1 : Int) (a0_2 : Int) (a0_3 : Int) (a1 : Int) (q1 : Int) (q2 : Int) : Prop where
 to0 : laws_toShot.f a0_0 a0_1 a0_2 a0_3 = some (a0_0, a0_1, a0_2, a0_3)
 sp : spec_MostWind.f k a0_0 a0_1 a0_2 a0_3 a1 = some (q1, q2)
 im : impl_MostWind.f k a0_0 a0_1 a0_2 a0_3 a1 = some (q1, q2)
def Law_FnExactMostWind (k : Nat) (a0_0 : Int) (a0_1 : Int) (a0_2 : Int) (a0_3 : Int) (a1 : Int) : Prop := ∃ (q1 : Int) (q2 : Int), Ok_FnExactMostWind k a0_0 a0_1 a0_2 a0_3 a1 q1 q2
def Pure_FnExactMostWind : Prop := ∀ (a0_0 : Int) (a0_1 : Int) (a0_2 : Int) (a0_3 : Int) (a1 : Int), I64 a0_0 → I64 a0_1 → I64 a0_2 → I64 a0_3 → I64 a1 → ∃ k, Law_FnExactMostWind k a0_0 a0_1 a0_2 a0_3 a1
set_option maxHeartbeats 8000000 in
set_option maxRecDepth 100000 in
theorem law_FnExactMostWind (k : Nat) (a0_0 : Int) (a0_1 : Int) (a0_2 : Int) (a0_3 : Int) (a1 : Int) (w : World)  (h : Law_FnExactMostWind k a0_0 a0_1 a0_2 a0_3 a1) :
  Calls Try.prog 4 #[.agg #[.int .i64 a0_0, .int .i64 a0_1, .int .i64 a0_2, .int .i64 a0_3], .int .i64 a1] w fun e w' => e = .returned (.bool true) ∧ Below w.heap.size w w' := by
 have HB := Aside0.mk (Below.refl w.heap.size w)
 obtain ⟨q1, q2, h⟩ := h
 have HF := Aside0.mk h
 clear h
 have f1q1 : (q1 != q1) = false := by simp
 have f2q1 : (q1 == q1) = true := by simp
 have f1q2 : (q2 != q2) = false := by simp
 have f2q2 : (q2 == q2) = true := by simp
 go_enter Try.func4, Try.ntmps4
 go_wp2_with (first | ((with_reducible refine gate_dst (N := 2) rfl ?_); refine box_event ?hg (N := 2) ?hd (cs := #[.int .i64 a0_0, .int .i64 a0_1, .int .i64 a0_2, .int .i64 a0_3]) (t := 23) ?hr ?_; (case hd => rfl); (case hg => rfl); (case hr => first | (go_simp; done) | (go_simp; rfl)); intro g_0 hg w1 hbox hb; have nk_ := Aside0.mk hbox; have ne_ := Aside0.mk (by rw [hg]; exact (below_size (by repeat (first | (with_reducible first | exact HB.out | apply below_alloc | apply pw_below_drewN | apply below_drew1) | exact HB.out))) : w.heap.size ≤ g_0); clear hbox hg; have nb_ := Aside0.mk (below_step (by repeat (first | (with_reducible first | exact HB.out | apply below_alloc | apply pw_below_drewN | apply below_drew1) | exact HB.out)) hb); clear HB; have HB := nb_; clear nb_ hb; have BK0 := nk_; have GE0 := ne_; clear nk_ ne_; have hcz1_0 : w1.cell? ⟨g_0, 0, none⟩ = some (.int .i64 a0_0) := (blk_cell BK0.out 0).trans rfl; have hfz1_0 := blk_frozen BK0.out 0; have hcz1_1 : w1.cell? ⟨g_0, 1, none⟩ = some (.int .i64 a0_1) := (blk_cell BK0.out 1).trans rfl; have hfz1_1 := blk_frozen BK0.out 1; have hcz1_2 : w1.cell? ⟨g_0, 2, none⟩ = some (.int .i64 a0_2) := (blk_cell BK0.out 2).trans rfl; have hfz1_2 := blk_frozen BK0.out 2; have hcz1_3 : w1.cell? ⟨g_0, 3, none⟩ = some (.int .i64 a0_3) := (blk_cell BK0.out 3).trans rfl; have hfz1_3 := blk_frozen BK0.out 3) | ((with_reducible refine gate_callee (f := 9) rfl ?_); (try (refine gate_guard (by rfl) ?_; dsimp only)); refine goesL_ (some 11) rfl rfl Try.func9 (by kernel_rfl) rfl #[.agg #[.int .i64 a0_0, .int .i64 a0_1, .int .i64 a0_2, .int .i64 a0_3]] rfl (by (try simp only [List.map_toArray, List.map_cons, List.map_nil]); first | done | rfl | (simp only [List.length_drop, List.length_take]; rfl)) ?_; (with_reducible refine (laws_toShot.calls a0_0 a0_1 a0_2 a0_3 a0_0 a0_1 a0_2 a0_3 _ HF.out.to0).mono ?_); rintro e w1 ⟨rfl, hb⟩; refine ⟨_, rfl, ?_⟩; have nb_ := Aside0.mk (below_step (by repeat (first | (with_reducible first | exact HB.out | apply below_alloc | apply pw_below_drewN | apply below_drew1) | exact HB.out)) hb); have nk0_ := Aside0.mk (blk_below (g := g_0) (o := .cells #[.int .i64 a0_0, .int .i64 a0_1, .int .i64 a0_2, .int .i64 a0_3] 23 (0, 0)) (by (with_reducible repeat (first | refine blk_drewN ?_ _ | refine blk_drew ?_ | refine blk_alloc ?_ _)); exact BK0.out) hb); clear HB; have HB := nb_; clear nb_ hb; clear BK0; have BK0 := nk0_; clear nk0_; have hcz2_0 : w1.cell? ⟨g_0, 0, none⟩ = some (.int .i64 a0_0) := (blk_cell BK0.out 0).trans rfl; have hfz2_0 := blk_frozen BK0.out 0; have hcz2_1 : w1.cell? ⟨g_0, 1, none⟩ = some (.int .i64 a0_1) := (blk_cell BK0.out 1).trans rfl; have hfz2_1 := blk_frozen BK0.out 1; have hcz2_2 : w1.cell? ⟨g_0, 2, none⟩ = some (.int .i64 a0_2) := (blk_cell BK0.out 2).trans rfl; have hfz2_2 := blk_frozen BK0.out 2; have hcz2_3 : w1.cell? ⟨g_0, 3, none⟩ = some (.int .i64 a0_3) := (blk_cell BK0.out 3).trans rfl; have hfz2_3 := blk_frozen BK0.out 3) | ((with_reducible refine gate_callee (f := 11) rfl ?_); (try (refine gate_guard (by rfl) ?_; dsimp only)); refine goesL_ (some 13) rfl rfl Try.func11 (by kernel_rfl) rfl #[.agg #[.int .i64 a0_0, .int .i64 a0_1, .int .i64 a0_2, .int .i64 a0_3], .int .i64 a1] rfl (by (try simp only [List.map_toArray, List.map_cons, List.map_nil]); first | done | rfl | (simp only [List.length_drop, List.length_take]; rfl)) ?_; (with_reducible refine (spec_MostWind.calls k a0_0 a0_1 a0_2 a0_3 a1 q1 q2 _ HF.out.sp).mono ?_); rintro e w1 ⟨rfl, hb⟩; refine ⟨_, rfl, ?_⟩; have nb_ := Aside0.mk (below_step (by repeat (first | (with_reducible first | exact HB.out | apply below_alloc | apply pw_below_drewN | apply below_drew1) | exact HB.out)) hb); have nk0_ := Aside0.mk (blk_below (g := g_0) (o := .cells #[.int .i64 a0_0, .int .i64 a0_1, .int .i64 a0_2, .int .i64 a0_3] 23 (0, 0)) (by (with_reducible repeat (first | refine blk_drewN ?_ _ | refine blk_drew ?_ | refine blk_alloc ?_ _)); exact BK0.out) hb); clear HB; have HB := nb_; clear nb_ hb; clear BK0; have BK0 := nk0_; clear nk0_; have hcz3_0 : w1.cell? ⟨g_0, 0, none⟩ = some (.int .i64 a0_0) := (blk_cell BK0.out 0).trans rfl; have hfz3_0 := blk_frozen BK0.out 0; have hcz3_1 : w1.cell? ⟨g_0, 1, none⟩ = some (.int .i64 a0_1) := (blk_cell BK0.out 1).trans rfl; have hfz3_1 := blk_frozen BK0.out 1; have hcz3_2 : w1.cell? ⟨g_0, 2, none⟩ = some (.int .i64 a0_2) := (blk_cell BK0.out 2).trans rfl; have hfz3_2 := blk_frozen BK0.out 2; have hcz3_3 : w1.cell? ⟨g_0, 3, none⟩ = some (.int .i64 a0_3) := (blk_cell BK0.out 3).trans rfl; have hfz3_3 := blk_frozen BK0.out 3) | ((with_reducible refine gate_callee (f := 9) rfl ?_); (try (refine gate_guard (by rfl) ?_; dsimp only)); refine goesL_ (some 18) rfl rfl Try.func9 (by kernel_rfl) rfl #[.agg #[.int .i64 a0_0, .int .i64 a0_1, .int .i64 a0_2, .int .i64 a0_3]] rfl (by (try simp only [List.map_toArray, List.map_cons, List.map_nil]); first | done | rfl | (simp only [List.length_drop, List.length_take]; rfl)) ?_; (with_reducible refine (laws_toShot.calls a0_0 a0_1 a0_2 a0_3 a0_0 a0_1 a0_2 a0_3 _ HF.out.to0).mono ?_); rintro e w1 ⟨rfl, hb⟩; refine ⟨_, rfl, ?_⟩; have nb_ := Aside0.mk (below_step (by repeat (first | (with_reducible first | exact HB.out | apply below_alloc | apply pw_below_drewN | apply below_drew1) | exact HB.out)) hb); have nk0_ := Aside0.mk (blk_below (g := g_0) (o := .cells #[.int .i64 a0_0, .int .i64 a0_1, .int .i64 a0_2, .int .i64 a0_3] 23 (0, 0)) (by (with_reducible repeat (first | refine blk_drewN ?_ _ | refine blk_drew ?_ | refine blk_alloc ?_ _)); exact BK0.out) hb); clear HB; have HB := nb_; clear nb_ hb; clear BK0; have BK0 := nk0_; clear nk0_; have hcz4_0 : w1.cell? ⟨g_0, 0, none⟩ = some (.int .i64 a0_0) := (blk_cell BK0.out 0).trans rfl; have hfz4_0 := blk_frozen BK0.out 0; have hcz4_1 : w1.cell? ⟨g_0, 1, none⟩ = some (.int .i64 a0_1) := (blk_cell BK0.out 1).trans rfl; have hfz4_1 := blk_frozen BK0.out 1; have hcz4_2 : w1.cell? ⟨g_0, 2, none⟩ = some (.int .i64 a0_2) := (blk_cell BK0.out 2).trans rfl; have hfz4_2 := blk_frozen BK0.out 2; have hcz4_3 : w1.cell? ⟨g_0, 3, none⟩ = some (.int .i64 a0_3) := (blk_cell BK0.out 3).trans rfl; have hfz4_3 := blk_frozen BK0.out 3) | ((with_reducible refine gate_callee (f := 12) rfl ?_); (try (refine gate_guard (by rfl) ?_; dsimp only)); refine goesL_ (some 20) rfl rfl Try.func12 (by kernel_rfl) rfl #[.agg #[.int .i64 a0_0, .int .i64 a0_1, .int .i64 a0_2, .int .i64 a0_3], .int .i64 a1] rfl (by (try simp only [List.map_toArray, List.map_cons, List.map_nil]); first | done | rfl | (simp only [List.length_drop, List.length_take]; rfl)) ?_; (with_reducible refine (impl_MostWind.calls k a0_0 a0_1 a0_2 a0_3 a1 q1 q2 _ HF.out.im).mono ?_); rintro e w1 ⟨rfl, hb⟩; refine ⟨_, rfl, ?_⟩; have nb_ := Aside0.mk (below_step (by repeat (first | (with_reducible first | exact HB.out | apply below_alloc | apply pw_below_drewN | apply below_drew1) | exact HB.out)) hb); have nk0_ := Aside0.mk (blk_below (g := g_0) (o := .cells #[.int .i64 a0_0, .int .i64 a0_1, .int .i64 a0_2, .int .i64 a0_3] 23 (0, 0)) (by (with_reducible repeat (first | refine blk_drewN ?_ _ | refine blk_drew ?_ | refine blk_alloc ?_ _)); exact BK0.out) hb); clear HB; have HB := nb_; clear nb_ hb; clear BK0; have BK0 := nk0_; clear nk0_; have hcz5_0 : w1.cell? ⟨g_0, 0, none⟩ = some (.int .i64 a0_0) := (blk_cell BK0.out 0).trans rfl; have hfz5_0 := blk_frozen BK0.out 0; have hcz5_1 : w1.cell? ⟨g_0, 1, none⟩ = some (.int .i64 a0_1) := (blk_cell BK0.out 1).trans rfl; have hfz5_1 := blk_frozen BK0.out 1; have hcz5_2 : w1.cell? ⟨g_0, 2, none⟩ = some (.int .i64 a0_2) := (blk_cell BK0.out 2).trans rfl; have hfz5_2 := blk_frozen BK0.out 2; have hcz5_3 : w1.cell? ⟨g_0, 3, none⟩ = some (.int .i64 a0_3) := (blk_cell BK0.out 3).trans rfl; have hfz5_3 := blk_frozen BK0.out 3))
 go_ret
 exact ⟨rfl, (by repeat (first | (with_reducible first | exact HB.out | apply below_alloc | apply pw_below_drewN | apply below_drew1) | exact HB.out))⟩
end Go.Proofs.Ytemkongfmceedaa.F
namespace Go.Proofs.Ytemkongfmceedaa.F
open Go.RowKit Go.Proofs.YtemkongfmceedaaW.PrintWords Go.Proofs.YtemkongfmceedaaW.PrintLast Go.Proofs.YtemkongfmceedaaW.PrintMore
set_option linter.unusedVariables false
set_option linter.unusedSimpArgs false
def Evt (P : Nat → Prop) : Prop := ∃ K, ∀ k, K ≤ k → P k
theorem Evt.and {P Q : Nat → Prop} (h : Evt P) (h' : Evt Q) : Evt (fun k => P k ∧ Q k) := by
 obtain ⟨K, h⟩ := h
 obtain ⟨K', h'⟩ := h'
 exact ⟨K + K', fun k hk => ⟨h k (by omega), h' k (by omega)⟩⟩
theorem Evt.mono {P Q : Nat → Prop} (h : Evt P) (hq : ∀ k, P k → Q k) : Evt Q := by
 obtain ⟨K, h⟩ := h
 exact ⟨K, fun k hk => hq k (h k hk)⟩
theorem Evt.ex {P : Nat → Prop} (h : Evt P) : ∃ k, P k := by
 obtain ⟨K, h⟩ := h
 exact ⟨K, h K (Nat.le_refl _)⟩
theorem Evt.succ {P : Nat → Prop} (h : Evt (fun k => P (k + 1))) : Evt P := by
 obtain ⟨K, h⟩ := h
 refine ⟨K + 1, fun k hk => ?_⟩
 obtain ⟨m, rfl⟩ : ∃ m, k = m + 1 := ⟨k - 1, by omega⟩
 exact h m (by omega)
theorem w64 {n : Int} (h : -9223372036854775808 ≤ n ∧ n ≤ 9223372036854775807) : wrap64 n = n := by unfold wrap64; omega
def inB (n lo hi : Int) : Bool := decide (lo ≤ n ∧ n ≤ hi)
theorem inB_true {n lo hi : Int} : inB n lo hi = true ↔ lo ≤ n ∧ n ≤ hi := by unfold inB; exact decide_eq_true_iff
end Go.Proofs.Ytemkongfmceedaa.F
namespace Go.Proofs.Ytemkongfmceedaa.F
open Go.RowKit Go.Proofs.YtemkongfmceedaaW.PrintWords Go.Proofs.YtemkongfmceedaaW.PrintLast Go.Proofs.YtemkongfmceedaaW.PrintMore
set_option linter.unusedVariables false
set_option linter.unusedSimpArgs false
theorem In_eq (n lo hi : Int) : spec_l01In.f n lo hi = some (inB n lo hi) := by
 unfold spec_l01In.f inB
 by_cases h : n ≥ lo
 ·rw [if_pos h]; congr 1; simp; omega
 ·rw [if_neg h]; congr 1; simp; omega
theorem Wi_eq (n lo hi : Int) : impl_within.f n lo hi = some (inB n lo hi) := by
 unfold impl_within.f inB
 by_cases h : lo ≤ n
 ·rw [if_pos h]; congr 1; simp; omega
 ·rw [if_neg h]; congr 1; simp; omega
end Go.Proofs.Ytemkongfmceedaa.F
namespace Go.Proofs.Ytemkongfmceedaa.F
open Go.RowKit Go.Proofs.YtemkongfmceedaaW.PrintWords Go.Proofs.YtemkongfmceedaaW.PrintLast Go.Proofs.YtemkongfmceedaaW.PrintMore
set_option linter.unusedVariables false
set_option linter.unusedSimpArgs false
theorem tdiv_pos {a b : Int} (hb : 0 < b) : (Int.tmod a b < 0 → Int.tdiv a b = a / b + 1) ∧ (¬ Int.tmod a b < 0 → Int.tdiv a b = a / b) := by
 have h1 := Int.emod_nonneg a (show b ≠ 0 by omega)
 have h2 := Int.emod_lt_of_pos a hb
 have h3 : Int.sign b = 1 := Int.sign_eq_one_of_pos hb
 rw [Int.tmod_eq_emod, Int.tdiv_eq_ediv, h3]
 by_cases h : 0 ≤ a ∨ b ∣ a
 ·rw [if_pos h, if_pos h]
  omega
 ·rw [if_neg h, if_neg h]
  omega
theorem ediv_small {a b : Int} (hb : 0 < b) (ha : -4611686018427387904 ≤ a ∧ a ≤ 4611686018427387904) : -4611686018427387904 ≤ a / b ∧ a / b ≤ 4611686018427387904 := by
 constructor
 ·exact (Int.le_ediv_iff_mul_le hb).2 (by
   have : -4611686018427387904 * b ≤ -4611686018427387904 * 1 := Int.mul_le_mul_of_nonpos_left (by omega) (by omega)
   omega)
 ·by_cases h : 0 ≤ a
  ·have := Int.ediv_le_self b h
   omega
  ·have := Int.ediv_neg_of_neg_of_pos (show a < 0 by omega) hb
   omega
theorem Fl_eq {a b : Int} (hb : 0 < b) (ha : -4611686018427387904 ≤ a ∧ a ≤ 4611686018427387904) : impl_floorDiv.f a b = some (a / b) := by
 have h := tdiv_pos (a := a) hb
 have hs := ediv_small hb ha
 unfold impl_floorDiv.f
 rw [if_neg (by omega)]
 by_cases hm : Int.tmod a b < 0
 ·rw [if_pos hm, h.1 hm, w64 (n := a / b + 1) (by omega), w64 (by omega)]
  congr 1; omega
 ·rw [if_neg hm, h.2 hm, w64 (by omega)]
theorem SFl_eq {a b : Int} (hb : 0 < b) (ha : -4611686018427387904 ≤ a ∧ a ≤ 4611686018427387904) : spec_l01Floor.f a b = some (a / b) := by
 have h := tdiv_pos (a := a) hb
 have hs := ediv_small hb ha
 unfold spec_l01Floor.f
 rw [if_neg (by omega), if_neg (by omega)]
 by_cases hm : Int.tmod a b < 0
 ·rw [if_pos hm, h.1 hm, w64 (n := a / b + 1) (by omega), w64 (by omega)]
  congr 1; omega
 ·rw [if_neg hm, h.2 hm, w64 (by omega)]
theorem tdiv_nn {a b : Int} (ha : 0 ≤ a) : Int.tdiv a b = a / b := Int.tdiv_eq_ediv_of_nonneg ha
theorem prod_nn {a b A B : Int} (ha : 0 ≤ a ∧ a ≤ A) (hb : 0 ≤ b ∧ b ≤ B) : 0 ≤ a * b ∧ a * b ≤ A * B := ⟨Int.mul_nonneg ha.1 hb.1, Int.mul_le_mul ha.2 hb.2 hb.1 (by omega)⟩
theorem prod_abs {a b A B : Int} (ha : -A ≤ a ∧ a ≤ A) (hb : 0 ≤ b ∧ b ≤ B) : -(A * B) ≤ a * b ∧ a * b ≤ A * B := by
 have h1 : a * b ≤ A * b := Int.mul_le_mul_of_nonneg_right ha.2 hb.1
 have h2 : (-A) * b ≤ a * b := Int.mul_le_mul_of_nonneg_right ha.1 hb.1
 have h3 : A * b ≤ A * B := Int.mul_le_mul_of_nonneg_left hb.2 (by omega)
 rw [Int.neg_mul] at h2
 omega
end Go.Proofs.Ytemkongfmceedaa.F
namespace Go.Proofs.Ytemkongfmceedaa.F
open Go.RowKit Go.Proofs.YtemkongfmceedaaW.PrintWords Go.Proofs.YtemkongfmceedaaW.PrintLast Go.Proofs.YtemkongfmceedaaW.PrintMore
set_option linter.unusedVariables false
set_option linter.unusedSimpArgs false
def gg (up t : Int) : Int := 2000 * up * t - 9810 * t * t
def HH (up t : Int) : Int := gg up t / 2000000
def lastT (up : Int) : Int := 1000 * up / 9810
theorem gg_small {up t : Int} (hu : 0 ≤ up ∧ up ≤ 200000) (ht : 0 ≤ t ∧ t ≤ 60001) : 0 ≤ 2000 * up * t ∧ 2000 * up * t ≤ 24000400000000 ∧ 0 ≤ 9810 * t * t ∧ 9810 * t * t ≤ 35317177209810 := by
 have h1 := prod_nn (a := 2000 * up) (b := t) (A := 400000000) (B := 60001) (by omega) ht
 have h2 := prod_nn (a := 9810 * t) (b := t) (A := 588609810) (B := 60001) (by omega) ht
 omega
theorem H_spec {up t : Int} (hu : 0 ≤ up ∧ up ≤ 200000) (ht : 0 ≤ t ∧ t ≤ 60001) : spec_l04Height.f up t = some (HH up t) := by
 have h := gg_small hu ht
 unfold spec_l04Height.f
 rw [w64 (n := 2000 * up) (by omega), w64 (n := 2000 * up * t) (by omega), w64 (n := 9810 * t) (by omega), w64 (n := 9810 * t * t) (by omega), w64 (n := 2000 * up * t - _) (by omega), SFl_eq (by omega) (by omega)]
 rfl
theorem H_impl {up t : Int} (hu : 0 ≤ up ∧ up ≤ 200000) (ht : 0 ≤ t ∧ t ≤ 60001) : impl_heightAt.f up t = some (HH up t) := by
 have h := gg_small hu ht
 unfold impl_heightAt.f
 rw [w64 (n := 2000 * up) (by omega), w64 (n := 2000 * up * t) (by omega), w64 (n := 9810 * t) (by omega), w64 (n := 9810 * t * t) (by omega), w64 (n := 2000 * up * t - _) (by omega), Fl_eq (by omega) (by omega)]
 rfl
theorem gg_step (up t : Int) : gg up (t + 1) = gg up t + 2000 * up - 9810 * (2 * t + 1) := by
 unfold gg
 rw [Int.mul_add (2000 * up), Int.mul_add 9810, Int.mul_add, Int.add_mul]
 omega
theorem last_le {up : Int} (hu : 0 ≤ up ∧ up ≤ 200000) : 0 ≤ lastT up ∧ lastT up ≤ 20387 ∧ 9810 * lastT up ≤ 1000 * up ∧ 1000 * up < 9810 * lastT up + 9810 := by unfold lastT; omega
theorem HH_of_gg {up s t : Int} (h : gg up s ≤ gg up t) : HH up s ≤ HH up t := Int.ediv_le_ediv (by omega) h
theorem gg_rise {up : Int} (hu : 0 ≤ up ∧ up ≤ 200000) {s : Int} (hs : 0 ≤ s) : ∀ n : Nat, s + n ≤ lastT up → gg up s ≤ gg up (s + n)
 | 0, _ => by rw [Int.natCast_zero, Int.add_zero]; exact Int.le_refl _
 | n + 1, h => by
  have h1 := gg_rise hu hs n (by omega)
  have h2 := gg_step up (s + n)
  have h3 := last_le hu
  rw [show s + ((n + 1 : Nat) : Int) = s + n + 1 by omega]
  omega
theorem H_rise {up s t : Int} (hu : 0 ≤ up ∧ up ≤ 200000) (hs : 0 ≤ s) (hst : s ≤ t) (ht : t ≤ lastT up) : HH up s ≤ HH up t := by
 have := gg_rise hu hs (t - s).toNat (by omega)
 rw [show s + ((t - s).toNat : Int) = t by omega] at this
 exact HH_of_gg this
theorem gg_fall {up : Int} (hu : 0 ≤ up ∧ up ≤ 200000) {s : Int} (hs : lastT up + 1 ≤ s) : ∀ n : Nat, gg up (s + n) ≤ gg up s
 | 0 => by rw [Int.natCast_zero, Int.add_zero]; exact Int.le_refl _
 | n + 1 => by
  have h1 := gg_fall hu hs n
  have h2 := gg_step up (s + n)
  have h3 := last_le hu
  rw [show s + ((n + 1 : Nat) : Int) = s + n + 1 by omega]
  omega
theorem H_fall {up s t : Int} (hu : 0 ≤ up ∧ up ≤ 200000) (hs : lastT up + 1 ≤ s) (hst : s ≤ t) : HH up t ≤ HH up s := by
 have := gg_fall hu hs (t - s).toNat
 rw [show s + ((t - s).toNat : Int) = t by omega] at this
 exact HH_of_gg this
def IsTop (up t top : Int) : Prop := 0 ≤ t ∧ t ≤ lastT up + 1 ∧ HH up t = top ∧ (∀ s, 0 ≤ s → s < t → HH up s < top) ∧ ∀ s, 0 ≤ s → s ≤ lastT up + 1 → HH up s ≤ top
theorem IsTop.unique {up t top t' top' : Int} (h : IsTop up t top) (h' : IsTop up t' top') : t' = t ∧ top' = top := by
 obtain ⟨a, b, c, d, e⟩ := h
 obtain ⟨a', b', c', d', e'⟩ := h'
 have h1 := e t' a' b'
 have h2 := e' t a b
 refine ⟨?_, by omega⟩
 rcases Int.lt_trichotomy t t' with x | x | x
 ·have := d' t a x; omega
 ·exact x.symm
 ·have := d t' a' x; omega
theorem top_all {up top : Int} (hu : 0 ≤ up ∧ up ≤ 200000) (h1 : HH up (lastT up) ≤ top) (h2 : HH up (lastT up + 1) ≤ top) : ∀ s, 0 ≤ s → s ≤ lastT up + 1 → HH up s ≤ top := by
 intro s hs hs2
 by_cases e : s = lastT up + 1
 ·rw [e]; exact h2
 ·exact Int.le_trans (H_rise hu hs (by omega) (Int.le_refl _)) h1
theorem spec_top_loop {up top : Int} (hu : 0 ≤ up ∧ up ≤ 200000) (n : Nat) : ∀ (k : Nat) (t : Int), t = n → t ≤ lastT up → HH up t = top → n < k →
  ∃ r, spec_l04Top.l0 k up t top = some (r, top) ∧ 0 ≤ r ∧ r ≤ lastT up ∧ HH up r = top ∧ ∀ s, 0 ≤ s → s < r → HH up s < top := by
 have hl := last_le hu
 induction n with
 | zero =>
  intro k t ht h1 h2 hk
  obtain ⟨k, rfl⟩ : ∃ m, k = m + 1 := ⟨k - 1, by omega⟩
  refine ⟨t, ?_, by omega, h1, h2, fun s h3 h4 => by omega⟩
  simp only [spec_l04Top.l0]
  rw [if_neg (by omega), H_spec hu (by omega)]
  simp only [Option.bind_some]
  rw [if_neg (by omega)]
 | succ n ih =>
  intro k t ht h1 h2 hk
  obtain ⟨k, rfl⟩ : ∃ m, k = m + 1 := ⟨k - 1, by omega⟩
  simp only [spec_l04Top.l0]
  rw [if_pos (by omega), w64 (by omega), H_spec hu (by omega), H_spec hu (by omega)]
  simp only [Option.bind_some]
  by_cases e : HH up (t - 1) = top
  ·rw [if_pos e]
   exact ih k (t - 1) (by omega) (by omega) e (by omega)
  ·rw [if_neg e, if_neg (by omega)]
   refine ⟨t, rfl, by omega, h1, h2, fun s h3 h4 => ?_⟩
   have h5 := H_rise hu h3 (show s ≤ t - 1 by omega) (by omega)
   have h6 := H_rise hu (show 0 ≤ t - 1 by omega) (show t - 1 ≤ t by omega) h1
   omega
theorem spec_top {up : Int} (hu : 0 ≤ up ∧ up ≤ 200000) (k : Nat) (hk : 30000 ≤ k) : ∃ t top, spec_l04Top.f k up = some (t, top) ∧ IsTop up t top := by
 have hl := last_le hu
 unfold spec_l04Top.f
 rw [w64 (n := 1000 * up) (by omega), tdiv_nn (by omega)]
 show ∃ t top, ((spec_l04Height.f up (wrap64 (lastT up))).bind fun t174 => ((spec_l04Height.f up (wrap64 (wrap64 (lastT up) + 1))).bind fun t175 => spec_l04Top.l0 k up (wrap64 (lastT up)) (mx t174 t175))) = some (t, top) ∧ _
 rw [w64 (n := lastT up) (by omega), w64 (n := lastT up + 1) (by omega), H_spec hu (by omega), H_spec hu (by omega)]
 simp only [Option.bind_some]
 by_cases c : HH up (lastT up) < HH up (lastT up + 1)
 ·have em : mx (HH up (lastT up)) (HH up (lastT up + 1)) = HH up (lastT up + 1) := by unfold mx; rw [if_pos c]
  rw [em]
  obtain ⟨k, rfl⟩ : ∃ m, k = m + 1 := ⟨k - 1, by omega⟩
  refine ⟨lastT up + 1, HH up (lastT up + 1), ?_, by omega, by omega, rfl, fun s h1 h2 => ?_, top_all hu (by omega) (Int.le_refl _)⟩
  ·simp only [spec_l04Top.l0]
   by_cases h0 : lastT up > 0
   ·have h6 := H_rise hu (show 0 ≤ lastT up - 1 by omega) (show lastT up - 1 ≤ lastT up by omega) (Int.le_refl _)
    rw [if_pos h0, w64 (n := lastT up - 1) (by omega), H_spec hu (by omega), H_spec hu (by omega)]
    simp only [Option.bind_some]
    rw [if_neg (by omega), if_pos c, w64 (by omega)]
   ·rw [if_neg h0, H_spec hu (by omega)]
    simp only [Option.bind_some]
    rw [if_pos c, w64 (by omega)]
  ·exact Int.lt_of_le_of_lt (H_rise hu h1 (by omega) (Int.le_refl _)) c
 ·have em : mx (HH up (lastT up)) (HH up (lastT up + 1)) = HH up (lastT up) := by unfold mx; rw [if_neg c]
  rw [em]
  obtain ⟨r, hr, h1, h2, h3, h4⟩ := spec_top_loop (top := HH up (lastT up)) hu (lastT up).toNat k (lastT up) (by omega) (Int.le_refl _) rfl (by omega)
  exact ⟨r, _, hr, h1, by omega, h3, h4, top_all hu (Int.le_refl _) (by omega)⟩
theorem impl_top_loop {up top : Int} (hu : 0 ≤ up ∧ up ≤ 200000) (n : Nat) : ∀ (k : Nat) (lo hi : Int), hi - lo ≤ n → 0 ≤ lo → lo ≤ hi → hi ≤ lastT up → top ≤ HH up hi → (∀ s, 0 ≤ s → s < lo → HH up s < top) → n < k →
  ∃ r, impl_topOf.l0 k up top lo hi = some (r, top) ∧ 0 ≤ r ∧ r ≤ lastT up ∧ top ≤ HH up r ∧ ∀ s, 0 ≤ s → s < r → HH up s < top := by
 have hl := last_le hu
 induction n with
 | zero =>
  intro k lo hi h1 h2 h3 h4 h5 h6 hk
  obtain ⟨k, rfl⟩ : ∃ m, k = m + 1 := ⟨k - 1, by omega⟩
  have e : lo = hi := by omega
  subst e
  refine ⟨lo, ?_, h2, h4, h5, h6⟩
  simp only [impl_topOf.l0]
  rw [if_neg (by omega)]
 | succ n ih =>
  intro k lo hi h1 h2 h3 h4 h5 h6 hk
  obtain ⟨k, rfl⟩ : ∃ m, k = m + 1 := ⟨k - 1, by omega⟩
  simp only [impl_topOf.l0]
  by_cases c : lo < hi
  ·rw [if_pos c, w64 (n := lo + hi) (by omega), tdiv_nn (by omega), w64 (n := (lo + hi) / 2) (by omega), H_impl hu (by omega)]
   simp only [Option.bind_some]
   by_cases d : HH up ((lo + hi) / 2) ≥ top
   ·rw [if_pos d]
    exact ih k lo ((lo + hi) / 2) (by omega) h2 (by omega) (by omega) d h6 (by omega)
   ·rw [if_neg d, w64 (by omega)]
    refine ih k ((lo + hi) / 2 + 1) hi (by omega) (by omega) (by omega) h4 h5 (fun s h7 h8 => ?_) (by omega)
    have := H_rise hu h7 (show s ≤ (lo + hi) / 2 by omega) (by omega)
    omega
  ·rw [if_neg c]
   have e : lo = hi := by omega
   subst e
   exact ⟨lo, rfl, h2, h4, h5, h6⟩
theorem impl_top {up : Int} (hu : 0 ≤ up ∧ up ≤ 200000) (k : Nat) (hk : 30000 ≤ k) : ∃ t top, impl_topOf.f k up = some (t, top) ∧ IsTop up t top := by
 have hl := last_le hu
 unfold impl_topOf.f
 rw [w64 (n := 1000 * up) (by omega), tdiv_nn (by omega)]
 show ∃ t top, ((impl_heightAt.f up (wrap64 (lastT up))).bind fun t202 => ((impl_heightAt.f up (wrap64 (wrap64 (lastT up) + 1))).bind fun t203 => (if t203 > t202 then (some (wrap64 (wrap64 (lastT up) + 1), t203)) else (impl_topOf.l0 k up t202 0 (wrap64 (lastT up)))))) = some (t, top) ∧ _
 rw [w64 (n := lastT up) (by omega), w64 (n := lastT up + 1) (by omega), H_impl hu (by omega), H_impl hu (by omega)]
 simp only [Option.bind_some]
 by_cases c : HH up (lastT up) < HH up (lastT up + 1)
 ·rw [if_pos c]
  exact ⟨_, _, rfl, by omega, by omega, rfl, fun s h1 h2 => Int.lt_of_le_of_lt (H_rise hu h1 (by omega) (Int.le_refl _)) c, top_all hu (by omega) (Int.le_refl _)⟩
 ·rw [if_neg c]
  obtain ⟨r, hr, h1, h2, h3, h4⟩ := impl_top_loop (top := HH up (lastT up)) hu (lastT up).toNat k 0 (lastT up) (by omega) (by omega) (by omega) (Int.le_refl _) (Int.le_refl _) (fun s h1 h2 => by omega) (by omega)
  have h5 := H_rise hu h1 h2 (Int.le_refl _)
  exact ⟨r, _, hr, h1, by omega, by omega, h4, top_all hu (Int.le_refl _) (by omega)⟩
theorem top_both {up : Int} (hu : 0 ≤ up ∧ up ≤ 200000) : ∃ t top, IsTop up t top ∧ (∀ k, 30000 ≤ k → spec_l04Top.f k up = some (t, top)) ∧ ∀ k, 30000 ≤ k → impl_topOf.f k up = some (t, top) := by
 obtain ⟨t, top, _, h⟩ := spec_top hu 30000 (Nat.le_refl _)
 refine ⟨t, top, h, fun k hk => ?_, fun k hk => ?_⟩
 ·obtain ⟨t', top', e, h'⟩ := spec_top hu k hk
  obtain ⟨rfl, rfl⟩ := h.unique h'
  exact e
 ·obtain ⟨t', top', e, h'⟩ := impl_top hu k hk
  obtain ⟨rfl, rfl⟩ := h.unique h'
  exact e
theorem top_range {up t top : Int} (hu : 0 ≤ up ∧ up ≤ 200000) (h : IsTop up t top) : 0 ≤ t ∧ t ≤ 20388 ∧ 0 ≤ top ∧ top ≤ 12000200 := by
 have hl := last_le hu
 obtain ⟨a, b, c, d, e⟩ := h
 have h0 := e 0 (Int.le_refl _) (by omega)
 have h1 : HH up 0 = 0 := by unfold HH gg; rw [Int.mul_zero, Int.mul_zero]; rfl
 have h2 := gg_small hu (show 0 ≤ t ∧ t ≤ 60001 by omega)
 have h3 : HH up t ≤ 24000400000000 / 2000000 := Int.ediv_le_ediv (by omega) (by unfold gg; omega)
 omega
def topPair (up : Int) : Int × Int := (impl_topOf.f 30000 up).getD (0, 0)
def tTop (up : Int) : Int := (topPair up).1
def vTop (up : Int) : Int := (topPair up).2
theorem top_is {up : Int} (hu : 0 ≤ up ∧ up ≤ 200000) : IsTop up (tTop up) (vTop up) ∧ (∀ k, 30000 ≤ k → spec_l04Top.f k up = some (tTop up, vTop up)) ∧ (∀ k, 30000 ≤ k → impl_topOf.f k up = some (tTop up, vTop up)) := by
 obtain ⟨t, top, h, hs, hi⟩ := top_both hu
 have e : topPair up = (t, top) := by unfold topPair; rw [hi 30000 (Nat.le_refl _)]; rfl
 unfold tTop vTop
 rw [e]
 exact ⟨h, hs, hi⟩
theorem tTop_range {up : Int} (hu : 0 ≤ up ∧ up ≤ 200000) : 0 ≤ tTop up ∧ tTop up ≤ 20388 ∧ 0 ≤ vTop up ∧ vTop up ≤ 12000200 := top_range hu (top_is hu).1
end Go.Proofs.Ytemkongfmceedaa.F
namespace Go.Proofs.Ytemkongfmceedaa.F
open Go.RowKit Go.Proofs.YtemkongfmceedaaW.PrintWords Go.Proofs.YtemkongfmceedaaW.PrintLast Go.Proofs.YtemkongfmceedaaW.PrintMore
attribute [local go_sem] max2_int min2_int max_two min_two max_three min_three max_four min_four   -- for this text's walks alone
set_option linter.unusedVariables false
set_option linter.unusedSimpArgs false
def impl_areWinds.f (a0 : Int) (a1 : Int) : Option (Bool) := (impl_isSide.f a0).bind fun t165 => (if t165 = true then ((impl_isSide.f a1).bind fun t166 => (if t166 = true then (some (decide (a0 ≤ a1))) else (some false))) else (some false))
set_option maxHeartbeats 8000000 in
set_option maxRecDepth 100000 in
theorem impl_areWinds.calls (a0 : Int) (a1 : Int) (r : Bool) (w : World) (h : impl_areWinds.f a0 a1 = some r) :
  Calls Try.prog 25 #[.int .i64 a0, .int .i64 a1] w fun e w' => e = .returned (.bool r) ∧ Drawn0 w w' := by
 have H : ((impl_isSide.f a0).bind fun t165 => (if t165 = true then ((impl_isSide.f a1).bind fun t166 => (if t166 = true then (some (decide (a0 ≤ a1))) else (some false))) else (some false))) = some r := h
 clear h
 replace H := Option.bind_eq_some_iff.mp H
 obtain ⟨t165, A30, H⟩ := H
 replace H : (if t165 = true then ((impl_isSide.f a1).bind fun t166 => (if t166 = true then (some (decide (a0 ≤ a1))) else (some false))) else (some false)) = some r := H
 have A3 := Aside0.mk A30
 clear A30
 by_cases c4 : t165 = true
 ·subst c4
  have H1 : ((impl_isSide.f a1).bind fun t166 => (if t166 = true then (some (decide (a0 ≤ a1))) else (some false))) = some r := by rw [if_pos rfl] at H; exact H
  clear H
  have H := H1
  clear H1
  replace H := Option.bind_eq_some_iff.mp H
  obtain ⟨t166, A50, H⟩ := H
  replace H : (if t166 = true then (some (decide (a0 ≤ a1))) else (some false)) = some r := H
  have A5 := Aside0.mk A50
  clear A50
  by_cases c6 : t166 = true
  ·subst c6
   have H1 : (some (decide (a0 ≤ a1))) = some r := by rw [if_pos rfl] at H; exact H
   clear H
   have H := H1
   clear H1
   obtain rfl := Option.some.inj H
   go_enter Try.func25, Try.ntmps25
   go_wp2_with (first | ((with_reducible refine gate_callee (f := 41) rfl ?_); refine goesL_ (some 6) rfl rfl Try.func41 (by kernel_rfl) rfl #[.int .i64 a0] rfl (by (try simp only [List.map_toArray, List.map_cons, List.map_nil]); first | done | rfl | (simp only [List.length_drop, List.length_take]; rfl)) ?_; (with_reducible refine (impl_isSide.calls a0 true _ A3.out).mono ?_); rintro e w' ⟨rfl, ⟨nd, rfl⟩⟩; refine ⟨_, rfl, ?_⟩) | (go_at_call 41; (with_reducible refine (impl_isSide.calls a1 true _ A5.out).mono ?_); rintro e w' ⟨rfl, ⟨nd, rfl⟩⟩))
   go_ret
   exact ⟨by first | rfl | (simp; done) | (simp [*]; done), by repeat (first | exact Drawn0.refl _ | apply Drawn0.step)⟩
  ·replace c6 := Bool.eq_false_iff.mpr c6
   subst c6
   have H1 : (some false) = some r := by rw [if_neg (show ¬ (false = true) by decide)] at H; exact H
   clear H
   have H := H1
   clear H1
   obtain rfl := Option.some.inj H
   go_enter Try.func25, Try.ntmps25
   go_wp2_with (first | ((with_reducible refine gate_callee (f := 41) rfl ?_); refine goesL_ (some 6) rfl rfl Try.func41 (by kernel_rfl) rfl #[.int .i64 a0] rfl (by (try simp only [List.map_toArray, List.map_cons, List.map_nil]); first | done | rfl | (simp only [List.length_drop, List.length_take]; rfl)) ?_; (with_reducible refine (impl_isSide.calls a0 true _ A3.out).mono ?_); rintro e w' ⟨rfl, ⟨nd, rfl⟩⟩; refine ⟨_, rfl, ?_⟩) | (go_at_call 41; (with_reducible refine (impl_isSide.calls a1 false _ A5.out).mono ?_); rintro e w' ⟨rfl, ⟨nd, rfl⟩⟩))
   go_ret
   exact ⟨by first | rfl | (simp; done) | (simp [*]; done), by repeat (first | exact Drawn0.refl _ | apply Drawn0.step)⟩
 ·replace c4 := Bool.eq_false_iff.mpr c4
  subst c4
  have H1 : (some false) = some r := by rw [if_neg (show ¬ (false = true) by decide)] at H; exact H
  clear H
  have H := H1
  clear H1
  obtain rfl := Option.some.inj H
  go_enter Try.func25, Try.ntmps25
  go_wp2_with (first | ((with_reducible refine gate_callee (f := 41) rfl ?_); refine goesL_ (some 6) rfl rfl Try.func41 (by kernel_rfl) rfl #[.int .i64 a0] rfl (by (try simp only [List.map_toArray, List.map_cons, List.map_nil]); first | done | rfl | (simp only [List.length_drop, List.length_take]; rfl)) ?_; (with_reducible refine (impl_isSide.calls a0 false _ A3.out).mono ?_); rintro e w' ⟨rfl, ⟨nd, rfl⟩⟩; refine ⟨_, rfl, ?_⟩))
  go_ret
  exact ⟨by first | rfl | (simp; done) | (simp [*]; done), by repeat (first | exact Drawn0.refl _ | apply Drawn0.step)⟩
end Go.Proofs.Ytemkongfmceedaa.F
namespace Go.Proofs.Ytemkongfmceedaa.F
open Go.RowKit Go.Proofs.YtemkongfmceedaaW.PrintWords Go.Proofs.YtemkongfmceedaaW.PrintLast Go.Proofs.YtemkongfmceedaaW.PrintMore
set_option linter.unusedVariables false
set_option linter.unusedSimpArgs false
def isShot (u s f r : Int) : Bool := inB u 0 200000 && (inB s (-50000) 50000 && (inB f 100 10000 && inB r 0 200000))
def areWinds (lo hi : Int) : Bool := inB lo (-50000) 50000 && inB hi lo 50000
theorem spec_shot (u s f r : Int) : spec_IsShot.f u s f r = some (isShot u s f r) := by
 unfold spec_IsShot.f spec_l04Code.f isShot
 simp only [In_eq, Option.bind_some]
 cases inB u 0 200000 <;> cases inB s (-50000) 50000 <;> cases inB f 100 10000 <;> cases inB r 0 200000 <;> rfl
theorem impl_shot (u s f r : Int) : impl_IsShot.f u s f r = some (isShot u s f r) := by
 unfold impl_IsShot.f impl_isUp.f impl_isSide.f isShot
 simp only [Wi_eq, Option.bind_some]
 cases inB u 0 200000 <;> cases inB s (-50000) 50000 <;> cases inB f 100 10000 <;> cases inB r 0 200000 <;> rfl
theorem spec_winds (lo hi : Int) : spec_l06Winds.f lo hi = some (areWinds lo hi) := by
 unfold spec_l06Winds.f areWinds
 simp only [In_eq, Option.bind_some]
 cases inB lo (-50000) 50000 <;> cases inB hi lo 50000 <;> rfl
theorem spec_code1 (u s f r lo hi : Int) (k : Nat) (hk : 1 < k) : spec_l06Code.f k [(⟨u, s, f, r⟩ : S26)] lo hi = some (if isShot u s f r = true then (if areWinds lo hi = true then 0 else 2) else 1) := by
 obtain ⟨k, rfl⟩ : ∃ m, k = m + 1 + 1 := ⟨k - 2, by omega⟩
 have e : (([(⟨u, s, f, r⟩ : S26)] : List S26).length : Int) = 1 := rfl
 have e2 : rd_T26 [(⟨u, s, f, r⟩ : S26)] 0 = ⟨u, s, f, r⟩ := rfl
 have e3 : wrap64 (0 + 1) = 1 := by unfold wrap64; omega
 unfold spec_l06Code.f
 simp only [spec_l06Code.l0]
 rw [e, e2, e3]
 simp only [spec_shot, spec_winds, Option.bind_some]
 cases isShot u s f r <;> cases areWinds lo hi <;> simp
def drift (s wnd t : Int) : Int := (s + wnd) * t / 1000
theorem drift_small {s wnd t : Int} (hs : -50000 ≤ s ∧ s ≤ 50000) (hw : -50000 ≤ wnd ∧ wnd ≤ 50000) (ht : 0 ≤ t ∧ t ≤ 60000) : -6000000000 ≤ (s + wnd) * t ∧ (s + wnd) * t ≤ 6000000000 := by
 have := prod_abs (a := s + wnd) (b := t) (A := 100000) (B := 60000) (by omega) ht
 omega
theorem spec_drift {s wnd t : Int} (hs : -50000 ≤ s ∧ s ≤ 50000) (hw : -50000 ≤ wnd ∧ wnd ≤ 50000) (ht : 0 ≤ t ∧ t ≤ 60000) : spec_l04Drift.f s wnd t = some (drift s wnd t) := by
 have h := drift_small hs hw ht
 unfold spec_l04Drift.f
 rw [w64 (n := s + wnd) (by omega), w64 (by omega), SFl_eq (by omega) (by omega)]
 rfl
theorem impl_drift {s wnd t : Int} (hs : -50000 ≤ s ∧ s ≤ 50000) (hw : -50000 ≤ wnd ∧ wnd ≤ 50000) (ht : 0 ≤ t ∧ t ≤ 60000) : impl_driftAt.f s wnd t = some (drift s wnd t) := by
 have h := drift_small hs hw ht
 unfold impl_driftAt.f
 rw [w64 (n := s + wnd) (by omega), w64 (by omega), Fl_eq (by omega) (by omega)]
 rfl
theorem isShot_true {u s f r : Int} (h : isShot u s f r = true) : (0 ≤ u ∧ u ≤ 200000) ∧ (-50000 ≤ s ∧ s ≤ 50000) ∧ (100 ≤ f ∧ f ≤ 10000) ∧ (0 ≤ r ∧ r ≤ 200000) := by
 unfold isShot at h
 simpa only [Bool.and_eq_true, inB_true] using h
theorem areWinds_true {lo hi : Int} (h : areWinds lo hi = true) : (-50000 ≤ lo ∧ lo ≤ 50000) ∧ lo ≤ hi ∧ hi ≤ 50000 := by
 unfold areWinds at h
 simpa only [Bool.and_eq_true, inB_true] using h
end Go.Proofs.Ytemkongfmceedaa.F
namespace Go.Proofs.Ytemkongfmceedaa.F
open Go.RowKit Go.Proofs.YtemkongfmceedaaW.PrintWords Go.Proofs.YtemkongfmceedaaW.PrintLast Go.Proofs.YtemkongfmceedaaW.PrintMore
set_option linter.unusedVariables false
set_option linter.unusedSimpArgs false
end Go.Proofs.Ytemkongfmceedaa.F
namespace Go.Proofs.Ytemkongfmceedaa.F
open Go.RowKit Go.Proofs.YtemkongfmceedaaW.PrintWords Go.Proofs.YtemkongfmceedaaW.PrintLast Go.Proofs.YtemkongfmceedaaW.PrintMore
set_option linter.unusedVariables false
set_option linter.unusedSimpArgs false
theorem ceil_eq {a b : Int} (hb : 0 < b) : -((-a) / b) = (a + b - 1) / b := by
 have h1 := Int.emod_nonneg (-a) (show b ≠ 0 by omega)
 have h2 := Int.emod_lt_of_pos (-a) hb
 have h3 := Int.mul_ediv_add_emod (-a) b
 have h4 : (a + b - 1) / b = -((-a) / b) ∧ (a + b - 1) % b = b - 1 - (-a) % b := (Int.ediv_emod_unique hb).2 (by
  rw [Int.mul_neg]
  refine ⟨by omega, by omega, by omega⟩)
 exact h4.1.symm
theorem Ce_eq {a b : Int} (hb : 0 < b) (ha : -4611686018427387904 ≤ a ∧ a ≤ 4611686018427387904) : spec_l01Ceil.f a b = some (-((-a) / b)) := by
 have hs := ediv_small (a := -a) hb (by omega)
 unfold spec_l01Ceil.f
 rw [w64 (n := -a) (by omega), SFl_eq hb (by omega)]
 simp only [Option.bind_some]
 rw [w64 (by omega)]
theorem Cd_eq {a b : Int} (hb : 0 < b ∧ b ≤ 1000000) (ha : 0 ≤ a ∧ a ≤ 4611686018427387904) : impl_ceilDiv.f a b = some ((a + b - 1) / b) := by
 have h1 := Int.ediv_le_self b (show 0 ≤ a + b - 1 by omega)
 have h2 := Int.ediv_nonneg (show 0 ≤ a + b - 1 by omega) (show 0 ≤ b by omega)
 unfold impl_ceilDiv.f
 rw [if_neg (by omega), w64 (n := a + b) (by omega), w64 (n := a + b - 1) (by omega), Int.tdiv_eq_ediv_of_nonneg (by omega), w64 (by omega)]
def dTime (u f : Int) : Int := (1000 * vTop u + f - 1) / f
theorem dTime_range {u f : Int} (hu : 0 ≤ u ∧ u ≤ 200000) (hf : 100 ≤ f ∧ f ≤ 10000) : 0 ≤ dTime u f ∧ dTime u f ≤ 120002100 := by
 have ht := tTop_range hu
 unfold dTime
 refine ⟨Int.ediv_nonneg (by omega) (by omega), ?_⟩
 have h1 : (1000 * vTop u + f - 1) / f ≤ (1000 * vTop u + f - 1) / 100 := by
  have a : 100 * ((1000 * vTop u + f - 1) / f) ≤ f * ((1000 * vTop u + f - 1) / f) := Int.mul_le_mul_of_nonneg_right hf.1 (Int.ediv_nonneg (by omega) (by omega))
  have b := Int.mul_ediv_self_le (x := 1000 * vTop u + f - 1) (k := f) (by omega)
  omega
 omega
theorem time_both {u s f r : Int} (h : isShot u s f r = true) : (∀ k, 30000 ≤ k → spec_l06Time.f k u s f r = some (dTime u f)) ∧ (∀ k, 30000 ≤ k → impl_debrisTime.f k u s f r = some (dTime u f)) := by
 obtain ⟨h1, h2, h3, h4⟩ := isShot_true h
 have ht := tTop_range h1
 have hi := top_is h1
 refine ⟨fun k hk => ?_, fun k hk => ?_⟩
 ·unfold spec_l06Time.f
  rw [hi.2.1 k hk]
  simp only [Option.bind_some]
  rw [w64 (n := 1000 * vTop u) (by omega), Ce_eq (by omega) (by omega), ceil_eq (by omega)]; rfl
 ·unfold impl_debrisTime.f
  rw [hi.2.2 k hk]
  simp only [Option.bind_some]
  rw [w64 (n := 1000 * vTop u) (by omega), Cd_eq (by omega) (by omega)]; rfl
def dbLo (u s f r lo : Int) : Int := drift s lo (tTop u) + lo * dTime u f / 1000 - r
def dbHi (u s f r hi : Int) : Int := drift s hi (tTop u) - (-hi) * dTime u f / 1000 + r
theorem burst_is {u s f r lo hi : Int} (h : isShot u s f r = true) (hw : areWinds lo hi = true) : (∀ k, 30000 ≤ k → spec_l06Burst.f k u s f r lo hi = some (drift s lo (tTop u), drift s hi (tTop u))) ∧ ∀ k, 30000 ≤ k → impl_burstRange.f k u s f r lo hi = some (drift s lo (tTop u), drift s hi (tTop u)) := by
 obtain ⟨h1, h2, h3, h4⟩ := isShot_true h
 obtain ⟨w1, w2, w3⟩ := areWinds_true hw
 obtain ⟨_, hs, hi'⟩ := top_is h1
 have hr := tTop_range h1
 refine ⟨fun k hk => ?_, fun k hk => ?_⟩
 ·unfold spec_l06Burst.f
  rw [hs k hk]
  simp only [Option.bind_some]
  rw [spec_drift h2 w1 (by omega), spec_drift h2 (by omega) (by omega)]; rfl
 ·unfold impl_burstRange.f
  rw [hi' k hk]
  simp only [Option.bind_some]
  rw [impl_drift h2 w1 (by omega), impl_drift h2 (by omega) (by omega)]; rfl
theorem drift_range {s wnd t : Int} (hs : -50000 ≤ s ∧ s ≤ 50000) (hw : -50000 ≤ wnd ∧ wnd ≤ 50000) (ht : 0 ≤ t ∧ t ≤ 60000) : -6000000 ≤ drift s wnd t ∧ drift s wnd t ≤ 6000000 := by
 have h := drift_small hs hw ht
 unfold drift
 omega
theorem debris_small {u s f r lo : Int} (h : isShot u s f r = true) (hl : -50000 ≤ lo ∧ lo ≤ 50000) : (-6000105000000 ≤ lo * dTime u f ∧ lo * dTime u f ≤ 6000105000000) ∧ (-6000000 ≤ drift s lo (tTop u) ∧ drift s lo (tTop u) ≤ 6000000) := by
 obtain ⟨h1, h2, h3, h4⟩ := isShot_true h
 have hd := dTime_range h1 h3
 have ht := tTop_range h1
 have := prod_abs (a := lo) (b := dTime u f) (A := 50000) (B := 120002100) hl hd
 exact ⟨by omega, drift_range h2 hl (by omega)⟩
theorem debris_is {u s f r lo hi : Int} (h : isShot u s f r = true) (hw : areWinds lo hi = true) : (∀ k, 30000 ≤ k → spec_l06Debris.f k u s f r lo hi = some (dbLo u s f r lo, dbHi u s f r hi)) ∧ ∀ k, 30000 ≤ k → impl_debrisRange.f k u s f r lo hi = some (dbLo u s f r lo, dbHi u s f r hi) := by
 obtain ⟨h1, h2, h3, h4⟩ := isShot_true h
 obtain ⟨w1, w2, w3⟩ := areWinds_true hw
 have a := debris_small h w1
 have b := debris_small h (lo := hi) (by omega)
 obtain ⟨bs, bi⟩ := burst_is h hw
 obtain ⟨ts, ti⟩ := time_both h
 have en : (-hi) * dTime u f = -(hi * dTime u f) := Int.neg_mul _ _
 refine ⟨fun k hk => ?_, fun k hk => ?_⟩
 ·unfold spec_l06Debris.f
  rw [bs k hk, ts k hk]
  simp only [Option.bind_some]
  rw [w64 (n := lo * dTime u f) (by omega), w64 (n := hi * dTime u f) (by omega), SFl_eq (by omega) (by omega), Ce_eq (by omega) (by omega)]
  simp only [Option.bind_some]
  rw [w64 (n := drift s lo (tTop u) + _) (by omega), w64 (n := drift s lo (tTop u) + _ - r) (by omega), w64 (n := drift s hi (tTop u) + _) (by omega), w64 (by omega)]
  unfold dbLo dbHi
  rw [en]
  congr 2 <;> omega
 ·unfold impl_debrisRange.f
  rw [bi k hk, ti k hk]
  simp only [Option.bind_some]
  rw [w64 (n := lo * dTime u f) (by omega), w64 (n := -hi) (by omega), w64 (n := (-hi) * dTime u f) (by omega), Fl_eq (by omega) (by omega), Fl_eq (by omega) (by omega)]
  simp only [Option.bind_some]
  rw [w64 (n := drift s lo (tTop u) + _) (by omega), w64 (n := drift s lo (tTop u) + _ - r) (by omega), w64 (n := drift s hi (tTop u) - _) (by omega), w64 (by omega)]
  rfl
end Go.Proofs.Ytemkongfmceedaa.F
namespace Go.Proofs.Ytemkongfmceedaa.F
open Go.RowKit Go.Proofs.YtemkongfmceedaaW.PrintWords Go.Proofs.YtemkongfmceedaaW.PrintLast Go.Proofs.YtemkongfmceedaaW.PrintMore
set_option linter.unusedVariables false
set_option linter.unusedSimpArgs false
theorem HH_end {up : Int} (hu : 0 ≤ up ∧ up ≤ 200000) : HH up 60000 ≤ 0 := by
 unfold HH gg
 omega
def IsFl (up t : Int) : Prop := 1 ≤ t ∧ t ≤ 60000 ∧ HH up t ≤ 0 ∧ ∀ s, 1 ≤ s → s < t → 0 < HH up s
theorem IsFl.unique {up t t' : Int} (h : IsFl up t) (h' : IsFl up t') : t' = t := by
 obtain ⟨a, b, c, d⟩ := h
 obtain ⟨a', b', c', d'⟩ := h'
 rcases Int.lt_trichotomy t t' with x | x | x
 ·have := d' t a x; omega
 ·exact x.symm
 ·have := d t' a' x; omega
theorem pos_rise {up : Int} (hu : 0 ≤ up ∧ up ≤ 200000) (h1 : 0 < HH up 1) : ∀ s, 1 ≤ s → s ≤ lastT up → 0 < HH up s := fun s h2 h3 => by
 have := H_rise hu (show (0 : Int) ≤ 1 by omega) h2 h3
 omega
theorem impl_flight_loop {up : Int} (hu : 0 ≤ up ∧ up ≤ 200000) (n : Nat) : ∀ (k : Nat) (lo hi : Int), hi - lo ≤ n → lastT up + 1 ≤ lo → lo ≤ hi → hi ≤ 60000 → HH up hi ≤ 0 → (∀ s, 1 ≤ s → s < lo → 0 < HH up s) → n < k →
  ∃ r, impl_flightOf.l0 k up lo hi = some r ∧ IsFl up r := by
 have hl := last_le hu
 induction n with
 | zero =>
  intro k lo hi h1 h2 h3 h4 h5 h6 hk
  obtain ⟨k, rfl⟩ : ∃ m, k = m + 1 := ⟨k - 1, by omega⟩
  have e : lo = hi := by omega
  subst e
  refine ⟨lo, ?_, by omega, h4, h5, h6⟩
  simp only [impl_flightOf.l0]
  rw [if_neg (by omega)]
 | succ n ih =>
  intro k lo hi h1 h2 h3 h4 h5 h6 hk
  obtain ⟨k, rfl⟩ : ∃ m, k = m + 1 := ⟨k - 1, by omega⟩
  simp only [impl_flightOf.l0]
  by_cases c : lo < hi
  ·rw [if_pos c, w64 (n := lo + hi) (by omega), tdiv_nn (by omega), w64 (n := (lo + hi) / 2) (by omega), H_impl hu (by omega)]
   simp only [Option.bind_some]
   by_cases d : HH up ((lo + hi) / 2) ≤ 0
   ·rw [if_pos d]
    exact ih k lo ((lo + hi) / 2) (by omega) h2 (by omega) (by omega) d h6 (by omega)
   ·rw [if_neg d, w64 (by omega)]
    refine ih k ((lo + hi) / 2 + 1) hi (by omega) (by omega) (by omega) h4 h5 (fun s h7 h8 => ?_) (by omega)
    by_cases e : s < lo
    ·exact h6 s h7 e
    ·have := H_fall hu (show lastT up + 1 ≤ s by omega) (show s ≤ (lo + hi) / 2 by omega)
     omega
  ·rw [if_neg c]
   have e : lo = hi := by omega
   subst e
   exact ⟨lo, rfl, by omega, h4, h5, h6⟩
theorem impl_flight {up : Int} (hu : 0 ≤ up ∧ up ≤ 200000) (k : Nat) (hk : 150000 ≤ k) : ∃ t, impl_flightOf.f k up = some t ∧ IsFl up t := by
 have hl := last_le hu
 unfold impl_flightOf.f
 rw [H_impl hu (by omega)]
 simp only [Option.bind_some]
 by_cases c : HH up 1 ≤ 0
 ·rw [if_pos c]
  exact ⟨1, rfl, by omega, by omega, c, fun s h1 h2 => by omega⟩
 ·rw [if_neg c, w64 (n := 1000 * up) (by omega), tdiv_nn (by omega)]
  show ∃ t, impl_flightOf.l0 k up (wrap64 (wrap64 (lastT up) + 1)) 60000 = some t ∧ _
  rw [w64 (n := lastT up) (by omega), w64 (n := lastT up + 1) (by omega)]
  exact impl_flight_loop hu 60000 k (lastT up + 1) 60000 (by omega) (by omega) (by omega) (by omega) (HH_end hu) (fun s h1 h2 => pos_rise hu (by omega) s h1 (by omega)) (by omega)
theorem spec_flight0 {up : Int} (hu : 0 ≤ up ∧ up ≤ 200000) (n : Nat) : ∀ (k : Nat) (lo hi : Int), hi - lo ≤ n → (0 ≤ lo ∧ lo ≤ hi) → 1 ≤ hi → hi ≤ 60000 → HH up hi ≤ 0 → n < k →
  ∃ (k' : Nat) (hi' : Int), k ≤ k' + n + 1 ∧ spec_l04Flight.l0 k up lo hi = spec_l04Flight.l1 k' up hi' ∧ 1 ≤ hi' ∧ hi' ≤ 60000 ∧ HH up hi' ≤ 0 := by
 induction n with
 | zero =>
  intro k lo hi h1 h2 h3 h4 h5 hk
  obtain ⟨k, rfl⟩ : ∃ m, k = m + 1 := ⟨k - 1, by omega⟩
  refine ⟨k, hi, by omega, ?_, h3, h4, h5⟩
  simp only [spec_l04Flight.l0]
  rw [w64 (n := lo + 1) (by omega), if_neg (by omega)]
 | succ n ih =>
  intro k lo hi h1 h2 h3 h4 h5 hk
  obtain ⟨k, rfl⟩ : ∃ m, k = m + 1 := ⟨k - 1, by omega⟩
  simp only [spec_l04Flight.l0]
  rw [w64 (n := lo + 1) (by omega)]
  by_cases c : lo + 1 < hi
  ·rw [if_pos c, w64 (n := lo + hi) (by omega), tdiv_nn (by omega), w64 (n := (lo + hi) / 2) (by omega), H_spec hu (by omega)]
   simp only [Option.bind_some]
   by_cases d : HH up ((lo + hi) / 2) ≤ 0
   ·rw [if_pos d]
    obtain ⟨k', hi', e1, e2⟩ := ih k lo ((lo + hi) / 2) (by omega) (by omega) (by omega) (by omega) d (by omega)
    exact ⟨k', hi', by omega, e2⟩
   ·rw [if_neg d]
    obtain ⟨k', hi', e1, e2⟩ := ih k ((lo + hi) / 2) hi (by omega) (by omega) h3 h4 h5 (by omega)
    exact ⟨k', hi', by omega, e2⟩
  ·rw [if_neg c]
   exact ⟨k, hi, by omega, rfl, h3, h4, h5⟩
theorem spec_flight1 {up : Int} (hu : 0 ≤ up ∧ up ≤ 200000) (n : Nat) : ∀ (k : Nat) (hi : Int), hi = n + 1 → hi ≤ 60000 → HH up hi ≤ 0 → n + 1 < k →
  ∃ (k' : Nat) (hi' : Int), k ≤ k' + n + 2 ∧ spec_l04Flight.l1 k up hi = spec_l04Flight.l2 k' up hi' 1 ∧ 1 ≤ hi' ∧ hi' ≤ 60000 ∧ HH up hi' ≤ 0 ∧ (hi' = 1 ∨ 0 < HH up (hi' - 1)) := by
 induction n with
 | zero =>
  intro k hi h1 h2 h3 hk
  obtain ⟨k, rfl⟩ : ∃ m, k = m + 2 := ⟨k - 2, by omega⟩
  refine ⟨k, hi, by omega, ?_, by omega, h2, h3, .inl (by omega)⟩
  simp only [spec_l04Flight.l1, spec_l04Flight.j2]
  rw [if_neg (by omega)]
 | succ n ih =>
  intro k hi h1 h2 h3 hk
  obtain ⟨k, rfl⟩ : ∃ m, k = m + 2 := ⟨k - 2, by omega⟩
  by_cases d : HH up (hi - 1) ≤ 0
  ·obtain ⟨k', hi', e1, e2, e3⟩ := ih (k + 1) (hi - 1) (by omega) (by omega) d (by omega)
   refine ⟨k', hi', by omega, ?_, e3⟩
   rw [← e2]
   simp only [spec_l04Flight.l1, spec_l04Flight.j2]
   rw [if_pos (by omega), w64 (n := hi - 1) (by omega), H_spec hu (by omega)]
   simp only [Option.bind_some]
   rw [if_pos d]
  ·refine ⟨k, hi, by omega, ?_, by omega, h2, h3, .inr (by omega)⟩
   simp only [spec_l04Flight.l1, spec_l04Flight.j2]
   rw [if_pos (by omega), w64 (n := hi - 1) (by omega), H_spec hu (by omega)]
   simp only [Option.bind_some]
   rw [if_neg d]
theorem spec_flight {up : Int} (hu : 0 ≤ up ∧ up ≤ 200000) (k : Nat) (hk : 150000 ≤ k) : ∃ t, spec_l04Flight.f k up = some t ∧ IsFl up t := by
 have hl := last_le hu
 have ht := tTop_range hu
 unfold spec_l04Flight.f
 rw [(top_is hu).2.1 k (by omega)]
 simp only [Option.bind_some]
 obtain ⟨k1, hi, e1, e2, e3, e4, e5⟩ := spec_flight0 hu 60000 k (tTop up) 60000 (by omega) (by omega) (by omega) (by omega) (HH_end hu) (by omega)
 obtain ⟨k2, h, f1, f2, f3, f4, f5, f6⟩ := spec_flight1 hu (hi - 1).toNat k1 hi (by omega) e4 e5 (by omega)
 rw [e2, f2]
 obtain ⟨k3, rfl⟩ : ∃ m, k2 = m + 6 := ⟨k2 - 6, by omega⟩
 clear hk e1 e2 f1 f2 e3 e4 e5
 by_cases c : HH up 1 ≤ 0
 ·refine ⟨1, ?_, by omega, by omega, c, fun s h1 h2 => by omega⟩
  simp only [spec_l04Flight.l2, spec_l04Flight.j4]
  by_cases d : 1 < h
  ·rw [if_pos d, if_pos (by decide), H_spec hu (by omega)]
   simp only [Option.bind_some]
   rw [if_pos c]
  ·rw [if_neg d, if_neg (by decide)]
   congr 1; omega
 ·have hp : ∀ s, 1 ≤ s → s < h → 0 < HH up s := fun s h1 h2 => by
   by_cases e : s ≤ lastT up
   ·exact pos_rise hu (by omega) s h1 e
   ·have := H_fall hu (show lastT up + 1 ≤ s by omega) (show s ≤ h - 1 by omega)
    omega
  refine ⟨h, ?_, f3, f4, f5, hp⟩
  have w2 : wrap64 (1 + 1) = 2 := w64 (by omega)
  have w3 : wrap64 (2 + 1) = 3 := w64 (by omega)
  simp only [spec_l04Flight.l2, spec_l04Flight.j4, w2, w3]
  by_cases d : 1 < h
  ·rw [if_pos d, if_pos (by decide), H_spec hu (by omega)]
   simp only [Option.bind_some]
   rw [if_neg c]
   by_cases d2 : 2 < h
   ·have := hp 2 (by omega) d2
    rw [if_pos d2, if_pos (by decide), H_spec hu (by omega)]
    simp only [Option.bind_some]
    rw [if_neg (by omega)]
    by_cases d3 : 3 < h
    ·rw [if_pos d3, if_neg (by decide)]
    ·rw [if_neg d3, if_neg (by decide)]
   ·rw [if_neg d2, if_neg (by decide)]
  ·rw [if_neg d, if_neg (by decide)]
def flT (up : Int) : Int := (impl_flightOf.f 150000 up).getD 0
theorem flight_is {up : Int} (hu : 0 ≤ up ∧ up ≤ 200000) : IsFl up (flT up) ∧ (∀ k, 150000 ≤ k → spec_l04Flight.f k up = some (flT up)) ∧ ∀ k, 150000 ≤ k → impl_flightOf.f k up = some (flT up) := by
 obtain ⟨t, e, h⟩ := impl_flight hu 150000 (Nat.le_refl _)
 have et : flT up = t := by unfold flT; rw [e]; rfl
 rw [et]
 refine ⟨h, fun k hk => ?_, fun k hk => ?_⟩
 ·obtain ⟨t', e', h'⟩ := spec_flight hu k hk
  rw [h.unique h'] at e'
  exact e'
 ·obtain ⟨t', e', h'⟩ := impl_flight hu k hk
  rw [h.unique h'] at e'
  exact e'
end Go.Proofs.Ytemkongfmceedaa.F
namespace Go.Proofs.Ytemkongfmceedaa.F
open Go.RowKit Go.Proofs.YtemkongfmceedaaW.PrintWords Go.Proofs.YtemkongfmceedaaW.PrintLast Go.Proofs.YtemkongfmceedaaW.PrintMore
set_option linter.unusedVariables false
set_option linter.unusedSimpArgs false
theorem mn_is (a b : Int) : mn a b ≤ a ∧ mn a b ≤ b ∧ (mn a b = a ∨ mn a b = b) := by unfold mn; split <;> omega
theorem mx_is (a b : Int) : a ≤ mx a b ∧ b ≤ mx a b ∧ (mx a b = a ∨ mx a b = b) := by unfold mx; split <;> omega
def stLo (u s f r lo : Int) : Int := mn (mn (dbLo u s f r lo) (drift s lo (flT u))) 0
def stHi (u s f r hi : Int) : Int := mx (mx (dbHi u s f r hi) (drift s hi (flT u))) 0
theorem flT_range {up : Int} (hu : 0 ≤ up ∧ up ≤ 200000) : 1 ≤ flT up ∧ flT up ≤ 60000 := ⟨(flight_is hu).1.1, (flight_is hu).1.2.1⟩
theorem strip_is {u s f r lo hi : Int} (h : isShot u s f r = true) (hw : areWinds lo hi = true) : (∀ k, 150000 ≤ k → spec_l06Strip.f k u s f r lo hi = some (stLo u s f r lo, stHi u s f r hi)) ∧ ∀ k, 150000 ≤ k → impl_stripOf.f k u s f r lo hi = some (stLo u s f r lo, stHi u s f r hi) := by
 obtain ⟨h1, h2, h3, h4⟩ := isShot_true h
 obtain ⟨w1, w2, w3⟩ := areWinds_true hw
 obtain ⟨ds, di⟩ := debris_is h hw
 obtain ⟨_, fs, fi⟩ := flight_is h1
 have fr := flT_range h1
 refine ⟨fun k hk => ?_, fun k hk => ?_⟩
 ·unfold spec_l06Strip.f
  rw [ds k (by omega), fs k hk]
  simp only [Option.bind_some]
  rw [spec_drift h2 w1 (by omega), spec_drift h2 (by omega) (by omega)]
  simp only [Option.bind_some]
  have a1 := mn_is 0 (dbLo u s f r lo)
  have a2 := mn_is (mn 0 (dbLo u s f r lo)) (drift s lo (flT u))
  have a3 := mn_is (dbLo u s f r lo) (drift s lo (flT u))
  have a4 := mn_is (mn (dbLo u s f r lo) (drift s lo (flT u))) 0
  have b1 := mx_is 0 (dbHi u s f r hi)
  have b2 := mx_is (mx 0 (dbHi u s f r hi)) (drift s hi (flT u))
  have b3 := mx_is (dbHi u s f r hi) (drift s hi (flT u))
  have b4 := mx_is (mx (dbHi u s f r hi) (drift s hi (flT u))) 0
  unfold stLo stHi
  congr 2 <;> omega
 ·unfold impl_stripOf.f
  rw [di k (by omega), fi k hk]
  simp only [Option.bind_some]
  rw [impl_drift h2 w1 (by omega), impl_drift h2 (by omega) (by omega)]
  rfl
end Go.Proofs.Ytemkongfmceedaa.F
namespace Go.Proofs.Ytemkongfmceedaa.F
open Go.RowKit Go.Proofs.YtemkongfmceedaaW.PrintWords Go.Proofs.YtemkongfmceedaaW.PrintLast Go.Proofs.YtemkongfmceedaaW.PrintMore
set_option linter.unusedVariables false
set_option linter.unusedSimpArgs false
def okW (u s f r most w : Int) : Prop := stLo u s f r (-w) ≥ -most ∧ stHi u s f r w ≤ most
instance (u s f r most w : Int) : Decidable (okW u s f r most w) := inferInstanceAs (Decidable (_ ∧ _))
theorem winds_w {w : Int} (h : 0 ≤ w ∧ w ≤ 50000) : areWinds (-w) w = true := by
 unfold areWinds
 rw [Bool.and_eq_true, inB_true, inB_true]
 omega
theorem okW_mono {u s f r most v w : Int} (h : isShot u s f r = true) (hv : 0 ≤ v) (hvw : v ≤ w) (hk : okW u s f r most w) : okW u s f r most v := by
 obtain ⟨h1, h2, h3, h4⟩ := isShot_true h
 have ft := flT_range h1
 have dt := dTime_range h1 h3
 have tt := tTop_range h1
 have mono : ∀ (a b t : Int), a ≤ b → 0 ≤ t → a * t / 1000 ≤ b * t / 1000 := fun a b t h5 h6 => Int.ediv_le_ediv (by omega) (Int.mul_le_mul_of_nonneg_right h5 h6)
 have dmono : ∀ (a b t : Int), a ≤ b → 0 ≤ t → drift s a t ≤ drift s b t := fun a b t h5 h6 => mono (s + a) (s + b) t (by omega) h6
 have a1 := dmono (-w) (-v) (flT u) (by omega) (by omega)
 have a2 := dmono (-w) (-v) (tTop u) (by omega) (by omega)
 have a3 := mono (-w) (-v) (dTime u f) (by omega) (by omega)
 have b1 := dmono v w (flT u) (by omega) (by omega)
 have b2 := dmono v w (tTop u) (by omega) (by omega)
 have c1 := mn_is (dbLo u s f r (-w)) (drift s (-w) (flT u))
 have c2 := mn_is (mn (dbLo u s f r (-w)) (drift s (-w) (flT u))) 0
 have c3 := mn_is (dbLo u s f r (-v)) (drift s (-v) (flT u))
 have c4 := mn_is (mn (dbLo u s f r (-v)) (drift s (-v) (flT u))) 0
 have e1 := mx_is (dbHi u s f r w) (drift s w (flT u))
 have e2 := mx_is (mx (dbHi u s f r w) (drift s w (flT u))) 0
 have e3 := mx_is (dbHi u s f r v) (drift s v (flT u))
 have e4 := mx_is (mx (dbHi u s f r v) (drift s v (flT u))) 0
 have g1 : dbLo u s f r (-w) ≤ dbLo u s f r (-v) := by unfold dbLo; omega
 have g2 : dbHi u s f r v ≤ dbHi u s f r w := by unfold dbHi; omega
 obtain ⟨k1, k2⟩ := hk
 unfold stLo at k1
 unfold stHi at k2
 unfold okW stLo stHi
 omega
def Most (u s f r most w : Int) : Prop := 0 ≤ w ∧ w ≤ 50000 ∧ okW u s f r most w ∧ (w = 50000 ∨ ¬ okW u s f r most (w + 1))
theorem Most.unique {u s f r most w w' : Int} (hS : isShot u s f r = true) (h : Most u s f r most w) (h' : Most u s f r most w') : w' = w := by
 obtain ⟨a, b, c, d⟩ := h
 obtain ⟨a', b', c', d'⟩ := h'
 rcases Int.lt_trichotomy w w' with x | x | x
 ·have := okW_mono hS (show 0 ≤ w + 1 by omega) (show w + 1 ≤ w' by omega) c'
  rcases d with d | d
  ·omega
  ·exact absurd this d
 ·exact x.symm
 ·have := okW_mono hS (show 0 ≤ w' + 1 by omega) (show w' + 1 ≤ w by omega) c
  rcases d' with d | d
  ·omega
  ·exact absurd this d
theorem within_is {u s f r : Int} (h : isShot u s f r = true) {most w : Int} (hm : 0 ≤ most ∧ most ≤ 100000000) (hw : 0 ≤ w ∧ w ≤ 50000) (k : Nat) (hk : 150000 ≤ k) : spec_l06Within.f k u s f r w most = some (decide (okW u s f r most w)) := by
 unfold spec_l06Within.f
 rw [w64 (n := -w) (by omega), w64 (n := -most) (by omega), (strip_is h (winds_w hw)).1 k hk]
 simp only [Option.bind_some]
 by_cases c : stLo u s f r (-w) ≥ -most
 ·rw [if_pos c]
  by_cases x : stHi u s f r w ≤ most
  ·rw [decide_eq_true x, decide_eq_true (show okW u s f r most w from ⟨c, x⟩)]
  ·rw [decide_eq_false x, decide_eq_false (show ¬ okW u s f r most w from fun y => x y.2)]
 ·rw [if_neg c, decide_eq_false (show ¬ okW u s f r most w from fun y => c y.1)]
theorem spec_loop {u s f r : Int} (h : isShot u s f r = true) {most : Int} (hm : 0 ≤ most ∧ most ≤ 100000000) (n : Nat) : ∀ (k : Nat) (lo hi : Int), hi - lo ≤ n → 0 ≤ lo → lo < hi → hi ≤ 50001 → okW u s f r most lo → (hi = 50001 ∨ ¬ okW u s f r most hi) → n + 150000 < k →
  ∃ w, spec_MostWind.l0 k most lo hi u s f r = some (w, 0) ∧ Most u s f r most w := by
 induction n with
 | zero => intro k lo hi h1 h2 h3; omega
 | succ n ih =>
  intro k lo hi h1 h2 h3 h4 h5 h6 hk
  obtain ⟨k, rfl⟩ : ∃ m, k = m + 1 := ⟨k - 1, by omega⟩
  simp only [spec_MostWind.l0]
  rw [w64 (n := lo + 1) (by omega)]
  by_cases c : lo + 1 < hi
  ·rw [if_pos c, w64 (n := lo + hi) (by omega), tdiv_nn (by omega), w64 (n := (lo + hi) / 2) (by omega), within_is h hm (by omega) k (by omega)]
   simp only [Option.bind_some]
   by_cases d : okW u s f r most ((lo + hi) / 2)
   ·rw [if_pos (decide_eq_true d)]
    exact ih k _ hi (by omega) (by omega) (by omega) h4 d h6 (by omega)
   ·rw [if_neg (by rw [decide_eq_false d]; decide)]
    exact ih k lo _ (by omega) h2 (by omega) (by omega) h5 (.inr d) (by omega)
  ·rw [if_neg c]
   refine ⟨lo, rfl, h2, by omega, h5, ?_⟩
   have e : hi = lo + 1 := by omega
   rw [e] at h6
   rcases h6 with x | x
   ·exact .inl (by omega)
   ·exact .inr x
theorem impl_loop {u s f r : Int} (h : isShot u s f r = true) {most : Int} (hm : 0 ≤ most ∧ most ≤ 100000000) (n : Nat) : ∀ (k : Nat) (lo hi : Int), hi - lo ≤ n → -1 ≤ lo → lo ≤ hi → hi ≤ 50000 → (lo = -1 ∨ okW u s f r most lo) → (hi = 50000 ∨ ¬ okW u s f r most (hi + 1)) → n + 150000 < k →
  (impl_MostWind.l0 k most lo hi u s f r = some (0, 4) ∧ ¬ okW u s f r most 0) ∨ ∃ w, impl_MostWind.l0 k most lo hi u s f r = some (w, 0) ∧ Most u s f r most w := by
 induction n with
 | zero =>
  intro k lo hi h1 h2 h3 h4 h5 h6 hk
  obtain ⟨k, rfl⟩ : ∃ m, k = m + 1 := ⟨k - 1, by omega⟩
  simp only [impl_MostWind.l0]
  have e : lo = hi := by omega
  subst e
  rw [if_neg (by omega)]
  by_cases c : lo < 0
  ·rw [if_pos c]
   have e : lo = -1 := by omega
   subst e
   refine .inl ⟨rfl, ?_⟩
   rcases h6 with x | x
   ·omega
   ·exact x
  ·rw [if_neg c]
   refine .inr ⟨lo, rfl, by omega, h4, ?_, h6⟩
   rcases h5 with x | x
   ·omega
   ·exact x
 | succ n ih =>
  intro k lo hi h1 h2 h3 h4 h5 h6 hk
  obtain ⟨k, rfl⟩ : ∃ m, k = m + 1 := ⟨k - 1, by omega⟩
  by_cases c : lo < hi
  ·simp only [impl_MostWind.l0]
   rw [if_pos c, w64 (n := lo + hi) (by omega), w64 (n := lo + hi + 1) (by omega), Fl_eq (by omega) (by omega)]
   simp only [Option.bind_some]
   have hw : 0 ≤ (lo + hi + 1) / 2 ∧ (lo + hi + 1) / 2 ≤ 50000 := by omega
   rw [w64 (n := -((lo + hi + 1) / 2)) (by omega), w64 (n := -most) (by omega), (strip_is h (winds_w hw)).2 k (by omega), w64 (n := (lo + hi + 1) / 2 - 1) (by omega)]
   simp only [Option.bind_some]
   have no : ∀ w, w = (lo + hi + 1) / 2 → ¬ okW u s f r most w → ((impl_MostWind.l0 k most lo ((lo + hi + 1) / 2 - 1) u s f r = some (0, 4) ∧ ¬ okW u s f r most 0) ∨ ∃ w, impl_MostWind.l0 k most lo ((lo + hi + 1) / 2 - 1) u s f r = some (w, 0) ∧ Most u s f r most w) := fun w e g => by
    refine ih k lo _ (by omega) h2 (by omega) (by omega) h5 (.inr ?_) (by omega)
    rw [show (lo + hi + 1) / 2 - 1 + 1 = w by omega]
    exact g
   by_cases d : stLo u s f r (-((lo + hi + 1) / 2)) ≥ -most
   ·rw [if_pos d]
    by_cases d2 : stHi u s f r ((lo + hi + 1) / 2) ≤ most
    ·rw [if_pos d2]
     exact ih k _ hi (by omega) (by omega) (by omega) h4 (.inr ⟨d, d2⟩) h6 (by omega)
    ·rw [if_neg d2]
     exact no _ rfl (fun x => d2 x.2)
   ·rw [if_neg d]
    exact no _ rfl (fun x => d x.1)
  ·exact ih (k + 1) lo hi (by omega) h2 h3 h4 h5 h6 (by omega)
theorem main_FnExactMostWind (u s f r most : Int) (_ : I64 u) (_ : I64 s) (_ : I64 f) (_ : I64 r) (_ : I64 most) : ∃ q1 q2, Evt (fun k => spec_MostWind.f k u s f r most = some (q1, q2)) ∧ Evt (fun k => impl_MostWind.f k u s f r most = some (q1, q2)) := by
 have w0 : areWinds 0 0 = true := rfl
 cases h : isShot u s f r with
 | false =>
  refine ⟨0, 1, ⟨9, fun k hk => ?_⟩, ⟨0, fun k hk => ?_⟩⟩
  ·show spec_MostWind.f k u s f r most = _
   obtain ⟨k, rfl⟩ : ∃ m, k = m + 4 := ⟨k - 4, by omega⟩
   unfold spec_MostWind.f
   rw [spec_code1 _ _ _ _ _ _ (k + 4) (by omega), h]; rfl
  ·show impl_MostWind.f k u s f r most = _
   unfold impl_MostWind.f
   rw [impl_shot, h]; rfl
 | true =>
  cases hm : inB most 0 100000000 with
  | false =>
   refine ⟨0, 2, ⟨9, fun k hk => ?_⟩, ⟨0, fun k hk => ?_⟩⟩
   ·show spec_MostWind.f k u s f r most = _
    obtain ⟨k, rfl⟩ : ∃ m, k = m + 4 := ⟨k - 4, by omega⟩
    unfold spec_MostWind.f
    rw [spec_code1 _ _ _ _ _ _ (k + 4) (by omega), h, w0, In_eq, hm]; rfl
   ·show impl_MostWind.f k u s f r most = _
    unfold impl_MostWind.f
    rw [impl_shot, h, Wi_eq, hm]; rfl
  | true =>
   have hm' := inB_true.1 hm
   have sp : ∀ k, spec_MostWind.f (k + 4) u s f r most = (spec_l06Within.f (k + 2) u s f r 0 most).bind fun t224 => (spec_MostWind.j2 (k + 2) most 0 (!t224) u s f r) := fun k => by
    unfold spec_MostWind.f
    rw [spec_code1 _ _ _ _ _ _ (k + 4) (by omega), h, w0, In_eq, hm]; rfl
   have im : ∀ k, impl_MostWind.f k u s f r most = impl_MostWind.l0 k most (-1) 50000 u s f r := fun k => by
    unfold impl_MostWind.f
    rw [impl_shot, h, Wi_eq, hm]; rfl
   by_cases c : okW u s f r most 0
   ·obtain ⟨w, _, hw⟩ := spec_loop h hm' 50001 300000 0 50001 (by omega) (by omega) (by omega) (by omega) c (.inl rfl) (by omega)
    refine ⟨w, 0, ⟨300004, fun k hk => ?_⟩, ⟨300004, fun k hk => ?_⟩⟩
    ·show spec_MostWind.f k u s f r most = _
     obtain ⟨k, rfl⟩ : ∃ m, k = m + 4 := ⟨k - 4, by omega⟩
     obtain ⟨w', e', hw'⟩ := spec_loop h hm' 50001 k 0 50001 (by omega) (by omega) (by omega) (by omega) c (.inl rfl) (by omega)
     have e := hw.unique h hw'
     subst e
     rw [sp, within_is h hm' (by omega) (k + 2) (by omega), decide_eq_true c]
     exact e'
    ·show impl_MostWind.f k u s f r most = _
     rw [im]
     rcases impl_loop h hm' 50001 k (-1) 50000 (by omega) (by omega) (by omega) (by omega) (.inl rfl) (.inl rfl) (by omega) with ⟨_, x⟩ | ⟨w', e', hw'⟩
     ·exact absurd c x
     ·have e := hw.unique h hw'
      subst e
      exact e'
   ·refine ⟨0, 4, ⟨300004, fun k hk => ?_⟩, ⟨300004, fun k hk => ?_⟩⟩
    ·show spec_MostWind.f k u s f r most = _
     obtain ⟨k, rfl⟩ : ∃ m, k = m + 4 := ⟨k - 4, by omega⟩
     rw [sp, within_is h hm' (by omega) (k + 2) (by omega), decide_eq_false c]
     rfl
    ·show impl_MostWind.f k u s f r most = _
     rw [im]
     rcases impl_loop h hm' 50001 k (-1) 50000 (by omega) (by omega) (by omega) (by omega) (.inl rfl) (.inl rfl) (by omega) with ⟨x, _⟩ | ⟨w', e', hw'⟩
     ·exact x
     ·exact absurd (okW_mono h (Int.le_refl 0) hw'.1 hw'.2.2.1) c
theorem pure_FnExactMostWind : Pure_FnExactMostWind := by
 intro a0_0 a0_1 a0_2 a0_3 a1 b0_0 b0_1 b0_2 b0_3 b1
 obtain ⟨q1, q2, sp, im⟩ := main_FnExactMostWind a0_0 a0_1 a0_2 a0_3 a1 b0_0 b0_1 b0_2 b0_3 b1
 obtain ⟨k, hsp, him⟩ := (sp.and im).ex
 exact ⟨k, ⟨q1, q2, { to0 := rfl, sp := hsp, im := him }⟩⟩
end Go.Proofs.Ytemkongfmceedaa.F
namespace Go.Proofs.Ytemkongfmceedaa.fnExactMostWind
open Go.ChangeShapes Go.WideShapes Go.ChangeAt Go.RowKit Go.Proofs.Ytemkongfmceedaa.F Go.Proofs.YtemkongfmceedaaW.PrintWords
open Go.ChangeMaps (open_string shut_string)
set_option linter.unusedVariables false
theorem own : ownKnob Try.prog.godebug = none := by kernel_rfl
theorem laidOut : laidOutB Try.prog = true := by kernel_rfl
set_option maxRecDepth 100000 in
theorem lifted (os : Os) (started : os.Started) (H : Type) (enc : TypeId × Value → H) :
  ReturnsInHanded {} Try.checked os 4 .any (Rows.fnExactMostWindSpec.pre6 enc Try.prog Try.f4 Rows.fnExactMostWindRow.domain false) (Rows.fnExactMostWindSpec.post enc Try.prog Try.f4 false true false false) := by
 refine returnsInHanded_of_change_sized (C := Try.checked) own started (by kernel_rfl) Try.func4
  (ChangeSpec.witness6 (enc := enc) (C := Try.checked) false ⟨#[], #[.agg #[.int .i64 0, .int .i64 0, .int .i64 0, .int .i64 0], .int .i64 0], []⟩ 8 (by kernel_rfl) (by kernel_rfl) (by kernel_rfl) (by kernel_rfl)) ?_
 intro W base args ds gs before hval0 hW hcnd hsz0 _
 have hval : ∀ (j : Nat) t v, Try.f4.params[j]? = some t → args[j]? = some v → Value.okWide Try.prog W .any base t v := hval0
 have hW' := hW
 obtain ⟨p, q, hA0, hV, rfl, hfz, hnd⟩ := hW
 have hA : DataW.TrodAll enc Try.prog W 0 (fun _ => true) true Try.f4.params.toList args.toList ds p := hA0
 rw [Try.params4] at hA hval
 obtain ⟨v0, vs0, d0, ds0, p0, q0, hargs, rfl, rfl, h0, r0⟩ := trodAll_cons hA
 obtain ⟨v1, vs1, d1, ds1, p1, q1, rfl, rfl, rfl, h1, r1⟩ := trodAll_cons r0
 obtain ⟨rfl, rfl, rfl⟩ := trodAll_nil r1
 obtain rfl : args = #[v0, v1] := by cases args; simp_all
 obtain ⟨rfl, rfl⟩ := trodVars_none hV
 have k0 := h0
 have lt0 : ∀ x ∈ p0, x.block < W.heap.size := by obtain ⟨m, hm⟩ := k0; exact DataW.trod_lt m _ _ _ hm
 obtain ⟨cs0, rfl, _⟩ := okWide_struct Try.underlying23 (hval 0 23 v0 rfl rfl)
 obtain ⟨a0_0, a0_1, a0_2, a0_3, rfl, w0_0, w0_1, w0_2, w0_3⟩ : ∃ (z0 : Int) (z1 : Int) (z2 : Int) (z3 : Int), cs0 = #[.int .i64 z0, .int .i64 z1, .int .i64 z2, .int .i64 z3] ∧ I64 z0 ∧ I64 z1 ∧ I64 z2 ∧ I64 z3 := by
  obtain ⟨fuel, hf⟩ := h0
  obtain ⟨z0, z1, z2, z3, hcs, hp⟩ := open_V23 hf
  simp only [Value.cells] at hcs
  exact ⟨z0, z1, z2, z3, by rw [← hcs], hp⟩
 obtain ⟨a1, rfl, rfl, rfl, w1⟩ := open_int Try.underlying2 (hval 1 2 v1 rfl rfl) h1
 obtain ⟨k, hk⟩ := pure_FnExactMostWind a0_0 a0_1 a0_2 a0_3 a1 w0_0 w0_1 w0_2 w0_3 (I64_of w1)
 refine (law_FnExactMostWind k a0_0 a0_1 a0_2 a0_3 a1 W  hk).mono fun e W' ⟨he, bel⟩ => ?_
 subst he
 exact ⟨_, rfl, _, _, _, [], _, [], hW', trodAll_mk1 (shut_bool Try.underlying4 _), (trodAll_cons_mk (Below.trod laidOut (by kernel_rfl) (of_decide_eq_true (by kernel_rfl)) k0 bel lt0) (trodAll_cons_mk (shut_int Try.underlying2 w1) trodAll_mk0)), rfl, bel.frame _, fun h => by cases h⟩
theorem over : Rows.fnExactMostWindRow.holds Try.pinned (OpenSpec.ofChange Rows.fnExactMostWindSpec) :=
 OpenClaim.holds_of_wide 4 Try.f4 rfl rfl rfl rfl rfl rfl rfl ⟨rfl, rfl, rfl, rfl, rfl⟩ rfl rfl rfl rfl rfl (by kernel_rfl) Try.func4 (by kernel_rfl)
  (of_decide_eq_true (by kernel_rfl)) (by unfold Func.isWrapper; first | (rw [if_pos (by decide +kernel)]; kernel_rfl) | (rw [if_neg (by decide +kernel)]; exact ⟨rfl, rfl⟩))
  (fun os started H enc _ => lifted os started H enc)
theorem proved : Rows.FnExactMostWindSaid := over
end Go.Proofs.Ytemkongfmceedaa.fnExactMostWind
namespace Go.Proofs.Ytemkongfmceedaa
theorem fnExactMostWind_holds : Rows.FnExactMostWindSaid := fnExactMostWind.proved
#print axioms fnExactMostWind_holds
end Go.Proofs.Ytemkongfmceedaa
