import Derived.Test.YtipgcjonidlloaaJFnExactNeededFuses4
import Derived.Below
import Derived.Deep.Draws
import Derived.Deep.AppendLies
import Derived.Maps.AppendAt
import Derived.OwnWalk
import Derived.Laws.BytesArg
import Derived.Laws.MakeOwn
import Derived.Laws.OwnMore
import Derived.Deep.OwnRows
import Derived.Tactics
import Derived.Lib.ConvBytes
import Derived.Laws.Slices
import Derived.WalkKit
import Derived.KernelRfl
import Derived.RowKit3
import Derived.Deep.LoopGhost
import Derived.Deep.QuietTactic
import Derived.BigQuiet
import Derived.WideLaws
import Derived.Deep.DeepCutAuto
import Derived.Deep.CutBlock
import Derived.Deep.RegionHeld3
import Derived.Laws.Rows
import Derived.Lib.AppendStr
import Derived.ArgAppend
import Derived.Laws.IdiomCopy
import Derived.RowKit
import Derived.OrdersHeld
import Derived.Laws.BitsLemmas
import Derived.Laws.StructEq
import Derived.Test.YtipgcjonidlloaaProg
import Derived.ChangeSlices
import Derived.OpenShut
import Derived.Test.YtipgcjonidlloaaRows
import Derived.ProofKit
import Derived.ShutString
import Derived.ChangeOld
import Derived.SizedLaws
namespace Go.Proofs.Ytipgcjonidlloaa.F
open Go.RowKit Go.Proofs.YtipgcjonidlloaaW.PrintWords Go.Proofs.YtipgcjonidlloaaW.PrintLast Go.Proofs.YtipgcjonidlloaaW.PrintMore
attribute [local go_sem] max2_int min2_int max_two min_two max_three min_three max_four min_four   -- for this text's walks alone
set_option linter.unusedVariables false
set_option linter.unusedSimpArgs false
mutual
def impl_AreFuses.j0 : Nat → Int → List (S44) → Bool → Option (Bool)
 | 0, _, _, _ => none
 | k + 1, x0, x1, x14 => if x14 = true then (some false) else (impl_AreFuses.l0 k x0 x1 (x1.length : Int) 0)
def impl_AreFuses.l0 : Nat → Int → List (S44) → Int → Int → Option (Bool)
 | 0, _, _, _, _ => none
 | k + 1, x0, x15, x16, x17 => if x17 < x16 then (if 0 ≤ x17 then (if x17 < (x15.length : Int) then ((impl_within.f ((rd_T44 x15 x17).f0) 0 (wrap64 (x0 - 1))).bind fun t215 => (if t215 = true then ((impl_within.f ((rd_T44 x15 x17).f1) (wrap64 (((rd_T44 x15 x17).f0) + 1)) (wrap64 (x0 - 1))).bind fun t216 => (if t216 = true then ((impl_within.f ((rd_T44 x15 x17).f2) 0 100000).bind fun t217 => (if t217 = true then ((impl_within.f ((rd_T44 x15 x17).f3) ((rd_T44 x15 x17).f2) 100000).bind fun t218 => (if t218 = true then (impl_AreFuses.l0 k x0 x15 x16 (wrap64 (x17 + 1))) else (some false))) else (some false))) else (some false))) else (some false))) else (none)) else (none)) else (some true)
end
def impl_AreFuses.f (k : Nat) (a0 : Int) (l1 : List (S44)) : Option (Bool) := (impl_within.f a0 1 10).bind fun t212 => (if t212 = true then (impl_AreFuses.j0 k a0 l1 (decide ((l1.length : Int) > 20))) else (impl_AreFuses.j0 k a0 l1 true))
theorem impl_AreFuses.mono_l : ∀ k, (∀ y0 y1 y2, LeO (impl_AreFuses.j0 k y0 y1 y2) (impl_AreFuses.j0 (k + 1) y0 y1 y2)) ∧ (∀ y0 y1 y2 y3, LeO (impl_AreFuses.l0 k y0 y1 y2 y3) (impl_AreFuses.l0 (k + 1) y0 y1 y2 y3))
 | 0 => ⟨fun _ _ _ r h => by simp [impl_AreFuses.j0] at h, fun _ _ _ _ r h => by simp [impl_AreFuses.l0] at h⟩
 | k + 1 => by
  obtain ⟨ih0, ih1⟩ := impl_AreFuses.mono_l k
  refine ⟨?_, ?_⟩
  ·intro y0 y1 y2
   unfold impl_AreFuses.j0
   repeat' first
   | (with_reducible exact ih0 _ _ _)
   | (with_reducible exact ih1 _ _ _ _)
   | (with_reducible exact LeO.refl _)
   | (with_reducible exact LeO.none _)
   | (with_reducible refine LeO.ite ?_ ?_)
   | (with_reducible refine LeO.bind ?_ (fun _ => ?_))
   | exact ih0 _ _ _
   | exact ih1 _ _ _ _
   | exact LeO.none _
   | refine LeO.ite ?_ ?_
   | refine LeO.bind ?_ (fun _ => ?_)
  ·intro y0 y1 y2 y3
   unfold impl_AreFuses.l0
   repeat' first
   | (with_reducible exact ih0 _ _ _)
   | (with_reducible exact ih1 _ _ _ _)
   | (with_reducible exact LeO.refl _)
   | (with_reducible exact LeO.none _)
   | (with_reducible refine LeO.ite ?_ ?_)
   | (with_reducible refine LeO.bind ?_ (fun _ => ?_))
   | exact ih0 _ _ _
   | exact ih1 _ _ _ _
   | exact LeO.none _
   | refine LeO.ite ?_ ?_
   | refine LeO.bind ?_ (fun _ => ?_)
theorem impl_AreFuses.mono : ∀ a0 a1 k, LeO (impl_AreFuses.f k a0 a1) (impl_AreFuses.f (k + 1) a0 a1) := by
 intro a0 a1 k
 obtain ⟨ih0, ih1⟩ := impl_AreFuses.mono_l k
 unfold impl_AreFuses.f
 repeat' first
   | (with_reducible exact ih0 _ _ _)
   | (with_reducible exact ih1 _ _ _ _)
   | (with_reducible exact LeO.refl _)
   | (with_reducible exact LeO.none _)
   | (with_reducible refine LeO.ite ?_ ?_)
   | (with_reducible refine LeO.bind ?_ (fun _ => ?_))
   | exact ih0 _ _ _
   | exact ih1 _ _ _ _
   | exact LeO.none _
   | refine LeO.ite ?_ ?_
   | refine LeO.bind ?_ (fun _ => ?_)
set_option maxHeartbeats 8000000 in
set_option maxRecDepth 100000 in
theorem impl_AreFuses.calls (k : Nat) (a0 : Int) (A1 : Option Addr) (c1 : Nat) (l1 : List (S44)) (r : Bool) (w : World) (hr1 : Kd.C k44 w A1 l1.length l1) (hc1 : l1.length ≤ c1) (h : impl_AreFuses.f k a0 l1 = some r) :
  Calls Try.prog 33 #[.int .i64 a0, .slice A1 l1.length c1] w fun e w' => e = .returned (.bool r) ∧ Below w.heap.size w w' := by
 have hu44 := Try.underlying44
 have HR1 := Aside0.mk hr1
 have HC1 := Aside0.mk hc1
 clear hr1 hc1
 have HB := Aside0.mk (Below.refl w.heap.size w)
 have H : ((impl_within.f a0 1 10).bind fun t212 => (if t212 = true then (impl_AreFuses.j0 k a0 l1 (decide ((l1.length : Int) > 20))) else (impl_AreFuses.j0 k a0 l1 true))) = some r := h
 clear h
 have HC3 := Aside0.mk H
 clear H
 go_enter Try.func33, Try.ntmps33
 go_upto_region 1 with (fail)
 go_cut [14] (fun v14 wc => ∃ (kq : Nat) (x14_2 : Bool), v14 = .bool x14_2 ∧ Aside0 (impl_AreFuses.j0 kq a0 l1 x14_2 = some r) ∧ Aside0 (kq ≤ k) ∧ Aside0 (Below w.heap.size w wc))
 case first =>
  have H := HC3.out
  clear HC3
  replace H := Option.bind_eq_some_iff.mp H
  obtain ⟨t212, A40, H⟩ := H
  replace H : (if t212 = true then (impl_AreFuses.j0 k a0 l1 (decide ((l1.length : Int) > 20))) else (impl_AreFuses.j0 k a0 l1 true)) = some r := H
  have A4 := Aside0.mk A40
  clear A40
  by_cases c5 : t212 = true
  ·subst c5
   have H1 : (impl_AreFuses.j0 k a0 l1 (decide ((l1.length : Int) > 20))) = some r := by rw [if_pos rfl] at H; exact H
   clear H
   have H := H1
   clear H1
   have H' := Aside0.mk H
   clear H
   go_wp2_with (first | ((with_reducible refine gate_callee (f := 39) rfl ?_); refine goesL_ (some 8) rfl rfl Try.func39 (by kernel_rfl) rfl #[.int .i64 a0, .int .i64 1, .int .i64 10] rfl (by (try simp only [List.map_toArray, List.map_cons, List.map_nil]); first | done | rfl | (simp only [List.length_drop, List.length_take]; rfl)) ?_; (with_reducible refine (impl_within.calls a0 1 10 true _ A4.out).mono ?_); rintro e w' ⟨rfl, ⟨nd, rfl⟩⟩; refine ⟨_, rfl, ?_⟩))
   go_meet
   case rel => exact ⟨_, (decide ((l1.length : Int) > 20)), (by first | rfl | (simp; done) | (simp [*]; done)), H', ⟨by first | omega | exact Nat.le_refl _⟩, ⟨by repeat (first | (with_reducible first | exact HB.out | apply below_alloc | apply pw_below_drewN | apply below_drew1) | exact HB.out)⟩⟩
  ·replace c5 := Bool.eq_false_iff.mpr c5
   subst c5
   have H1 : (impl_AreFuses.j0 k a0 l1 true) = some r := by rw [if_neg (show ¬ (false = true) by decide)] at H; exact H
   clear H
   have H := H1
   clear H1
   have H' := Aside0.mk H
   clear H
   go_wp2_with (first | ((with_reducible refine gate_callee (f := 39) rfl ?_); refine goesL_ (some 8) rfl rfl Try.func39 (by kernel_rfl) rfl #[.int .i64 a0, .int .i64 1, .int .i64 10] rfl (by (try simp only [List.map_toArray, List.map_cons, List.map_nil]); first | done | rfl | (simp only [List.length_drop, List.length_take]; rfl)) ?_; (with_reducible refine (impl_within.calls a0 1 10 false _ A4.out).mono ?_); rintro e w' ⟨rfl, ⟨nd, rfl⟩⟩; refine ⟨_, rfl, ?_⟩))
   go_meet
   case rel => exact ⟨_, (true), (by first | rfl | (simp; done) | (simp [*]; done)), H', ⟨by first | omega | exact Nat.le_refl _⟩, ⟨by repeat (first | (with_reducible first | exact HB.out | apply below_alloc | apply pw_below_drewN | apply below_drew1) | exact HB.out)⟩⟩
 case rest =>
  clear HC3
  try clear c1
  try clear p2
  try clear c3
  try clear c5
  obtain ⟨kq, x14_2, rfl, HA, HJ2, HB⟩ := hcut
  cases kq with
  | zero => exact absurd HA.out (by simp [impl_AreFuses.j0])
  | succ kj2 =>
   have H := HA.out
   clear HA
   simp only [impl_AreFuses.j0] at H
   by_cases c6 : x14_2 = true
   ·subst c6
    have H1 : (some false) = some r := by rw [if_pos rfl] at H; exact H
    clear H
    have H := H1
    clear H1
    obtain rfl := Option.some.inj H
    go_wp2
    go_ret
    exact ⟨by first | rfl | (simp [errW_none, errW_some] <;> rfl) | (simp [*, errW_none, errW_some] <;> rfl), by repeat (first | (with_reducible first | exact HB.out | apply below_alloc | apply pw_below_drewN | apply below_drew1) | exact HB.out)⟩
   ·replace c6 := Bool.eq_false_iff.mpr c6
    subst c6
    have H1 : (impl_AreFuses.l0 kj2 a0 l1 (l1.length : Int) 0) = some r := by rw [if_neg (show ¬ (false = true) by decide)] at H; exact H
    clear H
    have H := H1
    clear H1
    have H' := Aside0.mk H
    clear H
    go_wp2
    go_loopg [17] kj2 (fun kq v17 w' => ∃ (x17_2 : Int), v17 = .int .i64 x17_2 ∧ Aside0 (impl_AreFuses.l0 kq a0 l1 (l1.length : Int) x17_2 = some r) ∧ Aside0 (kq ≤ kj2) ∧ Aside0 (Below w.heap.size w w'))
    case atStart => exact ⟨(0), (by first | rfl | (simp; done) | (simp [*]; done)), H', ⟨Nat.le_refl _⟩, ⟨by repeat (first | (with_reducible first | exact HB.out | apply below_alloc | apply pw_below_drewN | apply below_drew1) | exact HB.out)⟩⟩
    case round =>
     clear H'
     try clear c1
     try clear p2
     try clear c3
     try clear c5
     try clear c6
     try clear p2
     obtain ⟨x17_2, rfl, HA, HK2, HB⟩ := hrel
     cases gk with
     | zero => exact absurd HA.out (by simp [impl_AreFuses.l0])
     | succ k2 =>
      have H := HA.out
      clear HA
      simp only [impl_AreFuses.l0] at H
      by_cases c7 : x17_2 < (l1.length : Int)
      ·rw [if_pos c7] at H
       have c7b0 : decide (x17_2 < (l1.length : Int)) = true := decide_eq_true c7
       clear c7
       by_cases c8 : 0 ≤ x17_2
       ·rw [if_pos c8] at H
        have c8b0 : decide (0 ≤ x17_2) = true := decide_eq_true c8
        clear c8
        by_cases c9 : x17_2 < (l1.length : Int)
        ·rw [if_pos c9] at H
         have c9b0 : decide (x17_2 < (l1.length : Int)) = true := decide_eq_true c9
         clear c9
         replace H := Option.bind_eq_some_iff.mp H
         obtain ⟨t215, A100, H⟩ := H
         replace H : (if t215 = true then ((impl_within.f ((rd_T44 l1 x17_2).f1) (wrap64 (((rd_T44 l1 x17_2).f0) + 1)) (wrap64 (a0 - 1))).bind fun t216 => (if t216 = true then ((impl_within.f ((rd_T44 l1 x17_2).f2) 0 100000).bind fun t217 => (if t217 = true then ((impl_within.f ((rd_T44 l1 x17_2).f3) ((rd_T44 l1 x17_2).f2) 100000).bind fun t218 => (if t218 = true then (impl_AreFuses.l0 k2 a0 l1 (l1.length : Int) (wrap64 (x17_2 + 1))) else (some false))) else (some false))) else (some false))) else (some false)) = some r := H
         have A10 := Aside0.mk A100
         clear A100
         by_cases c11 : t215 = true
         ·subst c11
          have H1 : ((impl_within.f ((rd_T44 l1 x17_2).f1) (wrap64 (((rd_T44 l1 x17_2).f0) + 1)) (wrap64 (a0 - 1))).bind fun t216 => (if t216 = true then ((impl_within.f ((rd_T44 l1 x17_2).f2) 0 100000).bind fun t217 => (if t217 = true then ((impl_within.f ((rd_T44 l1 x17_2).f3) ((rd_T44 l1 x17_2).f2) 100000).bind fun t218 => (if t218 = true then (impl_AreFuses.l0 k2 a0 l1 (l1.length : Int) (wrap64 (x17_2 + 1))) else (some false))) else (some false))) else (some false))) = some r := by rw [if_pos rfl] at H; exact H
          clear H
          have H := H1
          clear H1
          replace H := Option.bind_eq_some_iff.mp H
          obtain ⟨t216, A120, H⟩ := H
          replace H : (if t216 = true then ((impl_within.f ((rd_T44 l1 x17_2).f2) 0 100000).bind fun t217 => (if t217 = true then ((impl_within.f ((rd_T44 l1 x17_2).f3) ((rd_T44 l1 x17_2).f2) 100000).bind fun t218 => (if t218 = true then (impl_AreFuses.l0 k2 a0 l1 (l1.length : Int) (wrap64 (x17_2 + 1))) else (some false))) else (some false))) else (some false)) = some r := H
          have A12 := Aside0.mk A120
          clear A120
          by_cases c13 : t216 = true
          ·subst c13
           have H1 : ((impl_within.f ((rd_T44 l1 x17_2).f2) 0 100000).bind fun t217 => (if t217 = true then ((impl_within.f ((rd_T44 l1 x17_2).f3) ((rd_T44 l1 x17_2).f2) 100000).bind fun t218 => (if t218 = true then (impl_AreFuses.l0 k2 a0 l1 (l1.length : Int) (wrap64 (x17_2 + 1))) else (some false))) else (some false))) = some r := by rw [if_pos rfl] at H; exact H
           clear H
           have H := H1
           clear H1
           replace H := Option.bind_eq_some_iff.mp H
           obtain ⟨t217, A140, H⟩ := H
           replace H : (if t217 = true then ((impl_within.f ((rd_T44 l1 x17_2).f3) ((rd_T44 l1 x17_2).f2) 100000).bind fun t218 => (if t218 = true then (impl_AreFuses.l0 k2 a0 l1 (l1.length : Int) (wrap64 (x17_2 + 1))) else (some false))) else (some false)) = some r := H
           have A14 := Aside0.mk A140
           clear A140
           by_cases c15 : t217 = true
           ·subst c15
            have H1 : ((impl_within.f ((rd_T44 l1 x17_2).f3) ((rd_T44 l1 x17_2).f2) 100000).bind fun t218 => (if t218 = true then (impl_AreFuses.l0 k2 a0 l1 (l1.length : Int) (wrap64 (x17_2 + 1))) else (some false))) = some r := by rw [if_pos rfl] at H; exact H
            clear H
            have H := H1
            clear H1
            replace H := Option.bind_eq_some_iff.mp H
            obtain ⟨t218, A160, H⟩ := H
            replace H : (if t218 = true then (impl_AreFuses.l0 k2 a0 l1 (l1.length : Int) (wrap64 (x17_2 + 1))) else (some false)) = some r := H
            have A16 := Aside0.mk A160
            clear A160
            by_cases c17 : t218 = true
            ·subst c17
             have H1 : (impl_AreFuses.l0 k2 a0 l1 (l1.length : Int) (wrap64 (x17_2 + 1))) = some r := by rw [if_pos rfl] at H; exact H
             clear H
             have H := H1
             clear H1
             have H' := Aside0.mk H
             clear H
             have p213 : 0 ≤ (x17_2 : Int) := of_decide_eq_true (by first | (with_reducible assumption) | assumption)
             have q213 : x17_2 < (l1.length : Int) := of_decide_eq_true (by first | (with_reducible assumption) | assumption)
             obtain ⟨ad213, e213, hx213_0, hx213_1, hx213_2, hx213_3⟩ := at_T44 HR1.out x17_2 p213 q213
             cases e213
             replace hx213_0 := (HB.out.cell (World.block_lt_of_cell? w _ hx213_0)).trans hx213_0
             replace hx213_1 := (HB.out.cell (World.block_lt_of_cell? w _ hx213_1)).trans hx213_1
             replace hx213_2 := (HB.out.cell (World.block_lt_of_cell? w _ hx213_2)).trans hx213_2
             replace hx213_3 := (HB.out.cell (World.block_lt_of_cell? w _ hx213_3)).trans hx213_3
             replace p213 := eq_true p213
             replace q213 := eq_true q213
             go_wp2_with (first | ((with_reducible refine gate_dst (N := 6) rfl ?_); (try (refine gate_guard (by rfl) ?_; dsimp only)); refine box_event ?hg (N := 6) ?hd (cs := #[.int .i64 0, .int .i64 0, .int .i64 0, .int .i64 0]) (t := 44) ?hr ?_; (case hd => rfl); (case hg => rfl); (case hr => first | (go_simp; done) | (go_simp; rfl)); intro gb214 hg w18 hbox hb; have n0_ := Aside0.mk (below_step (by repeat (first | (with_reducible first | exact HB.out | apply below_alloc | apply pw_below_drewN | apply below_drew1) | exact HB.out)) hb); have n1_ := Aside0.mk (hbox); have n2_ := Aside0.mk ((by rw [hg]; exact (below_size (by repeat (first | (with_reducible first | exact HB.out | apply below_alloc | apply pw_below_drewN | apply below_drew1) | exact HB.out))) : w.heap.size ≤ gb214)); have n3_ := Aside0.mk ((by rw [hg]; exact (below_size (by repeat (first | (with_reducible first | exact HB.out | apply below_alloc | apply pw_below_drewN | apply below_drew1) | exact HB.out))) : w.heap.size ≤ gb214)); clear HB; have HB := n0_; have BK214 := n1_; have GW214 := n2_; have GE214 := n3_; clear n0_ n1_ n2_ n3_; clear hb hbox hg; have hcz19_0 : w18.cell? ⟨gb214, 0, none⟩ = some (.int .i64 0) := (blk_cell BK214.out 0).trans rfl; have hcz19_1 : w18.cell? ⟨gb214, 1, none⟩ = some (.int .i64 0) := (blk_cell BK214.out 1).trans rfl; have hcz19_2 : w18.cell? ⟨gb214, 2, none⟩ = some (.int .i64 0) := (blk_cell BK214.out 2).trans rfl; have hcz19_3 : w18.cell? ⟨gb214, 3, none⟩ = some (.int .i64 0) := (blk_cell BK214.out 3).trans rfl; have hfz19_0 := blk_frozen BK214.out 0; have hfz19_1 := blk_frozen BK214.out 1; have hfz19_2 := blk_frozen BK214.out 2; have hfz19_3 := blk_frozen BK214.out 3) | ((with_reducible refine gate_callee (f := 39) rfl ?_); refine goesL_ (some 25) rfl rfl Try.func39 (by kernel_rfl) rfl #[.int .i64 ((rd_T44 l1 x17_2).f0), .int .i64 0, .int .i64 (wrap64 (a0 - 1))] rfl (by (try simp only [List.map_toArray, List.map_cons, List.map_nil]); first | done | rfl | (simp only [List.length_drop, List.length_take]; rfl)) ?_; (with_reducible refine (impl_within.calls ((rd_T44 l1 x17_2).f0) 0 (wrap64 (a0 - 1)) true _ A10.out).mono ?_); rintro e w' ⟨rfl, ⟨nd, rfl⟩⟩; refine ⟨_, rfl, ?_⟩) | (go_at_call 39; (with_reducible refine (impl_within.calls ((rd_T44 l1 x17_2).f1) (wrap64 (((rd_T44 l1 x17_2).f0) + 1)) (wrap64 (a0 - 1)) true _ A12.out).mono ?_); rintro e w' ⟨rfl, ⟨nd, rfl⟩⟩) | (go_at_call 39; (with_reducible refine (impl_within.calls ((rd_T44 l1 x17_2).f2) 0 100000 true _ A14.out).mono ?_); rintro e w' ⟨rfl, ⟨nd, rfl⟩⟩) | (go_at_call 39; (with_reducible refine (impl_within.calls ((rd_T44 l1 x17_2).f3) ((rd_T44 l1 x17_2).f2) 100000 true _ A16.out).mono ?_); rintro e w' ⟨rfl, ⟨nd, rfl⟩⟩))
             go_roundg k2
             case measure => have := HJ2.out; have := HK2.out; omega
             case rel => exact ⟨(wrap64 (x17_2 + 1)), (by first | rfl | (simp; done) | (simp [*]; done)), H', ⟨by have := HJ2.out; have := HK2.out; omega⟩, ⟨by repeat (first | (with_reducible first | exact HB.out | apply below_alloc | apply pw_below_drewN | apply below_drew1 | refine below_set ?_ GE214.out) | exact HB.out)⟩⟩
            ·replace c17 := Bool.eq_false_iff.mpr c17
             subst c17
             have H1 : (some false) = some r := by rw [if_neg (show ¬ (false = true) by decide)] at H; exact H
             clear H
             have H := H1
             clear H1
             obtain rfl := Option.some.inj H
             have p213 : 0 ≤ (x17_2 : Int) := of_decide_eq_true (by first | (with_reducible assumption) | assumption)
             have q213 : x17_2 < (l1.length : Int) := of_decide_eq_true (by first | (with_reducible assumption) | assumption)
             obtain ⟨ad213, e213, hx213_0, hx213_1, hx213_2, hx213_3⟩ := at_T44 HR1.out x17_2 p213 q213
             cases e213
             replace hx213_0 := (HB.out.cell (World.block_lt_of_cell? w _ hx213_0)).trans hx213_0
             replace hx213_1 := (HB.out.cell (World.block_lt_of_cell? w _ hx213_1)).trans hx213_1
             replace hx213_2 := (HB.out.cell (World.block_lt_of_cell? w _ hx213_2)).trans hx213_2
             replace hx213_3 := (HB.out.cell (World.block_lt_of_cell? w _ hx213_3)).trans hx213_3
             replace p213 := eq_true p213
             replace q213 := eq_true q213
             go_wp2_with (first | ((with_reducible refine gate_dst (N := 6) rfl ?_); (try (refine gate_guard (by rfl) ?_; dsimp only)); refine box_event ?hg (N := 6) ?hd (cs := #[.int .i64 0, .int .i64 0, .int .i64 0, .int .i64 0]) (t := 44) ?hr ?_; (case hd => rfl); (case hg => rfl); (case hr => first | (go_simp; done) | (go_simp; rfl)); intro gb214 hg w20 hbox hb; have n0_ := Aside0.mk (below_step (by repeat (first | (with_reducible first | exact HB.out | apply below_alloc | apply pw_below_drewN | apply below_drew1) | exact HB.out)) hb); have n1_ := Aside0.mk (hbox); have n2_ := Aside0.mk ((by rw [hg]; exact (below_size (by repeat (first | (with_reducible first | exact HB.out | apply below_alloc | apply pw_below_drewN | apply below_drew1) | exact HB.out))) : w.heap.size ≤ gb214)); have n3_ := Aside0.mk ((by rw [hg]; exact (below_size (by repeat (first | (with_reducible first | exact HB.out | apply below_alloc | apply pw_below_drewN | apply below_drew1) | exact HB.out))) : w.heap.size ≤ gb214)); clear HB; have HB := n0_; have BK214 := n1_; have GW214 := n2_; have GE214 := n3_; clear n0_ n1_ n2_ n3_; clear hb hbox hg; have hcz21_0 : w20.cell? ⟨gb214, 0, none⟩ = some (.int .i64 0) := (blk_cell BK214.out 0).trans rfl; have hcz21_1 : w20.cell? ⟨gb214, 1, none⟩ = some (.int .i64 0) := (blk_cell BK214.out 1).trans rfl; have hcz21_2 : w20.cell? ⟨gb214, 2, none⟩ = some (.int .i64 0) := (blk_cell BK214.out 2).trans rfl; have hcz21_3 : w20.cell? ⟨gb214, 3, none⟩ = some (.int .i64 0) := (blk_cell BK214.out 3).trans rfl; have hfz21_0 := blk_frozen BK214.out 0; have hfz21_1 := blk_frozen BK214.out 1; have hfz21_2 := blk_frozen BK214.out 2; have hfz21_3 := blk_frozen BK214.out 3) | ((with_reducible refine gate_callee (f := 39) rfl ?_); refine goesL_ (some 25) rfl rfl Try.func39 (by kernel_rfl) rfl #[.int .i64 ((rd_T44 l1 x17_2).f0), .int .i64 0, .int .i64 (wrap64 (a0 - 1))] rfl (by (try simp only [List.map_toArray, List.map_cons, List.map_nil]); first | done | rfl | (simp only [List.length_drop, List.length_take]; rfl)) ?_; (with_reducible refine (impl_within.calls ((rd_T44 l1 x17_2).f0) 0 (wrap64 (a0 - 1)) true _ A10.out).mono ?_); rintro e w' ⟨rfl, ⟨nd, rfl⟩⟩; refine ⟨_, rfl, ?_⟩) | (go_at_call 39; (with_reducible refine (impl_within.calls ((rd_T44 l1 x17_2).f1) (wrap64 (((rd_T44 l1 x17_2).f0) + 1)) (wrap64 (a0 - 1)) true _ A12.out).mono ?_); rintro e w' ⟨rfl, ⟨nd, rfl⟩⟩) | (go_at_call 39; (with_reducible refine (impl_within.calls ((rd_T44 l1 x17_2).f2) 0 100000 true _ A14.out).mono ?_); rintro e w' ⟨rfl, ⟨nd, rfl⟩⟩) | (go_at_call 39; (with_reducible refine (impl_within.calls ((rd_T44 l1 x17_2).f3) ((rd_T44 l1 x17_2).f2) 100000 false _ A16.out).mono ?_); rintro e w' ⟨rfl, ⟨nd, rfl⟩⟩))
             go_ret
             exact ⟨by first | rfl | (simp [errW_none, errW_some] <;> rfl) | (simp [*, errW_none, errW_some] <;> rfl), by repeat (first | (with_reducible first | exact HB.out | apply below_alloc | apply pw_below_drewN | apply below_drew1 | refine below_set ?_ GE214.out) | exact HB.out)⟩
           ·replace c15 := Bool.eq_false_iff.mpr c15
            subst c15
            have H1 : (some false) = some r := by rw [if_neg (show ¬ (false = true) by decide)] at H; exact H
            clear H
            have H := H1
            clear H1
            obtain rfl := Option.some.inj H
            have p213 : 0 ≤ (x17_2 : Int) := of_decide_eq_true (by first | (with_reducible assumption) | assumption)
            have q213 : x17_2 < (l1.length : Int) := of_decide_eq_true (by first | (with_reducible assumption) | assumption)
            obtain ⟨ad213, e213, hx213_0, hx213_1, hx213_2, hx213_3⟩ := at_T44 HR1.out x17_2 p213 q213
            cases e213
            replace hx213_0 := (HB.out.cell (World.block_lt_of_cell? w _ hx213_0)).trans hx213_0
            replace hx213_1 := (HB.out.cell (World.block_lt_of_cell? w _ hx213_1)).trans hx213_1
            replace hx213_2 := (HB.out.cell (World.block_lt_of_cell? w _ hx213_2)).trans hx213_2
            replace hx213_3 := (HB.out.cell (World.block_lt_of_cell? w _ hx213_3)).trans hx213_3
            replace p213 := eq_true p213
            replace q213 := eq_true q213
            go_wp2_with (first | ((with_reducible refine gate_dst (N := 6) rfl ?_); (try (refine gate_guard (by rfl) ?_; dsimp only)); refine box_event ?hg (N := 6) ?hd (cs := #[.int .i64 0, .int .i64 0, .int .i64 0, .int .i64 0]) (t := 44) ?hr ?_; (case hd => rfl); (case hg => rfl); (case hr => first | (go_simp; done) | (go_simp; rfl)); intro gb214 hg w22 hbox hb; have n0_ := Aside0.mk (below_step (by repeat (first | (with_reducible first | exact HB.out | apply below_alloc | apply pw_below_drewN | apply below_drew1) | exact HB.out)) hb); have n1_ := Aside0.mk (hbox); have n2_ := Aside0.mk ((by rw [hg]; exact (below_size (by repeat (first | (with_reducible first | exact HB.out | apply below_alloc | apply pw_below_drewN | apply below_drew1) | exact HB.out))) : w.heap.size ≤ gb214)); have n3_ := Aside0.mk ((by rw [hg]; exact (below_size (by repeat (first | (with_reducible first | exact HB.out | apply below_alloc | apply pw_below_drewN | apply below_drew1) | exact HB.out))) : w.heap.size ≤ gb214)); clear HB; have HB := n0_; have BK214 := n1_; have GW214 := n2_; have GE214 := n3_; clear n0_ n1_ n2_ n3_; clear hb hbox hg; have hcz23_0 : w22.cell? ⟨gb214, 0, none⟩ = some (.int .i64 0) := (blk_cell BK214.out 0).trans rfl; have hcz23_1 : w22.cell? ⟨gb214, 1, none⟩ = some (.int .i64 0) := (blk_cell BK214.out 1).trans rfl; have hcz23_2 : w22.cell? ⟨gb214, 2, none⟩ = some (.int .i64 0) := (blk_cell BK214.out 2).trans rfl; have hcz23_3 : w22.cell? ⟨gb214, 3, none⟩ = some (.int .i64 0) := (blk_cell BK214.out 3).trans rfl; have hfz23_0 := blk_frozen BK214.out 0; have hfz23_1 := blk_frozen BK214.out 1; have hfz23_2 := blk_frozen BK214.out 2; have hfz23_3 := blk_frozen BK214.out 3) | ((with_reducible refine gate_callee (f := 39) rfl ?_); refine goesL_ (some 25) rfl rfl Try.func39 (by kernel_rfl) rfl #[.int .i64 ((rd_T44 l1 x17_2).f0), .int .i64 0, .int .i64 (wrap64 (a0 - 1))] rfl (by (try simp only [List.map_toArray, List.map_cons, List.map_nil]); first | done | rfl | (simp only [List.length_drop, List.length_take]; rfl)) ?_; (with_reducible refine (impl_within.calls ((rd_T44 l1 x17_2).f0) 0 (wrap64 (a0 - 1)) true _ A10.out).mono ?_); rintro e w' ⟨rfl, ⟨nd, rfl⟩⟩; refine ⟨_, rfl, ?_⟩) | (go_at_call 39; (with_reducible refine (impl_within.calls ((rd_T44 l1 x17_2).f1) (wrap64 (((rd_T44 l1 x17_2).f0) + 1)) (wrap64 (a0 - 1)) true _ A12.out).mono ?_); rintro e w' ⟨rfl, ⟨nd, rfl⟩⟩) | (go_at_call 39; (with_reducible refine (impl_within.calls ((rd_T44 l1 x17_2).f2) 0 100000 false _ A14.out).mono ?_); rintro e w' ⟨rfl, ⟨nd, rfl⟩⟩))
            go_ret
            exact ⟨by first | rfl | (simp [errW_none, errW_some] <;> rfl) | (simp [*, errW_none, errW_some] <;> rfl), by repeat (first | (with_reducible first | exact HB.out | apply below_alloc | apply pw_below_drewN | apply below_drew1 | refine below_set ?_ GE214.out) | exact HB.out)⟩
          ·replace c13 := Bool.eq_false_iff.mpr c13
           subst c13
           have H1 : (some false) = some r := by rw [if_neg (show ¬ (false = true) by decide)] at H; exact H
           clear H
           have H := H1
           clear H1
           obtain rfl := Option.some.inj H
           have p213 : 0 ≤ (x17_2 : Int) := of_decide_eq_true (by first | (with_reducible assumption) | assumption)
           have q213 : x17_2 < (l1.length : Int) := of_decide_eq_true (by first | (with_reducible assumption) | assumption)
           obtain ⟨ad213, e213, hx213_0, hx213_1, hx213_2, hx213_3⟩ := at_T44 HR1.out x17_2 p213 q213
           cases e213
           replace hx213_0 := (HB.out.cell (World.block_lt_of_cell? w _ hx213_0)).trans hx213_0
           replace hx213_1 := (HB.out.cell (World.block_lt_of_cell? w _ hx213_1)).trans hx213_1
           replace hx213_2 := (HB.out.cell (World.block_lt_of_cell? w _ hx213_2)).trans hx213_2
           replace hx213_3 := (HB.out.cell (World.block_lt_of_cell? w _ hx213_3)).trans hx213_3
           replace p213 := eq_true p213
           replace q213 := eq_true q213
           go_wp2_with (first | ((with_reducible refine gate_dst (N := 6) rfl ?_); (try (refine gate_guard (by rfl) ?_; dsimp only)); refine box_event ?hg (N := 6) ?hd (cs := #[.int .i64 0, .int .i64 0, .int .i64 0, .int .i64 0]) (t := 44) ?hr ?_; (case hd => rfl); (case hg => rfl); (case hr => first | (go_simp; done) | (go_simp; rfl)); intro gb214 hg w24 hbox hb; have n0_ := Aside0.mk (below_step (by repeat (first | (with_reducible first | exact HB.out | apply below_alloc | apply pw_below_drewN | apply below_drew1) | exact HB.out)) hb); have n1_ := Aside0.mk (hbox); have n2_ := Aside0.mk ((by rw [hg]; exact (below_size (by repeat (first | (with_reducible first | exact HB.out | apply below_alloc | apply pw_below_drewN | apply below_drew1) | exact HB.out))) : w.heap.size ≤ gb214)); have n3_ := Aside0.mk ((by rw [hg]; exact (below_size (by repeat (first | (with_reducible first | exact HB.out | apply below_alloc | apply pw_below_drewN | apply below_drew1) | exact HB.out))) : w.heap.size ≤ gb214)); clear HB; have HB := n0_; have BK214 := n1_; have GW214 := n2_; have GE214 := n3_; clear n0_ n1_ n2_ n3_; clear hb hbox hg; have hcz25_0 : w24.cell? ⟨gb214, 0, none⟩ = some (.int .i64 0) := (blk_cell BK214.out 0).trans rfl; have hcz25_1 : w24.cell? ⟨gb214, 1, none⟩ = some (.int .i64 0) := (blk_cell BK214.out 1).trans rfl; have hcz25_2 : w24.cell? ⟨gb214, 2, none⟩ = some (.int .i64 0) := (blk_cell BK214.out 2).trans rfl; have hcz25_3 : w24.cell? ⟨gb214, 3, none⟩ = some (.int .i64 0) := (blk_cell BK214.out 3).trans rfl; have hfz25_0 := blk_frozen BK214.out 0; have hfz25_1 := blk_frozen BK214.out 1; have hfz25_2 := blk_frozen BK214.out 2; have hfz25_3 := blk_frozen BK214.out 3) | ((with_reducible refine gate_callee (f := 39) rfl ?_); refine goesL_ (some 25) rfl rfl Try.func39 (by kernel_rfl) rfl #[.int .i64 ((rd_T44 l1 x17_2).f0), .int .i64 0, .int .i64 (wrap64 (a0 - 1))] rfl (by (try simp only [List.map_toArray, List.map_cons, List.map_nil]); first | done | rfl | (simp only [List.length_drop, List.length_take]; rfl)) ?_; (with_reducible refine (impl_within.calls ((rd_T44 l1 x17_2).f0) 0 (wrap64 (a0 - 1)) true _ A10.out).mono ?_); rintro e w' ⟨rfl, ⟨nd, rfl⟩⟩; refine ⟨_, rfl, ?_⟩) | (go_at_call 39; (with_reducible refine (impl_within.calls ((rd_T44 l1 x17_2).f1) (wrap64 (((rd_T44 l1 x17_2).f0) + 1)) (wrap64 (a0 - 1)) false _ A12.out).mono ?_); rintro e w' ⟨rfl, ⟨nd, rfl⟩⟩))
           go_ret
           exact ⟨by first | rfl | (simp [errW_none, errW_some] <;> rfl) | (simp [*, errW_none, errW_some] <;> rfl), by repeat (first | (with_reducible first | exact HB.out | apply below_alloc | apply pw_below_drewN | apply below_drew1 | refine below_set ?_ GE214.out) | exact HB.out)⟩
         ·replace c11 := Bool.eq_false_iff.mpr c11
          subst c11
          have H1 : (some false) = some r := by rw [if_neg (show ¬ (false = true) by decide)] at H; exact H
          clear H
          have H := H1
          clear H1
          obtain rfl := Option.some.inj H
          have p213 : 0 ≤ (x17_2 : Int) := of_decide_eq_true (by first | (with_reducible assumption) | assumption)
          have q213 : x17_2 < (l1.length : Int) := of_decide_eq_true (by first | (with_reducible assumption) | assumption)
          obtain ⟨ad213, e213, hx213_0, hx213_1, hx213_2, hx213_3⟩ := at_T44 HR1.out x17_2 p213 q213
          cases e213
          replace hx213_0 := (HB.out.cell (World.block_lt_of_cell? w _ hx213_0)).trans hx213_0
          replace hx213_1 := (HB.out.cell (World.block_lt_of_cell? w _ hx213_1)).trans hx213_1
          replace hx213_2 := (HB.out.cell (World.block_lt_of_cell? w _ hx213_2)).trans hx213_2
          replace hx213_3 := (HB.out.cell (World.block_lt_of_cell? w _ hx213_3)).trans hx213_3
          replace p213 := eq_true p213
          replace q213 := eq_true q213
          go_wp2_with (first | ((with_reducible refine gate_dst (N := 6) rfl ?_); (try (refine gate_guard (by rfl) ?_; dsimp only)); refine box_event ?hg (N := 6) ?hd (cs := #[.int .i64 0, .int .i64 0, .int .i64 0, .int .i64 0]) (t := 44) ?hr ?_; (case hd => rfl); (case hg => rfl); (case hr => first | (go_simp; done) | (go_simp; rfl)); intro gb214 hg w26 hbox hb; have n0_ := Aside0.mk (below_step (by repeat (first | (with_reducible first | exact HB.out | apply below_alloc | apply pw_below_drewN | apply below_drew1) | exact HB.out)) hb); have n1_ := Aside0.mk (hbox); have n2_ := Aside0.mk ((by rw [hg]; exact (below_size (by repeat (first | (with_reducible first | exact HB.out | apply below_alloc | apply pw_below_drewN | apply below_drew1) | exact HB.out))) : w.heap.size ≤ gb214)); have n3_ := Aside0.mk ((by rw [hg]; exact (below_size (by repeat (first | (with_reducible first | exact HB.out | apply below_alloc | apply pw_below_drewN | apply below_drew1) | exact HB.out))) : w.heap.size ≤ gb214)); clear HB; have HB := n0_; have BK214 := n1_; have GW214 := n2_; have GE214 := n3_; clear n0_ n1_ n2_ n3_; clear hb hbox hg; have hcz27_0 : w26.cell? ⟨gb214, 0, none⟩ = some (.int .i64 0) := (blk_cell BK214.out 0).trans rfl; have hcz27_1 : w26.cell? ⟨gb214, 1, none⟩ = some (.int .i64 0) := (blk_cell BK214.out 1).trans rfl; have hcz27_2 : w26.cell? ⟨gb214, 2, none⟩ = some (.int .i64 0) := (blk_cell BK214.out 2).trans rfl; have hcz27_3 : w26.cell? ⟨gb214, 3, none⟩ = some (.int .i64 0) := (blk_cell BK214.out 3).trans rfl; have hfz27_0 := blk_frozen BK214.out 0; have hfz27_1 := blk_frozen BK214.out 1; have hfz27_2 := blk_frozen BK214.out 2; have hfz27_3 := blk_frozen BK214.out 3) | ((with_reducible refine gate_callee (f := 39) rfl ?_); refine goesL_ (some 25) rfl rfl Try.func39 (by kernel_rfl) rfl #[.int .i64 ((rd_T44 l1 x17_2).f0), .int .i64 0, .int .i64 (wrap64 (a0 - 1))] rfl (by (try simp only [List.map_toArray, List.map_cons, List.map_nil]); first | done | rfl | (simp only [List.length_drop, List.length_take]; rfl)) ?_; (with_reducible refine (impl_within.calls ((rd_T44 l1 x17_2).f0) 0 (wrap64 (a0 - 1)) false _ A10.out).mono ?_); rintro e w' ⟨rfl, ⟨nd, rfl⟩⟩; refine ⟨_, rfl, ?_⟩))
          go_ret
          exact ⟨by first | rfl | (simp [errW_none, errW_some] <;> rfl) | (simp [*, errW_none, errW_some] <;> rfl), by repeat (first | (with_reducible first | exact HB.out | apply below_alloc | apply pw_below_drewN | apply below_drew1 | refine below_set ?_ GE214.out) | exact HB.out)⟩
        ·rw [if_neg c9] at H
         exact absurd H (by simp)
       ·rw [if_neg c8] at H
        exact absurd H (by simp)
      ·rw [if_neg c7] at H
       have c7b0 : decide (x17_2 < (l1.length : Int)) = false := decide_eq_false c7
       clear c7
       obtain rfl := Option.some.inj H
       go_wp2
       go_ret
       exact ⟨by first | rfl | (simp [errW_none, errW_some] <;> rfl) | (simp [*, errW_none, errW_some] <;> rfl), by repeat (first | (with_reducible first | exact HB.out | apply below_alloc | apply pw_below_drewN | apply below_drew1) | exact HB.out)⟩
end Go.Proofs.Ytipgcjonidlloaa.F
namespace Go.Proofs.Ytipgcjonidlloaa.F
open Go.RowKit Go.Proofs.YtipgcjonidlloaaW.PrintWords Go.Proofs.YtipgcjonidlloaaW.PrintLast Go.Proofs.YtipgcjonidlloaaW.PrintMore
attribute [local go_sem] max2_int min2_int max_two min_two max_three min_three max_four min_four   -- for this text's walks alone
set_option linter.unusedVariables false
set_option linter.unusedSimpArgs false
mutual
def impl_nodeAsked.l0 : Nat → Int → List (S44) → List Int → List Int → Int → Int → Option (Int)
 | 0, _, _, _, _, _, _ => none
 | k + 1, x0, x1, x2, x17, x18, x19 => if x19 < x18 then (if 0 ≤ x19 then (if x19 < (x17.length : Int) then ((impl_within.f (rd x17 x19) 0 (wrap64 (x0 - 1))).bind fun t221 => (if t221 = true then (impl_nodeAsked.l0 k x0 x1 x2 x17 x18 (wrap64 (x19 + 1))) else (some 2))) else (none)) else (none)) else ((impl_litTimes.f k x0 x1).bind fun bt222 => (impl_nodeAsked.l1 k bt222.1 x2 (x2.length : Int) 0))
def impl_nodeAsked.l1 : Nat → List Int → List Int → Int → Int → Option (Int)
 | 0, _, _, _, _ => none
 | k + 1, x9, x35, x36, x37 => if x37 < x36 then (if 0 ≤ x37 then (if x37 < (x35.length : Int) then (if 0 ≤ (rd x35 x37) then (if (rd x35 x37) < (x9.length : Int) then (if (rd x9 (rd x35 x37)) < 0 then (some 4) else (impl_nodeAsked.l1 k x9 x35 x36 (wrap64 (x37 + 1)))) else (none)) else (none)) else (none)) else (none)) else (some 0)
end
def impl_nodeAsked.f (k : Nat) (a0 : Int) (l1 : List (S44)) (l2 : List Int) : Option (Int) := (impl_AreFuses.f k a0 l1).bind fun t219 => (if t219 = true then (impl_nodeAsked.l0 k a0 l1 l2 l2 (l2.length : Int) 0) else (some 1))
theorem impl_nodeAsked.mono_l : ∀ k, (∀ y0 y1 y2 y3 y4 y5, LeO (impl_nodeAsked.l0 k y0 y1 y2 y3 y4 y5) (impl_nodeAsked.l0 (k + 1) y0 y1 y2 y3 y4 y5)) ∧ (∀ y0 y1 y2 y3, LeO (impl_nodeAsked.l1 k y0 y1 y2 y3) (impl_nodeAsked.l1 (k + 1) y0 y1 y2 y3))
 | 0 => ⟨fun _ _ _ _ _ _ r h => by simp [impl_nodeAsked.l0] at h, fun _ _ _ _ r h => by simp [impl_nodeAsked.l1] at h⟩
 | k + 1 => by
  obtain ⟨ih0, ih1⟩ := impl_nodeAsked.mono_l k
  refine ⟨?_, ?_⟩
  ·intro y0 y1 y2 y3 y4 y5
   unfold impl_nodeAsked.l0
   repeat' first
   | (with_reducible exact ih0 _ _ _ _ _ _)
   | (with_reducible exact ih1 _ _ _ _)
   | (with_reducible exact impl_AreFuses.mono _ _ _)
   | (with_reducible exact impl_litTimes.mono _ _ _)
   | (with_reducible exact LeO.refl _)
   | (with_reducible exact LeO.none _)
   | (with_reducible refine LeO.ite ?_ ?_)
   | (with_reducible refine LeO.bind ?_ (fun _ => ?_))
   | exact ih0 _ _ _ _ _ _
   | exact ih1 _ _ _ _
   | exact impl_AreFuses.mono _ _ _
   | exact impl_litTimes.mono _ _ _
   | exact LeO.none _
   | refine LeO.ite ?_ ?_
   | refine LeO.bind ?_ (fun _ => ?_)
  ·intro y0 y1 y2 y3
   unfold impl_nodeAsked.l1
   repeat' first
   | (with_reducible exact ih0 _ _ _ _ _ _)
   | (with_reducible exact ih1 _ _ _ _)
   | (with_reducible exact impl_AreFuses.mono _ _ _)
   | (with_reducible exact impl_litTimes.mono _ _ _)
   | (with_reducible exact LeO.refl _)
   | (with_reducible exact LeO.none _)
   | (with_reducible refine LeO.ite ?_ ?_)
   | (with_reducible refine LeO.bind ?_ (fun _ => ?_))
   | exact ih0 _ _ _ _ _ _
   | exact ih1 _ _ _ _
   | exact impl_AreFuses.mono _ _ _
   | exact impl_litTimes.mono _ _ _
   | exact LeO.none _
   | refine LeO.ite ?_ ?_
   | refine LeO.bind ?_ (fun _ => ?_)
theorem impl_nodeAsked.mono : ∀ a0 a1 a2 k, LeO (impl_nodeAsked.f k a0 a1 a2) (impl_nodeAsked.f (k + 1) a0 a1 a2) := by
 intro a0 a1 a2 k
 obtain ⟨ih0, ih1⟩ := impl_nodeAsked.mono_l k
 unfold impl_nodeAsked.f
 repeat' first
   | (with_reducible exact ih0 _ _ _ _ _ _)
   | (with_reducible exact ih1 _ _ _ _)
   | (with_reducible exact impl_AreFuses.mono _ _ _)
   | (with_reducible exact impl_litTimes.mono _ _ _)
   | (with_reducible exact LeO.refl _)
   | (with_reducible exact LeO.none _)
   | (with_reducible refine LeO.ite ?_ ?_)
   | (with_reducible refine LeO.bind ?_ (fun _ => ?_))
   | exact ih0 _ _ _ _ _ _
   | exact ih1 _ _ _ _
   | exact impl_AreFuses.mono _ _ _
   | exact impl_litTimes.mono _ _ _
   | exact LeO.none _
   | refine LeO.ite ?_ ?_
   | refine LeO.bind ?_ (fun _ => ?_)
set_option maxHeartbeats 8000000 in
set_option maxRecDepth 100000 in
theorem impl_nodeAsked.calls (k : Nat) (a0 : Int) (A1 : Option Addr) (c1 : Nat) (l1 : List (S44)) (A2 : Option Addr) (c2 : Nat) (l2 : List Int) (r : Int) (w : World) (hr1 : Kd.C k44 w A1 l1.length l1) (hc1 : l1.length ≤ c1) (hr2 : Kd.C (Kd.int .i64) w A2 l2.length l2) (hc2 : l2.length ≤ c2) (h : impl_nodeAsked.f k a0 l1 l2 = some r) :
  Calls Try.prog 30 #[.int .i64 a0, .slice A1 l1.length c1, .slice A2 l2.length c2] w fun e w' => e = .returned (.int .i64 r) ∧ Below w.heap.size w w' := by
 have HR1 := Aside0.mk hr1
 have HC1 := Aside0.mk hc1
 clear hr1 hc1
 have HR2 := Aside0.mk hr2
 have HC2 := Aside0.mk hc2
 clear hr2 hc2
 have HB := Aside0.mk (Below.refl w.heap.size w)
 have H : ((impl_AreFuses.f k a0 l1).bind fun t219 => (if t219 = true then (impl_nodeAsked.l0 k a0 l1 l2 l2 (l2.length : Int) 0) else (some 1))) = some r := h
 clear h
 replace H := Option.bind_eq_some_iff.mp H
 obtain ⟨t219, A40, H⟩ := H
 replace H : (if t219 = true then (impl_nodeAsked.l0 k a0 l1 l2 l2 (l2.length : Int) 0) else (some 1)) = some r := H
 have A4 := Aside0.mk A40
 clear A40
 by_cases c5 : t219 = true
 ·subst c5
  have H1 : (impl_nodeAsked.l0 k a0 l1 l2 l2 (l2.length : Int) 0) = some r := by rw [if_pos rfl] at H; exact H
  clear H
  have H := H1
  clear H1
  have H' := Aside0.mk H
  clear H
  go_enter Try.func30, Try.ntmps30
  go_wp2_with (first | ((with_reducible refine gate_callee (f := 33) rfl ?_); refine goesL_ (some 15) rfl rfl Try.func33 (by kernel_rfl) rfl #[.int .i64 a0, .slice A1 l1.length c1] rfl (by (try simp only [List.map_toArray, List.map_cons, List.map_nil]); first | done | rfl | (simp only [List.length_drop, List.length_take]; rfl)) ?_; (with_reducible refine (impl_AreFuses.calls k a0 _ _ l1 true _ ?side1 ?side2 A4.out).mono ?_); (case side1 => repeat (first | exact HR1.out | (with_reducible refine Kd.C_alloc ?_ _) | (with_reducible refine Kd.C_drewN ?_ _) | (with_reducible refine Kd.C_drew ?_))); (case side2 => exact HC1.out); rintro e w6 ⟨rfl, hb⟩; refine ⟨_, rfl, ?_⟩; have n0_ := Aside0.mk (below_step (by repeat (first | (with_reducible first | exact HB.out | apply below_alloc | apply pw_below_drewN | apply below_drew1) | exact HB.out)) hb); clear HB; have HB := n0_; clear n0_; (try clear hb); (try clear hb2); (try clear hk); (try clear hi)))
  go_loopg [19] k (fun kq v19 w' => ∃ (x19_1 : Int), v19 = .int .i64 x19_1 ∧ Aside0 (impl_nodeAsked.l0 kq a0 l1 l2 l2 (l2.length : Int) x19_1 = some r) ∧ Aside0 (kq ≤ k) ∧ Aside0 (Below w.heap.size w w'))
  case atStart => exact ⟨(0), (by first | rfl | (simp; done) | (simp [*]; done)), H', ⟨Nat.le_refl _⟩, ⟨by repeat (first | (with_reducible first | exact HB.out | apply below_alloc | apply pw_below_drewN | apply below_drew1) | exact HB.out)⟩⟩
  case round =>
   clear H'
   try clear c1
   try clear c2
   try clear p2
   try clear c3
   try clear c5
   obtain ⟨x19_1, rfl, HA, HK1, HB⟩ := hrel
   cases gk with
   | zero => exact absurd HA.out (by simp [impl_nodeAsked.l0])
   | succ k1 =>
    have H := HA.out
    clear HA
    simp only [impl_nodeAsked.l0] at H
    by_cases c7 : x19_1 < (l2.length : Int)
    ·rw [if_pos c7] at H
     have c7b0 : decide (x19_1 < (l2.length : Int)) = true := decide_eq_true c7
     clear c7
     by_cases c8 : 0 ≤ x19_1
     ·rw [if_pos c8] at H
      have c8b0 : decide (0 ≤ x19_1) = true := decide_eq_true c8
      clear c8
      by_cases c9 : x19_1 < (l2.length : Int)
      ·rw [if_pos c9] at H
       have c9b0 : decide (x19_1 < (l2.length : Int)) = true := decide_eq_true c9
       clear c9
       replace H := Option.bind_eq_some_iff.mp H
       obtain ⟨t221, A100, H⟩ := H
       replace H : (if t221 = true then (impl_nodeAsked.l0 k1 a0 l1 l2 l2 (l2.length : Int) (wrap64 (x19_1 + 1))) else (some 2)) = some r := H
       have A10 := Aside0.mk A100
       clear A100
       by_cases c11 : t221 = true
       ·subst c11
        have H1 : (impl_nodeAsked.l0 k1 a0 l1 l2 l2 (l2.length : Int) (wrap64 (x19_1 + 1))) = some r := by rw [if_pos rfl] at H; exact H
        clear H
        have H := H1
        clear H1
        have H' := Aside0.mk H
        clear H
        have p220 : 0 ≤ (x19_1 : Int) := of_decide_eq_true (by first | (with_reducible assumption) | assumption)
        have q220 : x19_1 < (l2.length : Int) := of_decide_eq_true (by first | (with_reducible assumption) | assumption)
        obtain ⟨ad220, e220, hx220_0⟩ := Kd.at_int HR2.out x19_1 p220 q220
        cases e220
        replace hx220_0 := (HB.out.cell (World.block_lt_of_cell? w _ hx220_0)).trans hx220_0
        replace p220 := eq_true p220
        replace q220 := eq_true q220
        go_wp2_with (first | ((with_reducible refine gate_callee (f := 39) rfl ?_); refine goesL_ (some 26) rfl rfl Try.func39 (by kernel_rfl) rfl #[.int .i64 (rd l2 x19_1), .int .i64 0, .int .i64 (wrap64 (a0 - 1))] rfl (by (try simp only [List.map_toArray, List.map_cons, List.map_nil]); first | done | rfl | (simp only [List.length_drop, List.length_take]; rfl)) ?_; (with_reducible refine (impl_within.calls (rd l2 x19_1) 0 (wrap64 (a0 - 1)) true _ A10.out).mono ?_); rintro e w' ⟨rfl, ⟨nd, rfl⟩⟩; refine ⟨_, rfl, ?_⟩))
        go_roundg k1
        case measure => have := HK1.out; omega
        case rel => exact ⟨(wrap64 (x19_1 + 1)), (by first | rfl | (simp; done) | (simp [*]; done)), H', ⟨by have := HK1.out; omega⟩, ⟨by repeat (first | (with_reducible first | exact HB.out | apply below_alloc | apply pw_below_drewN | apply below_drew1) | exact HB.out)⟩⟩
       ·replace c11 := Bool.eq_false_iff.mpr c11
        subst c11
        have H1 : (some 2) = some r := by rw [if_neg (show ¬ (false = true) by decide)] at H; exact H
        clear H
        have H := H1
        clear H1
        obtain rfl := Option.some.inj H
        have p220 : 0 ≤ (x19_1 : Int) := of_decide_eq_true (by first | (with_reducible assumption) | assumption)
        have q220 : x19_1 < (l2.length : Int) := of_decide_eq_true (by first | (with_reducible assumption) | assumption)
        obtain ⟨ad220, e220, hx220_0⟩ := Kd.at_int HR2.out x19_1 p220 q220
        cases e220
        replace hx220_0 := (HB.out.cell (World.block_lt_of_cell? w _ hx220_0)).trans hx220_0
        replace p220 := eq_true p220
        replace q220 := eq_true q220
        go_wp2_with (first | ((with_reducible refine gate_callee (f := 39) rfl ?_); refine goesL_ (some 26) rfl rfl Try.func39 (by kernel_rfl) rfl #[.int .i64 (rd l2 x19_1), .int .i64 0, .int .i64 (wrap64 (a0 - 1))] rfl (by (try simp only [List.map_toArray, List.map_cons, List.map_nil]); first | done | rfl | (simp only [List.length_drop, List.length_take]; rfl)) ?_; (with_reducible refine (impl_within.calls (rd l2 x19_1) 0 (wrap64 (a0 - 1)) false _ A10.out).mono ?_); rintro e w' ⟨rfl, ⟨nd, rfl⟩⟩; refine ⟨_, rfl, ?_⟩))
        go_ret
        exact ⟨by first | rfl | (simp [errW_none, errW_some] <;> rfl) | (simp [*, errW_none, errW_some] <;> rfl), by repeat (first | (with_reducible first | exact HB.out | apply below_alloc | apply pw_below_drewN | apply below_drew1) | exact HB.out)⟩
      ·rw [if_neg c9] at H
       exact absurd H (by simp)
     ·rw [if_neg c8] at H
      exact absurd H (by simp)
    ·rw [if_neg c7] at H
     have c7b0 : decide (x19_1 < (l2.length : Int)) = false := decide_eq_false c7
     clear c7
     replace H := Option.bind_eq_some_iff.mp H
     obtain ⟨⟨t222, t223⟩, A120, H⟩ := H
     replace H : (impl_nodeAsked.l1 k1 t222 l2 (l2.length : Int) 0) = some r := H
     have A12 := Aside0.mk A120
     clear A120
     have H' := Aside0.mk H
     clear H
     go_wp2_with (first | ((with_reducible refine gate_callee (f := 31) rfl ?_); refine goesL_ (some 32) rfl rfl Try.func31 (by kernel_rfl) rfl #[.int .i64 a0, .slice A1 l1.length c1] rfl (by (try simp only [List.map_toArray, List.map_cons, List.map_nil]); first | done | rfl | (simp only [List.length_drop, List.length_take]; rfl)) ?_; (with_reducible refine (impl_litTimes.calls k1 a0 _ _ l1 t222 t223 _ ?side1 ?side2 A12.out).mono ?_); (case side1 => repeat (first | exact (Kd.C_below HR1.out HB.out) | (with_reducible refine Kd.C_alloc ?_ _) | (with_reducible refine Kd.C_drewN ?_ _) | (with_reducible refine Kd.C_drew ?_))); (case side2 => exact HC1.out); rintro e w13 ⟨v224, v226, rfl, ho0, ho1, hb⟩; refine ⟨_, rfl, ?_⟩; have n0_ := Aside0.mk (Kd.R_lower ho0 (below_size (by repeat (first | (with_reducible first | exact HB.out | apply below_alloc | apply pw_below_drewN | apply below_drew1) | exact HB.out)))); have n1_ := Aside0.mk (Kd.R_lower ho1 (below_size (by repeat (first | (with_reducible first | exact HB.out | apply below_alloc | apply pw_below_drewN | apply below_drew1) | exact HB.out)))); have n2_ := Aside0.mk (below_step (by repeat (first | (with_reducible first | exact HB.out | apply below_alloc | apply pw_below_drewN | apply below_drew1) | exact HB.out)) hb); clear HB; have HO225 := n0_; have HO227 := n1_; have HB := n2_; clear n0_ n1_ n2_; (try clear hb); (try clear hb2); (try clear hk); (try clear hi); (try clear ho0); (try clear ho1)))
     go_loopg [37] k1 (fun kq v37 w' => ∃ (x37_2 : Int), v37 = .int .i64 x37_2 ∧ Aside0 (impl_nodeAsked.l1 kq t222 l2 (l2.length : Int) x37_2 = some r) ∧ Aside0 (kq ≤ k1) ∧ Aside0 (Kd.R (Kd.int .i64) 2 w' w.heap.size (fun _ => True) v224 t222) ∧ Aside0 (Below w.heap.size w w'))
     case atStart => exact ⟨(0), (by first | rfl | (simp; done) | (simp [*]; done)), H', ⟨Nat.le_refl _⟩, ⟨by (with_reducible repeat (first | apply Kd.R_alloc | apply Kd.R_drewN | apply Kd.R_drew)); exact Kd.R_mono HO225.out (fun _ hk => trivial)⟩, ⟨by repeat (first | (with_reducible first | exact HB.out | apply below_alloc | apply pw_below_drewN | apply below_drew1) | exact HB.out)⟩⟩
     case round =>
      clear H'
      try clear c1
      try clear c2
      try clear p2
      try clear q2
      try clear hx2
      try clear c3
      try clear c5
      try clear p6
      try clear c7
      try clear c7b0
      try clear c8
      try clear c8b0
      try clear c9
      try clear c9b0
      try clear c11
      try clear hx220_0
      try clear p2
      try clear p220
      try clear q220
      obtain ⟨x37_2, rfl, HA, HK2, HO_9, HB⟩ := hrel
      cases gk with
      | zero => exact absurd HA.out (by simp [impl_nodeAsked.l1])
      | succ k2 =>
       have H := HA.out
       clear HA
       simp only [impl_nodeAsked.l1] at H
       by_cases c14 : x37_2 < (l2.length : Int)
       ·rw [if_pos c14] at H
        have c14b0 : decide (x37_2 < (l2.length : Int)) = true := decide_eq_true c14
        clear c14
        by_cases c15 : 0 ≤ x37_2
        ·rw [if_pos c15] at H
         have c15b0 : decide (0 ≤ x37_2) = true := decide_eq_true c15
         clear c15
         by_cases c16 : x37_2 < (l2.length : Int)
         ·rw [if_pos c16] at H
          have c16b0 : decide (x37_2 < (l2.length : Int)) = true := decide_eq_true c16
          clear c16
          by_cases c17 : 0 ≤ (rd l2 x37_2)
          ·rw [if_pos c17] at H
           have c17b0 : decide (0 ≤ (rd l2 x37_2)) = true := decide_eq_true c17
           clear c17
           by_cases c18 : (rd l2 x37_2) < (t222.length : Int)
           ·rw [if_pos c18] at H
            have c18b0 : decide ((rd l2 x37_2) < (t222.length : Int)) = true := decide_eq_true c18
            clear c18
            by_cases c19 : (rd t222 (rd l2 x37_2)) < 0
            ·rw [if_pos c19] at H
             have c19b0 : decide ((rd t222 (rd l2 x37_2)) < 0) = true := decide_eq_true c19
             clear c19
             obtain rfl := Option.some.inj H
             have p228 : 0 ≤ (x37_2 : Int) := of_decide_eq_true (by first | (with_reducible assumption) | assumption)
             have q228 : x37_2 < (l2.length : Int) := of_decide_eq_true (by first | (with_reducible assumption) | assumption)
             obtain ⟨ad228, e228, hx228_0⟩ := Kd.at_int HR2.out x37_2 p228 q228
             cases e228
             replace hx228_0 := (HB.out.cell (World.block_lt_of_cell? w _ hx228_0)).trans hx228_0
             replace p228 := eq_true p228
             replace q228 := eq_true q228
             obtain ⟨Ao20, co20, eo20⟩ := Kd.R_slice HO_9.out
             subst eo20
             have p229 : 0 ≤ ((rd l2 x37_2) : Int) := of_decide_eq_true (by first | (with_reducible assumption) | assumption)
             have q229 : (rd l2 x37_2) < (t222.length : Int) := of_decide_eq_true (by first | (with_reducible assumption) | assumption)
             obtain ⟨ad229, e229, hx229_0⟩ := Kd.at_int (Kd.R_reads' HO_9.out).2.2 (rd l2 x37_2) p229 q229
             cases e229
             replace p229 := eq_true p229
             replace q229 := eq_true q229
             go_wp2
             go_ret
             exact ⟨by first | rfl | (simp [errW_none, errW_some] <;> rfl) | (simp [*, errW_none, errW_some] <;> rfl), by repeat (first | (with_reducible first | exact HB.out | apply below_alloc | apply pw_below_drewN | apply below_drew1) | exact HB.out)⟩
            ·rw [if_neg c19] at H
             have c19b0 : decide ((rd t222 (rd l2 x37_2)) < 0) = false := decide_eq_false c19
             clear c19
             have H' := Aside0.mk H
             clear H
             have p228 : 0 ≤ (x37_2 : Int) := of_decide_eq_true (by first | (with_reducible assumption) | assumption)
             have q228 : x37_2 < (l2.length : Int) := of_decide_eq_true (by first | (with_reducible assumption) | assumption)
             obtain ⟨ad228, e228, hx228_0⟩ := Kd.at_int HR2.out x37_2 p228 q228
             cases e228
             replace hx228_0 := (HB.out.cell (World.block_lt_of_cell? w _ hx228_0)).trans hx228_0
             replace p228 := eq_true p228
             replace q228 := eq_true q228
             obtain ⟨Ao21, co21, eo21⟩ := Kd.R_slice HO_9.out
             subst eo21
             have p229 : 0 ≤ ((rd l2 x37_2) : Int) := of_decide_eq_true (by first | (with_reducible assumption) | assumption)
             have q229 : (rd l2 x37_2) < (t222.length : Int) := of_decide_eq_true (by first | (with_reducible assumption) | assumption)
             obtain ⟨ad229, e229, hx229_0⟩ := Kd.at_int (Kd.R_reads' HO_9.out).2.2 (rd l2 x37_2) p229 q229
             cases e229
             replace p229 := eq_true p229
             replace q229 := eq_true q229
             go_wp2
             go_roundg k2
             case measure => have := HK1.out; have := HK2.out; omega
             case rel => exact ⟨(wrap64 (x37_2 + 1)), (by first | rfl | (simp; done) | (simp [*]; done)), H', ⟨by have := HK1.out; have := HK2.out; omega⟩, ⟨by (with_reducible repeat (first | apply Kd.R_alloc | apply Kd.R_drewN | apply Kd.R_drew)); exact HO_9.out⟩, ⟨by repeat (first | (with_reducible first | exact HB.out | apply below_alloc | apply pw_below_drewN | apply below_drew1) | exact HB.out)⟩⟩
           ·rw [if_neg c18] at H
            exact absurd H (by simp)
          ·rw [if_neg c17] at H
           exact absurd H (by simp)
         ·rw [if_neg c16] at H
          exact absurd H (by simp)
        ·rw [if_neg c15] at H
         exact absurd H (by simp)
       ·rw [if_neg c14] at H
        have c14b0 : decide (x37_2 < (l2.length : Int)) = false := decide_eq_false c14
        clear c14
        obtain rfl := Option.some.inj H
        go_wp2
        go_ret
        exact ⟨by first | rfl | (simp [errW_none, errW_some] <;> rfl) | (simp [*, errW_none, errW_some] <;> rfl), by repeat (first | (with_reducible first | exact HB.out | apply below_alloc | apply pw_below_drewN | apply below_drew1) | exact HB.out)⟩
 ·replace c5 := Bool.eq_false_iff.mpr c5
  subst c5
  have H1 : (some 1) = some r := by rw [if_neg (show ¬ (false = true) by decide)] at H; exact H
  clear H
  have H := H1
  clear H1
  obtain rfl := Option.some.inj H
  go_enter Try.func30, Try.ntmps30
  go_wp2_with (first | ((with_reducible refine gate_callee (f := 33) rfl ?_); refine goesL_ (some 15) rfl rfl Try.func33 (by kernel_rfl) rfl #[.int .i64 a0, .slice A1 l1.length c1] rfl (by (try simp only [List.map_toArray, List.map_cons, List.map_nil]); first | done | rfl | (simp only [List.length_drop, List.length_take]; rfl)) ?_; (with_reducible refine (impl_AreFuses.calls k a0 _ _ l1 false _ ?side1 ?side2 A4.out).mono ?_); (case side1 => repeat (first | exact HR1.out | (with_reducible refine Kd.C_alloc ?_ _) | (with_reducible refine Kd.C_drewN ?_ _) | (with_reducible refine Kd.C_drew ?_))); (case side2 => exact HC1.out); rintro e w22 ⟨rfl, hb⟩; refine ⟨_, rfl, ?_⟩; have n0_ := Aside0.mk (below_step (by repeat (first | (with_reducible first | exact HB.out | apply below_alloc | apply pw_below_drewN | apply below_drew1) | exact HB.out)) hb); clear HB; have HB := n0_; clear n0_; (try clear hb); (try clear hb2); (try clear hk); (try clear hi)))
  go_ret
  exact ⟨by first | rfl | (simp [errW_none, errW_some] <;> rfl) | (simp [*, errW_none, errW_some] <;> rfl), by repeat (first | (with_reducible first | exact HB.out | apply below_alloc | apply pw_below_drewN | apply below_drew1) | exact HB.out)⟩
end Go.Proofs.Ytipgcjonidlloaa.F
namespace Go.Proofs.Ytipgcjonidlloaa.F
open Go.RowKit Go.Proofs.YtipgcjonidlloaaW.PrintWords Go.Proofs.YtipgcjonidlloaaW.PrintLast Go.Proofs.YtipgcjonidlloaaW.PrintMore
attribute [local go_sem] max2_int min2_int max_two min_two max_three min_three max_four min_four   -- for this text's walks alone
set_option linter.unusedVariables false
set_option linter.unusedSimpArgs false
def impl_withoutFuse.f (l0 : List (S44)) (a1 : Int) : Option ((List (S44))) := (some (([] : List (S44)) : List (S44))).bind fun y453 => (if 0 ≤ a1 then (if a1 ≤ (l0.length : Int) then ((some (l0.take (a1 : Int).toNat : List (S44))).bind fun y456 => (if y453.length + y456.length < 4398046511104 then ((some (y453 ++ y456 : List (S44))).bind fun y460 => (if 0 ≤ (wrap64 (a1 + 1)) then (if (wrap64 (a1 + 1)) ≤ (l0.length : Int) then ((some (l0.drop ((wrap64 (a1 + 1)) : Int).toNat : List (S44))).bind fun y463 => (if y460.length + y463.length < 4398046511104 then (some (y460 ++ y463)) else (none))) else (none)) else (none))) else (none))) else (none)) else (none))
def impl_withoutFuse.T1 : Bool × List (List Nat × List Nat) := (true, [([], []), ([], []), ([], []), ([1, 2], [1, 2]), ([0, 3], [0, 3]), ([], []), ([], []), ([6], [6]), ([5, 7], [5, 7]), ([4, 8, 4], [4, 8]), ([9, 9, 0, 1, 2, 3, 4, 5, 6, 7, 8, 9], [9])])
def impl_withoutFuse.B1 : List Nat := [0, 0, 0, 6, 15, 0, 0, 64, 224, 511, 1023]
theorem impl_withoutFuse.tab1 : rtab .any (opsOf Try.f35 1) = impl_withoutFuse.T1 := by kernel_rfl
theorem impl_withoutFuse.bits1 : waitsOk impl_withoutFuse.T1.2 impl_withoutFuse.B1 = true := by kernel_rfl
set_option maxHeartbeats 8000000 in
set_option maxRecDepth 100000 in
theorem impl_withoutFuse.calls (A0 : Option Addr) (c0 : Nat) (l0 : List (S44)) (a1 : Int) (r : List (S44)) (w : World) (hr0 : Kd.C k44 w A0 l0.length l0) (hc0 : l0.length ≤ c0) (h : impl_withoutFuse.f l0 a1 = some r) :
  Calls Try.prog 35 #[.slice A0 l0.length c0, .int .i64 a1] w fun e w' => ∃ v0_ : Value, e = .returned (v0_) ∧ Kd.R k44 44 w' w.heap.size (fun _ => True) v0_ r ∧ Below w.heap.size w w' := by
 have HR0 := Aside0.mk hr0
 have HC0 := Aside0.mk hc0
 clear hr0 hc0
 have HB := Aside0.mk (Below.refl w.heap.size w)
 have H : ((some (([] : List (S44)) : List (S44))).bind fun y453 => (if 0 ≤ a1 then (if a1 ≤ (l0.length : Int) then ((some (l0.take (a1 : Int).toNat : List (S44))).bind fun y456 => (if y453.length + y456.length < 4398046511104 then ((some (y453 ++ y456 : List (S44))).bind fun y460 => (if 0 ≤ (wrap64 (a1 + 1)) then (if (wrap64 (a1 + 1)) ≤ (l0.length : Int) then ((some (l0.drop ((wrap64 (a1 + 1)) : Int).toNat : List (S44))).bind fun y463 => (if y460.length + y463.length < 4398046511104 then (some (y460 ++ y463)) else (none))) else (none)) else (none))) else (none))) else (none)) else (none))) = some r := h
 clear h
 obtain ⟨y453, hy453⟩ : ∃ y_ : List (S44), y_ = (([] : List (S44))) := ⟨_, rfl⟩
 replace H : (if 0 ≤ a1 then (if a1 ≤ (l0.length : Int) then ((some (l0.take (a1 : Int).toNat : List (S44))).bind fun y456 => (if y453.length + y456.length < 4398046511104 then ((some (y453 ++ y456 : List (S44))).bind fun y460 => (if 0 ≤ (wrap64 (a1 + 1)) then (if (wrap64 (a1 + 1)) ≤ (l0.length : Int) then ((some (l0.drop ((wrap64 (a1 + 1)) : Int).toNat : List (S44))).bind fun y463 => (if y460.length + y463.length < 4398046511104 then (some (y460 ++ y463)) else (none))) else (none)) else (none))) else (none))) else (none)) else (none)) = some r := by first | (rw [hy453]; with_reducible exact H) | (have H2_ := (Option.bind_some _ _).symm.trans H; rw [hy453]; with_reducible exact H2_) | (have H2_ := (Option.bind_some _ _).symm.trans H; with_reducible exact H2_) | with_reducible exact H | (rw [hy453]; exact H) | exact H
 have Ny453 := Aside0.mk hy453
 clear hy453
 by_cases c3 : 0 ≤ a1
 ·rw [if_pos c3] at H
  have c3b0 := eq_true c3
  have c3b1 : decide (0 ≤ a1) = true := decide_eq_true c3
  clear c3
  by_cases c4 : a1 ≤ (l0.length : Int)
  ·rw [if_pos c4] at H
   have c4b0 := eq_true c4
   have c4b1 : decide (a1 ≤ (l0.length : Int)) = true := decide_eq_true c4
   clear c4
   obtain ⟨y456, hy456⟩ : ∃ y_ : List (S44), y_ = (l0.take (a1 : Int).toNat) := ⟨_, rfl⟩
   replace H : (if y453.length + y456.length < 4398046511104 then ((some (y453 ++ y456 : List (S44))).bind fun y460 => (if 0 ≤ (wrap64 (a1 + 1)) then (if (wrap64 (a1 + 1)) ≤ (l0.length : Int) then ((some (l0.drop ((wrap64 (a1 + 1)) : Int).toNat : List (S44))).bind fun y463 => (if y460.length + y463.length < 4398046511104 then (some (y460 ++ y463)) else (none))) else (none)) else (none))) else (none)) = some r := by first | (rw [hy456]; with_reducible exact H) | (have H2_ := (Option.bind_some _ _).symm.trans H; rw [hy456]; with_reducible exact H2_) | (have H2_ := (Option.bind_some _ _).symm.trans H; with_reducible exact H2_) | with_reducible exact H | (rw [hy456]; exact H) | exact H
   have Ny456 := Aside0.mk hy456
   clear hy456
   by_cases c5 : y453.length + y456.length < 4398046511104
   ·rw [if_pos c5] at H
    have LMc5 := Aside0.mk c5
    clear c5
    obtain ⟨y460, hy460⟩ : ∃ y_ : List (S44), y_ = (y453 ++ y456) := ⟨_, rfl⟩
    replace H : (if 0 ≤ (wrap64 (a1 + 1)) then (if (wrap64 (a1 + 1)) ≤ (l0.length : Int) then ((some (l0.drop ((wrap64 (a1 + 1)) : Int).toNat : List (S44))).bind fun y463 => (if y460.length + y463.length < 4398046511104 then (some (y460 ++ y463)) else (none))) else (none)) else (none)) = some r := by first | (rw [hy460]; with_reducible exact H) | (have H2_ := (Option.bind_some _ _).symm.trans H; rw [hy460]; with_reducible exact H2_) | (have H2_ := (Option.bind_some _ _).symm.trans H; with_reducible exact H2_) | with_reducible exact H | (rw [hy460]; exact H) | exact H
    have Ny460 := Aside0.mk hy460
    clear hy460
    obtain ⟨ji6, hji6⟩ : ∃ j_ : Int, (wrap64 (a1 + 1)) = j_ := ⟨_, rfl⟩
    replace H : (if 0 ≤ (ji6) then (if (ji6) ≤ (l0.length : Int) then ((some (l0.drop ((ji6) : Int).toNat : List (S44))).bind fun y463 => (if y460.length + y463.length < 4398046511104 then (some (y460 ++ y463)) else (none))) else (none)) else (none)) = some r := by first | (rw [hji6] at H; exact H) | (simp only [hji6] at H ⊢; exact H)
    have hji6w : (IntKind.i64.wrap (a1 + 1)) = ji6 := (i64_w _).trans hji6
    by_cases c7 : 0 ≤ (ji6)
    ·rw [if_pos c7] at H
     have c7b0 := eq_true c7
     have c7b1 : decide (0 ≤ (ji6)) = true := decide_eq_true c7
     clear c7
     by_cases c8 : (ji6) ≤ (l0.length : Int)
     ·rw [if_pos c8] at H
      have c8b0 := eq_true c8
      have c8b1 : decide ((ji6) ≤ (l0.length : Int)) = true := decide_eq_true c8
      clear c8
      obtain ⟨y463, hy463⟩ : ∃ y_ : List (S44), y_ = (l0.drop ((ji6) : Int).toNat) := ⟨_, rfl⟩
      replace H : (if y460.length + y463.length < 4398046511104 then (some (y460 ++ y463)) else (none)) = some r := by first | (rw [hy463]; with_reducible exact H) | (have H2_ := (Option.bind_some _ _).symm.trans H; rw [hy463]; with_reducible exact H2_) | (have H2_ := (Option.bind_some _ _).symm.trans H; with_reducible exact H2_) | with_reducible exact H | (rw [hy463]; exact H) | exact H
      have Ny463 := Aside0.mk hy463
      clear hy463
      by_cases c9 : y460.length + y463.length < 4398046511104
      ·rw [if_pos c9] at H
       have LMc9 := Aside0.mk c9
       clear c9
       obtain ⟨y467, hy467⟩ : ∃ y_ : List (S44), y_ = (y460 ++ y463) := ⟨_, rfl⟩
       replace H : (some y467) = some r := by first | (rw [hy467]; with_reducible exact H) | (have H2_ := (Option.bind_some _ _).symm.trans H; rw [hy467]; with_reducible exact H2_) | (have H2_ := (Option.bind_some _ _).symm.trans H; with_reducible exact H2_) | with_reducible exact H | (rw [hy467]; exact H) | exact H
       have Ny467 := Aside0.mk hy467
       clear hy467
       obtain rfl := Option.some.inj H
       go_enter Try.func35, Try.ntmps35
       try go_wp2
       have n0_ := Aside0.mk (below_drew1 HB.out)
       clear HB
       have HB := n0_
       clear n0_
       have q11 : (a1 : Int) ≤ ((l0.length : Int) : Int) := of_decide_eq_true (by first | (with_reducible assumption) | assumption)
       obtain ⟨i011, hi011, _, hsz11, _⟩ := info_parts info44
       have hroom11 : l0.length ≤ c0 := HC0.out
       have hC11 : Kd.C k44 _ A0 l0.length l0 := HR0.out
       have hcut11 := cut_to (P := Try.prog) 26 44 .i64 Try.underlying26 hi011 A0 l0.length c0 a1 (of_decide_eq_true (by first | (with_reducible assumption) | assumption)) q11 hroom11
       have hr11 := Kd.C_take (m := (a1 : Int).toNat) hC11 (by omega)
       have hy11 : y456.length = (a1 : Int).toNat := (by rw [Ny456.out, List.length_take]; omega)
       rw [← Ny456.out] at hr11
       rw [← hy11] at hcut11
       have HR459 := Aside0.mk hr11
       have HC459 := Aside0.mk (show y456.length ≤ c0 from by omega)
       clear hr11 hC11 hroom11 hi011 hsz11
       have KY11 := Aside0.mk hy11
       clear hy11
       replace q11 := eq_true q11
       have q12 : ((ji6) : Int) ≤ ((l0.length : Int) : Int) := of_decide_eq_true (by first | (with_reducible assumption) | assumption)
       obtain ⟨i012, hi012, _, hsz12, _⟩ := info_parts info44
       have hroom12 : l0.length ≤ c0 := HC0.out
       have hC12 : Kd.C k44 _ A0 l0.length l0 := HR0.out
       have q012 : (0 : Int) ≤ ((ji6) : Int) := of_decide_eq_true (by first | (with_reducible assumption) | assumption)
       have hcut12 := cut_from (P := Try.prog) 26 44 .i64 Try.underlying26 hi012 4 hsz12 A0 l0.length c0 (ji6) q012 q12
       have hr12 := Kd.C_drop (m := ((ji6) : Int).toNat) (c := c0) hC12 (by omega) hroom12
       obtain ⟨A12, hA12⟩ : ∃ A1, A1 = (if c0 = ((ji6) : Int).toNat then A0 else (A0 : Option Addr).map (·.add (((ji6) : Int).toNat * 4))) := ⟨_, rfl⟩
       obtain ⟨c12, hc12⟩ : ∃ c1, c1 = c0 - ((ji6) : Int).toNat := ⟨_, rfl⟩
       have hy12 : y463.length = l0.length - ((ji6) : Int).toNat := (by rw [Ny463.out, List.length_drop] <;> omega)
       rw [show (l0).drop ((ji6) : Int).toNat = y463 from Ny463.out.symm] at hr12
       replace hr12 : Kd.C k44 _ A12 y463.length y463 := (by rw [hA12]; exact hr12)
       rw [← hy12, ← hA12, ← hc12] at hcut12
       have HR466 := Aside0.mk hr12
       have HC466 := Aside0.mk (show y463.length ≤ c12 from by rw [hy12, hc12]; exact Nat.sub_le_sub_right hroom12 _)
       clear hr12 hC12 hroom12 hi012 hsz12 hc12
       have KY12 := Aside0.mk hy12
       have KA12 := Aside0.mk hA12
       clear hy12 hA12
       replace q12 := eq_true q12
       refine start_ (n := 11) (S := fun w' => True) (ds := []) #[false, false, false, false, false, false, false, false, false, false, false] (by kernel_rfl) rfl rfl trivial (fun hHeld => ?_); refine with_tabW impl_withoutFuse.tab1 impl_withoutFuse.bits1 (fun HT_ HW_ => ?_)
       generalize w.drew = w10 at HB HR459 HR466 hHeld ⊢
       refine pure_ (i := 1) (N := some 6) (v := ?_) (a' := ?_) #[false, true, false, false, false, false, false, false, false, false, false] rfl rfl (any_of HT_.out (by kernel_rfl)) (fun _ _ _ h => h) (Or.inl ⟨by rfl, ?_⟩) ?_ ?_
       rotate_left
       ·intro w'
        go_simp
        with_reducible rfl
       rotate_left
       ·simp only [Act.put, List.setIfInBounds_toArray, List.set_cons_zero, List.set_cons_succ, i64_w, i32_w]
        rfl
       refine pure_ (i := 2) (N := some 7) (v := ?_) (a' := ?_) #[false, true, true, false, false, false, false, false, false, false, false] rfl rfl (any_of HT_.out (by kernel_rfl)) (fun _ _ _ h => h) (Or.inl ⟨by rfl, ?_⟩) ?_ ?_
       rotate_left
       ·intro w'
        go_simp
        with_reducible rfl
       rotate_left
       ·simp only [Act.put, List.setIfInBounds_toArray, List.set_cons_zero, List.set_cons_succ, i64_w, i32_w]
        rfl
       refine pure_ (i := 3) (N := some 8) (v := ?_) (a' := ?_) #[false, true, true, true, false, false, false, false, false, false, false] rfl rfl (any_of HT_.out (by kernel_rfl)) (fun _ _ _ h => h) (Or.inl ⟨by rfl, ?_⟩) ?_ ?_
       rotate_left
       ·intro w'
        go_simp
        with_reducible rfl
       rotate_left
       ·simp only [Act.put, List.setIfInBounds_toArray, List.set_cons_zero, List.set_cons_succ, i64_w, i32_w]
        rfl
       refine pure_ (i := 5) (N := some 10) (v := ?_) (a' := ?_) #[false, true, true, true, false, true, false, false, false, false, false] rfl rfl (any_of HT_.out (by kernel_rfl)) (fun _ _ _ h => h) (Or.inl ⟨by rfl, ?_⟩) ?_ ?_
       rotate_left
       ·intro w'
        go_simp
        with_reducible rfl
       rotate_left
       ·simp only [Act.put, List.setIfInBounds_toArray, List.set_cons_zero, List.set_cons_succ, i64_w, i32_w]
        rfl
       refine pure_ (i := 6) (N := some 11) (v := ?_) (a' := ?_) #[false, true, true, true, false, true, true, false, false, false, false] rfl rfl (any_of HT_.out (by kernel_rfl)) (fun _ _ _ h => h) (Or.inl ⟨by rfl, ?_⟩) ?_ ?_
       rotate_left
       ·intro w'
        go_simp
        with_reducible rfl
       rotate_left
       ·simp only [Act.put, List.setIfInBounds_toArray, List.set_cons_zero, List.set_cons_succ, i64_w, i32_w]
        rfl
       refine pure_ (i := 7) (N := some 12) (v := ?_) (a' := ?_) #[false, true, true, true, false, true, true, true, false, false, false] rfl rfl (any_of HT_.out (by kernel_rfl)) (fun _ _ _ h => h) (Or.inl ⟨by rfl, ?_⟩) ?_ ?_
       rotate_left
       ·intro w'
        go_simp
        with_reducible rfl
       rotate_left
       ·simp only [Act.put, List.setIfInBounds_toArray, List.set_cons_zero, List.set_cons_succ, i64_w, i32_w]
        rfl
       refine pure_ (i := 8) (N := some 13) (v := ?_) (a' := ?_) #[false, true, true, true, false, true, true, true, true, false, false] rfl rfl (any_of HT_.out (by kernel_rfl)) (fun _ _ _ h => h) (Or.inl ⟨by rfl, ?_⟩) ?_ ?_
       rotate_left
       ·intro w'
        go_simp
        with_reducible rfl
       rotate_left
       ·simp only [Act.put, List.setIfInBounds_toArray, List.set_cons_zero, List.set_cons_succ, i64_w, i32_w]
        rfl
       refine one_ (i := 0) (N := some 5) #[true, true, true, true, false, true, true, true, true, false, false] rfl rfl (one_of HT_.out (by kernel_rfl)) (by decide) (fun K hK => ?_)
       refine Kd.R_lit_step k44 _ 44 ?hg (N := 5) ?hd (xs := ([] : List (S44))) (inner := []) (ok := fun _ => True) (okp := fun _ => True) ?hr ?hp (fun _ hk => hk) trivial (Below.refl _ _) (Nat.le_refl _) (by simp) ?_; (case hd => rfl); (case hg => rfl); (case hr => first | (go_simp; done) | (go_simp; rfl)); (case hp => exact (Reps.none _ _))
       intro v454 w13 ho14 hb hg_ hnew_
       clear hg_ hnew_
       (first | rw [← Ny453.out] at ho14 | (simp only [Int.reduceToNat] at ho14; rw [← Ny453.out] at ho14))
       have n0_ := Aside0.mk (Kd.R_lower ho14 (below_size (by repeat (first | (with_reducible first | exact HB.out | apply below_alloc | apply pw_below_drewN | apply below_drew1) | exact HB.out))))
       have n1_ := Aside0.mk (below_step (by repeat (first | (with_reducible first | exact HB.out | apply below_alloc | apply pw_below_drewN | apply below_drew1) | exact HB.out)) hb)
       clear HB
       have HO455 := n0_
       have HB := n1_
       clear n0_ n1_
       clear hb ho14
       refine hK.out _ _ trivial (fun hHeld => ?_)
       clear hK K
       refine norm_ (a' := ?_) ?_ ?_
       rotate_left
       ·show Act.put _ (some 5) _ = _
        simp only [Act.put, List.setIfInBounds_toArray, List.set_cons_zero, List.set_cons_succ, i64_w, i32_w]
        rfl
       refine one_ (i := 4) (N := some 9) #[true, true, true, true, true, true, true, true, true, false, false] rfl rfl (one_of HT_.out (by kernel_rfl)) (by decide) (fun K hK => ?_)
       refine Kd.R_append_rows_step k44 (w0 := w) w.heap.size (by rfl) (.tmp 5) (.tmp 8) 26 44 (.agg #[(.int .i64 0), (.int .i64 0), (.int .i64 0), (.int .i64 0)]) 32 rfl Try.underlying26 info44 rfl (by decide) (by omega) v454 y453 y456 _ _ _ (fun _ => True) (fun _ => False) rfl rfl ?aO ?aR (fun _ _ h => h) (fun _ h => h.elim) ?aF ?aB ?aS ?aL ?_
       (case aR => repeat (first | exact (Kd.C_below HR459.out HB.out) | (with_reducible refine Kd.C_alloc ?_ _) | (with_reducible refine Kd.C_drewN ?_ _) | (with_reducible refine Kd.C_drew ?_)))
       (case aB => exact (by repeat (first | (with_reducible first | exact HB.out | apply below_alloc | apply pw_below_drewN | apply below_drew1) | exact HB.out)))
       (case aF => exact (fun _ _ => trivial))
       (case aO => exact (by (with_reducible repeat (first | apply Kd.R_alloc | apply Kd.R_drewN | apply Kd.R_drew)); exact HO455.out))
       (case aS => exact (below_size (by repeat (first | (with_reducible first | exact HB.out | apply below_alloc | apply pw_below_drewN | apply below_drew1) | exact HB.out))))
       (case aL => have := LMc5.out; omega)
       intro v461 w15 ho hb hg hat
       rw [← Ny460.out] at ho
       have n0_ := Aside0.mk (hb)
       have n1_ := Aside0.mk (ho)
       clear HB
       clear HO455
       have HB := n0_
       have HO462 := n1_
       clear n0_ n1_
       clear ho hb hg hat
       refine hK.out _ _ trivial (fun hHeld => ?_)
       clear hK K
       refine norm_ (a' := ?_) ?_ ?_
       rotate_left
       ·show Act.put _ (some 9) _ = _
        simp only [Act.put, List.setIfInBounds_toArray, List.set_cons_zero, List.set_cons_succ, i64_w, i32_w]
        rfl
       refine one_ (i := 9) (N := some 14) #[true, true, true, true, true, true, true, true, true, true, false] rfl rfl (one_of HT_.out (by kernel_rfl)) (by decide) (fun K hK => ?_)
       refine Kd.R_append_rows_step k44 (w0 := w) w.heap.size (by rfl) (.tmp 9) (.tmp 13) 26 44 (.agg #[(.int .i64 0), (.int .i64 0), (.int .i64 0), (.int .i64 0)]) 32 rfl Try.underlying26 info44 rfl (by decide) (by omega) v461 y460 y463 _ _ _ (fun _ => True) (fun _ => False) rfl rfl ?aO ?aR (fun _ _ h => h) (fun _ h => h.elim) ?aF ?aB ?aS ?aL ?_
       (case aR => repeat (first | exact (Kd.C_below HR466.out HB.out) | (with_reducible refine Kd.C_alloc ?_ _) | (with_reducible refine Kd.C_drewN ?_ _) | (with_reducible refine Kd.C_drew ?_)))
       (case aB => exact (by repeat (first | (with_reducible first | exact HB.out | apply below_alloc | apply pw_below_drewN | apply below_drew1) | exact HB.out)))
       (case aF => exact (fun _ _ => trivial))
       (case aO => exact (by (with_reducible repeat (first | apply Kd.R_alloc | apply Kd.R_drewN | apply Kd.R_drew)); exact HO462.out))
       (case aS => exact (below_size (by repeat (first | (with_reducible first | exact HB.out | apply below_alloc | apply pw_below_drewN | apply below_drew1) | exact HB.out))))
       (case aL => have := LMc9.out; omega)
       intro v468 w16 ho hb hg hat
       rw [← Ny467.out] at ho
       have n0_ := Aside0.mk (hb)
       have n1_ := Aside0.mk (ho)
       clear HB
       clear HO462
       have HB := n0_
       have HO469 := n1_
       clear n0_ n1_
       clear ho hb hg hat
       refine hK.out _ _ trivial (fun hHeld => ?_)
       clear hK K
       refine norm_ (a' := ?_) ?_ ?_
       rotate_left
       ·show Act.put _ (some 14) _ = _
        simp only [Act.put, List.setIfInBounds_toArray, List.set_cons_zero, List.set_cons_succ, i64_w, i32_w]
        rfl
       refine pure_ (i := 10) (N := some 4) (v := ?_) (a' := ?_) #[true, true, true, true, true, true, true, true, true, true, true] rfl rfl (any_of HT_.out (by kernel_rfl)) (fun _ _ _ h => h) (Or.inl ⟨by rfl, ?_⟩) ?_ ?_
       rotate_left
       ·intro w'
        go_simp
        with_reducible rfl
       rotate_left
       ·simp only [Act.put, List.setIfInBounds_toArray, List.set_cons_zero, List.set_cons_succ, i64_w, i32_w]
        rfl
       refine done_ (done_of HT_.out (by kernel_rfl)) ?_
       try go_wp2
       go_ret
       exact ⟨_, by first | rfl | (simp [errW_none, errW_some] <;> rfl) | (simp only [← hji6]; first | rfl | (simp [errW_none, errW_some] <;> rfl)) | (simp [*, errW_none, errW_some] <;> rfl), by (with_reducible repeat (first | apply Kd.R_alloc | apply Kd.R_drewN | apply Kd.R_drew)); exact HO469.out, by repeat (first | (with_reducible first | exact HB.out | apply below_alloc | apply pw_below_drewN | apply below_drew1) | exact HB.out)⟩
      ·rw [if_neg c9] at H
       exact absurd H (by simp)
     ·rw [if_neg c8] at H
      exact absurd H (by simp)
    ·rw [if_neg c7] at H
     exact absurd H (by simp)
   ·rw [if_neg c5] at H
    exact absurd H (by simp)
  ·rw [if_neg c4] at H
   exact absurd H (by simp)
 ·rw [if_neg c3] at H
  exact absurd H (by simp)
end Go.Proofs.Ytipgcjonidlloaa.F
namespace Go.Proofs.Ytipgcjonidlloaa.F
open Go.RowKit Go.Proofs.YtipgcjonidlloaaW.PrintWords Go.Proofs.YtipgcjonidlloaaW.PrintLast Go.Proofs.YtipgcjonidlloaaW.PrintMore
attribute [local go_sem] max2_int min2_int max_two min_two max_three min_three max_four min_four   -- for this text's walks alone
set_option linter.unusedVariables false
set_option linter.unusedSimpArgs false
def impl_NeededFuses.l0 : Nat → Int → List (S44) → Int → List Int → Int → Int → Option (List Int × Int)
 | 0, _, _, _, _, _, _ => none
 | k + 1, x0, x1, x2, x9, x22, x23 => if x23 < x22 then ((impl_withoutFuse.f x1 x23).bind fun t474 => ((impl_litTimes.f k x0 t474).bind fun bt477 => (if 0 ≤ x2 then (if x2 < (bt477.1.length : Int) then (if (rd bt477.1 x2) < 0 then (if x9.length < 17592186044416 then (impl_NeededFuses.l0 k x0 x1 x2 (x9 ++ [x23]) x22 (wrap64 (x23 + 1))) else (none)) else (impl_NeededFuses.l0 k x0 x1 x2 x9 x22 (wrap64 (x23 + 1)))) else (none)) else (none)))) else (some (x9, 0))
def impl_NeededFuses.f (k : Nat) (a0 : Int) (l1 : List (S44)) (a2 : Int) : Option (List Int × Int) := (impl_nodeAsked.f k a0 l1 (([a2] : List Int))).bind fun t473 => (if t473 = 0 then (impl_NeededFuses.l0 k a0 l1 a2 ([] : List Int) (l1.length : Int) 0) else (some (([] : List Int), t473)))
theorem impl_NeededFuses.mono_l : ∀ k, (∀ y0 y1 y2 y3 y4 y5, LeO (impl_NeededFuses.l0 k y0 y1 y2 y3 y4 y5) (impl_NeededFuses.l0 (k + 1) y0 y1 y2 y3 y4 y5))
 | 0 => fun _ _ _ _ _ _ r h => by simp [impl_NeededFuses.l0] at h
 | k + 1 => by
  have ih0 := impl_NeededFuses.mono_l k
  ·intro y0 y1 y2 y3 y4 y5
   unfold impl_NeededFuses.l0
   repeat' first
   | (with_reducible exact ih0 _ _ _ _ _ _)
   | (with_reducible exact impl_litTimes.mono _ _ _)
   | (with_reducible exact impl_nodeAsked.mono _ _ _ _)
   | (with_reducible exact LeO.refl _)
   | (with_reducible exact LeO.none _)
   | (with_reducible refine LeO.ite ?_ ?_)
   | (with_reducible refine LeO.bind ?_ (fun _ => ?_))
   | exact ih0 _ _ _ _ _ _
   | exact impl_litTimes.mono _ _ _
   | exact impl_nodeAsked.mono _ _ _ _
   | exact LeO.none _
   | refine LeO.ite ?_ ?_
   | refine LeO.bind ?_ (fun _ => ?_)
theorem impl_NeededFuses.mono : ∀ a0 a1 a2 k, LeO (impl_NeededFuses.f k a0 a1 a2) (impl_NeededFuses.f (k + 1) a0 a1 a2) := by
 intro a0 a1 a2 k
 have ih0 := impl_NeededFuses.mono_l k
 unfold impl_NeededFuses.f
 repeat' first
   | (with_reducible exact ih0 _ _ _ _ _ _)
   | (with_reducible exact impl_litTimes.mono _ _ _)
   | (with_reducible exact impl_nodeAsked.mono _ _ _ _)
   | (with_reducible exact LeO.refl _)
   | (with_reducible exact LeO.none _)
   | (with_reducible refine LeO.ite ?_ ?_)
   | (with_reducible refine LeO.bind ?_ (fun _ => ?_))
   | exact ih0 _ _ _ _ _ _
   | exact impl_litTimes.mono _ _ _
   | exact impl_nodeAsked.mono _ _ _ _
   | exact LeO.none _
   | refine LeO.ite ?_ ?_
   | refine LeO.bind ?_ (fun _ => ?_)
set_option maxHeartbeats 8000000 in
set_option maxRecDepth 100000 in
theorem impl_NeededFuses.calls (k : Nat) (a0 : Int) (A1 : Option Addr) (c1 : Nat) (l1 : List (S44)) (a2 : Int) (r1 : List Int) (r2 : Int) (w : World) (hr1 : Kd.C k44 w A1 l1.length l1) (hc1 : l1.length ≤ c1) (h : impl_NeededFuses.f k a0 l1 a2 = some (r1, r2)) :
  Calls Try.prog 22 #[.int .i64 a0, .slice A1 l1.length c1, .int .i64 a2] w fun e w' => ∃ v0_ : Value, e = .returned (.tuple #[v0_, .int .i64 r2]) ∧ Kd.R (Kd.int .i64) 2 w' w.heap.size (fun _ => True) v0_ r1 ∧ Below w.heap.size w w' := by
 have HR1 := Aside0.mk hr1
 have HC1 := Aside0.mk hc1
 clear hr1 hc1
 have HB := Aside0.mk (Below.refl w.heap.size w)
 have H : ((impl_nodeAsked.f k a0 l1 (([a2] : List Int))).bind fun t473 => (if t473 = 0 then (impl_NeededFuses.l0 k a0 l1 a2 ([] : List Int) (l1.length : Int) 0) else (some (([] : List Int), t473)))) = some (r1, r2) := h
 clear h
 obtain ⟨y470, hy470⟩ : ∃ y_ : List Int, y_ = (([a2] : List Int)) := ⟨_, rfl⟩
 replace H : ((impl_nodeAsked.f k a0 l1 y470).bind fun t473 => (if t473 = 0 then (impl_NeededFuses.l0 k a0 l1 a2 ([] : List Int) (l1.length : Int) 0) else (some (([] : List Int), t473)))) = some (r1, r2) := by first | (rw [hy470]; with_reducible exact H) | (have H2_ := (Option.bind_some _ _).symm.trans H; rw [hy470]; with_reducible exact H2_) | (have H2_ := (Option.bind_some _ _).symm.trans H; with_reducible exact H2_) | with_reducible exact H | (rw [hy470]; exact H) | exact H
 have Ny470 := Aside0.mk hy470
 clear hy470
 replace H := Option.bind_eq_some_iff.mp H
 obtain ⟨t473, A40, H⟩ := H
 replace H : (if t473 = 0 then (impl_NeededFuses.l0 k a0 l1 a2 ([] : List Int) (l1.length : Int) 0) else (some (([] : List Int), t473))) = some (r1, r2) := H
 have A4 := Aside0.mk A40
 clear A40
 by_cases c5 : t473 = 0
 ·rw [if_pos c5] at H
  have c5b0 : (t473 == 0) = true := beq_iff_eq.mpr c5
  have c5b1 : (t473 != 0) = false := bne_eq_false_iff_eq.mpr c5
  clear c5
  have H' := Aside0.mk H
  clear H
  go_enter Try.func22, Try.ntmps22
  go_wp2_with (first | ((with_reducible refine gate_dst (N := 16) rfl ?_); refine Kd.R_lit (Kd.int .i64) _ 2 ?hg (N := 16) ?hd (xs := ([a2] : List Int)) (inner := [.int .i64 a2]) (ok := fun _ => True) (okp := fun _ => True) ?hr ?hp (fun _ hk => hk) trivial (Below.refl _ _) (Nat.le_refl _) (by simp) ?_; (case hd => rfl); (case hg => rfl); (case hr => first | (go_simp; done) | (go_simp; rfl)); (case hp => exact (Reps.one (show Kd.M (Kd.int .i64) _ _ _ a2 [.int .i64 a2] from rfl) (Reps.none _ _))); intro v471 w6 ho7 hb hg_ hnew_; clear hg_ hnew_; (first | rw [← Ny470.out] at ho7 | (simp only [Int.reduceToNat] at ho7; rw [← Ny470.out] at ho7)); have n0_ := Aside0.mk (Kd.R_lower ho7 (below_size (by repeat (first | (with_reducible first | exact HB.out | apply below_alloc | apply pw_below_drewN | apply below_drew1) | exact HB.out)))); have n1_ := Aside0.mk (below_step (by repeat (first | (with_reducible first | exact HB.out | apply below_alloc | apply pw_below_drewN | apply below_drew1) | exact HB.out)) hb); clear HB; have HO472 := n0_; have HB := n1_; clear n0_ n1_; clear hb ho7; obtain ⟨Ao8, co8, eo8⟩ := Kd.R_slice HO472.out; subst eo8) | ((with_reducible refine gate_callee (f := 30) rfl ?_); refine goesL_ (some 17) rfl rfl Try.func30 (by kernel_rfl) rfl #[.int .i64 a0, .slice A1 l1.length c1, .slice Ao8 y470.length co8] rfl (by (try simp only [List.map_toArray, List.map_cons, List.map_nil]); first | done | rfl | (simp only [List.length_drop, List.length_take]; rfl)) ?_; (with_reducible refine (impl_nodeAsked.calls k a0 _ _ l1 _ _ y470 t473 _ ?side1 ?side2 ?side3 ?side4 A4.out).mono ?_); (case side1 => repeat (first | exact (Kd.C_below HR1.out HB.out) | (with_reducible refine Kd.C_alloc ?_ _) | (with_reducible refine Kd.C_drewN ?_ _) | (with_reducible refine Kd.C_drew ?_))); (case side2 => exact HC1.out); (case side3 => repeat (first | exact (Kd.R_reads' HO472.out).2.2 | (with_reducible refine Kd.C_alloc ?_ _) | (with_reducible refine Kd.C_drewN ?_ _) | (with_reducible refine Kd.C_drew ?_))); (case side4 => exact (Kd.R_reads' HO472.out).2.1); rintro e w9 ⟨rfl, hb⟩; refine ⟨_, rfl, ?_⟩; have n0_ := Aside0.mk (Kd.R_below (by (with_reducible repeat (first | apply Kd.R_alloc | apply Kd.R_drewN | apply Kd.R_drew)); exact HO472.out) hb); have n1_ := Aside0.mk (below_step (by repeat (first | (with_reducible first | exact HB.out | apply below_alloc | apply pw_below_drewN | apply below_drew1) | exact HB.out)) hb); clear HO472; clear HB; have HO472 := n0_; have HB := n1_; clear n0_ n1_; (try clear hb); (try clear hb2); (try clear hk); (try clear hi)))
  go_loopg [9, 23] k (fun kq v9 v23 w' => ∃ (x9_1 : List Int) (x23_1 : Int), v23 = .int .i64 x23_1 ∧ Aside0 (impl_NeededFuses.l0 kq a0 l1 a2 x9_1 (l1.length : Int) x23_1 = some (r1, r2)) ∧ Aside0 (kq ≤ k) ∧ Aside0 (Kd.R (Kd.int .i64) 2 w' w.heap.size (fun _ => True) v9 x9_1) ∧ Aside0 (Below w.heap.size w w'))
  case atStart => exact ⟨(([] : List Int)), (0), (by first | rfl | (simp; done) | (simp [*]; done)), H', ⟨Nat.le_refl _⟩, ⟨by first | exact Kd.R_nil _ _ _ _ _ | exact Kd.N_nil _ _ _ _ _ | exact Kd.V_nil _ _ _ _ _ | exact Kd.Q_nil _ _ _ _ _ | exact Kd.S_nil _ _ _ _ _⟩, ⟨by repeat (first | (with_reducible first | exact HB.out | apply below_alloc | apply pw_below_drewN | apply below_drew1) | exact HB.out)⟩⟩
  case round =>
   clear H'
   try clear c1
   try clear c2
   try clear p2
   try clear c3
   try clear c5
   try clear c5b0
   try clear c5b1
   obtain ⟨x9_1, x23_1, rfl, HA, HK1, HO_9, HB⟩ := hrel
   cases gk with
   | zero => exact absurd HA.out (by simp [impl_NeededFuses.l0])
   | succ k1 =>
    have H := HA.out
    clear HA
    simp only [impl_NeededFuses.l0] at H
    by_cases c10 : x23_1 < (l1.length : Int)
    ·rw [if_pos c10] at H
     have c10b0 : decide (x23_1 < (l1.length : Int)) = true := decide_eq_true c10
     clear c10
     replace H := Option.bind_eq_some_iff.mp H
     obtain ⟨t474, A110, H⟩ := H
     replace H : ((impl_litTimes.f k1 a0 t474).bind fun bt477 => (if 0 ≤ a2 then (if a2 < (bt477.1.length : Int) then (if (rd bt477.1 a2) < 0 then (if x9_1.length < 17592186044416 then (impl_NeededFuses.l0 k1 a0 l1 a2 (x9_1 ++ [x23_1]) (l1.length : Int) (wrap64 (x23_1 + 1))) else (none)) else (impl_NeededFuses.l0 k1 a0 l1 a2 x9_1 (l1.length : Int) (wrap64 (x23_1 + 1)))) else (none)) else (none))) = some (r1, r2) := H
     have A11 := Aside0.mk A110
     clear A110
     replace H := Option.bind_eq_some_iff.mp H
     obtain ⟨⟨t477, t478⟩, A120, H⟩ := H
     replace H : (if 0 ≤ a2 then (if a2 < (t477.length : Int) then (if (rd t477 a2) < 0 then (if x9_1.length < 17592186044416 then (impl_NeededFuses.l0 k1 a0 l1 a2 (x9_1 ++ [x23_1]) (l1.length : Int) (wrap64 (x23_1 + 1))) else (none)) else (impl_NeededFuses.l0 k1 a0 l1 a2 x9_1 (l1.length : Int) (wrap64 (x23_1 + 1)))) else (none)) else (none)) = some (r1, r2) := H
     have A12 := Aside0.mk A120
     clear A120
     by_cases c13 : 0 ≤ a2
     ·rw [if_pos c13] at H
      have c13b0 : decide (0 ≤ a2) = true := decide_eq_true c13
      clear c13
      by_cases c14 : a2 < (t477.length : Int)
      ·rw [if_pos c14] at H
       have c14b0 : decide (a2 < (t477.length : Int)) = true := decide_eq_true c14
       clear c14
       by_cases c15 : (rd t477 a2) < 0
       ·rw [if_pos c15] at H
        have c15b0 : decide ((rd t477 a2) < 0) = true := decide_eq_true c15
        clear c15
        by_cases c16 : x9_1.length < 17592186044416
        ·rw [if_pos c16] at H
         have LMc16 := Aside0.mk c16
         clear c16
         obtain ⟨y484, hy484⟩ : ∃ y_ : List Int, y_ = (x9_1 ++ [x23_1]) := ⟨_, rfl⟩
         replace H : (impl_NeededFuses.l0 k1 a0 l1 a2 y484 (l1.length : Int) (wrap64 (x23_1 + 1))) = some (r1, r2) := by first | (rw [hy484]; with_reducible exact H) | (have H2_ := (Option.bind_some _ _).symm.trans H; rw [hy484]; with_reducible exact H2_) | (have H2_ := (Option.bind_some _ _).symm.trans H; with_reducible exact H2_) | with_reducible exact H | (rw [hy484]; exact H) | exact H
         have Ny484 := Aside0.mk hy484
         clear hy484
         have H' := Aside0.mk H
         clear H
         go_wp2_with (first | ((with_reducible refine gate_callee (f := 35) rfl ?_); refine goesL_ (some 30) rfl rfl Try.func35 (by kernel_rfl) rfl #[.slice A1 l1.length c1, .int .i64 x23_1] rfl (by (try simp only [List.map_toArray, List.map_cons, List.map_nil]); first | done | rfl | (simp only [List.length_drop, List.length_take]; rfl)) ?_; (with_reducible refine (impl_withoutFuse.calls _ _ l1 x23_1 t474 _ ?side1 ?side2 A11.out).mono ?_); (case side1 => repeat (first | exact (Kd.C_below HR1.out HB.out) | (with_reducible refine Kd.C_alloc ?_ _) | (with_reducible refine Kd.C_drewN ?_ _) | (with_reducible refine Kd.C_drew ?_))); (case side2 => exact HC1.out); rintro e w17 ⟨v475, rfl, ho0, hb⟩; refine ⟨_, rfl, ?_⟩; have n0_ := Aside0.mk (Kd.R_below (by (with_reducible repeat (first | apply Kd.R_alloc | apply Kd.R_drewN | apply Kd.R_drew)); exact HO_9.out) hb); have n1_ := Aside0.mk (Kd.R_lower ho0 (below_size (by repeat (first | (with_reducible first | exact HB.out | apply below_alloc | apply pw_below_drewN | apply below_drew1) | exact HB.out)))); have n2_ := Aside0.mk (below_step (by repeat (first | (with_reducible first | exact HB.out | apply below_alloc | apply pw_below_drewN | apply below_drew1) | exact HB.out)) hb); clear HO_9; clear HB; have HO_9 := n0_; have HO476 := n1_; have HB := n2_; clear n0_ n1_ n2_; (try clear hb); (try clear hb2); (try clear hk); (try clear hi); (try clear ho0); obtain ⟨Ao18, co18, eo18⟩ := Kd.R_slice HO476.out; subst eo18) | ((with_reducible refine gate_callee (f := 31) rfl ?_); refine goesL_ (some 31) rfl rfl Try.func31 (by kernel_rfl) rfl #[.int .i64 a0, .slice Ao18 t474.length co18] rfl (by (try simp only [List.map_toArray, List.map_cons, List.map_nil]); first | done | rfl | (simp only [List.length_drop, List.length_take]; rfl)) ?_; (with_reducible refine (impl_litTimes.calls k1 a0 _ _ t474 t477 t478 _ ?side1 ?side2 A12.out).mono ?_); (case side1 => repeat (first | exact (Kd.R_reads' HO476.out).2.2 | (with_reducible refine Kd.C_alloc ?_ _) | (with_reducible refine Kd.C_drewN ?_ _) | (with_reducible refine Kd.C_drew ?_))); (case side2 => exact (Kd.R_reads' HO476.out).2.1); rintro e w19 ⟨v479, v481, rfl, ho0, ho1, hb⟩; refine ⟨_, rfl, ?_⟩; have n0_ := Aside0.mk (Kd.R_mono (Kd.R_told (Kd.R_told (Kd.R_old (by (with_reducible repeat (first | apply Kd.R_alloc | apply Kd.R_drewN | apply Kd.R_drew)); exact HO_9.out) hb) (Kd.R_base ho0)) (Kd.R_base ho1)) (fun _ h_ => h_.1)); have n1_ := Aside0.mk (Kd.R_below (by (with_reducible repeat (first | apply Kd.R_alloc | apply Kd.R_drewN | apply Kd.R_drew)); exact HO476.out) hb); have n2_ := Aside0.mk (Kd.R_lower (Kd.R_new' ho0 (Kd.R_lt (by (with_reducible repeat (first | apply Kd.R_alloc | apply Kd.R_drewN | apply Kd.R_drew)); exact HO_9.out))) (below_size (by repeat (first | (with_reducible first | exact HB.out | apply below_alloc | apply pw_below_drewN | apply below_drew1) | exact HB.out)))); have n3_ := Aside0.mk (Kd.R_lower (Kd.R_new' ho1 (Kd.R_lt (by (with_reducible repeat (first | apply Kd.R_alloc | apply Kd.R_drewN | apply Kd.R_drew)); exact HO_9.out))) (below_size (by repeat (first | (with_reducible first | exact HB.out | apply below_alloc | apply pw_below_drewN | apply below_drew1) | exact HB.out)))); have n4_ := Aside0.mk (below_step (by repeat (first | (with_reducible first | exact HB.out | apply below_alloc | apply pw_below_drewN | apply below_drew1) | exact HB.out)) hb); clear HO_9; clear HO476; clear HB; have HO_9 := n0_; have HO476 := n1_; have HO480 := n2_; have HO482 := n3_; have HB := n4_; clear n0_ n1_ n2_ n3_ n4_; (try clear hb); (try clear hb2); (try clear hk); (try clear hi); (try clear ho0); (try clear ho1); obtain ⟨Ao20, co20, eo20⟩ := Kd.R_slice HO480.out; subst eo20; have p483 : 0 ≤ (a2 : Int) := of_decide_eq_true (by first | (with_reducible assumption) | assumption); have q483 : a2 < (t477.length : Int) := of_decide_eq_true (by first | (with_reducible assumption) | assumption); obtain ⟨ad483, e483, hx483_0⟩ := Kd.at_int (Kd.R_reads' HO480.out).2.2 a2 p483 q483; cases e483; replace p483 := eq_true p483; replace q483 := eq_true q483) | ((with_reducible refine gate_builtin (b := .append) (xs := #[.tmp 39, .tmp 41]) rfl ?_); at_builtin; refine Kd.R_append (Kd.int .i64) (w0 := w) w.heap.size rfl (.tmp 39) (.tmp 41) 30 2 (.int .i64 0) 8 rfl Try.underlying30 info2 rfl (by decide) (by omega) u9 x9_1 x23_1 [.int .i64 x23_1] (fun k_ => some k_ ≠ (.slice (some ad483) t477.length co20 : Value).ownBlock ∧ some k_ ≠ (v481 : Value).ownBlock) (fun _ => False) rfl rfl ?aP (fun _ hk => hk.elim) ?aF ?aO ?aB ?aS ?aL ?_; (case aP => exact rfl); (case aB => exact (by repeat (first | (with_reducible first | exact HB.out | apply below_alloc | apply pw_below_drewN | apply below_drew1) | exact HB.out))); (case aF => exact (fun k_ hk => ⟨Kd.fresh' (Kd.R_lt (by (with_reducible repeat (first | apply Kd.R_alloc | apply Kd.R_drewN | apply Kd.R_drew)); exact HO480.out)) k_ hk, Kd.fresh' (Kd.R_lt (by (with_reducible repeat (first | apply Kd.R_alloc | apply Kd.R_drewN | apply Kd.R_drew)); exact HO482.out)) k_ hk⟩)); (case aO => exact (by (with_reducible repeat (first | apply Kd.R_alloc | apply Kd.R_drewN | apply Kd.R_drew)); exact Kd.R_mono HO_9.out (fun _ hk => ⟨hk.1.2, hk.2⟩))); (case aS => exact (below_size (by repeat (first | (with_reducible first | exact HB.out | apply below_alloc | apply pw_below_drewN | apply below_drew1) | exact HB.out)))); (case aL => have := LMc16.out; omega); intro v485 w21 ho hb hg hat; rw [← Ny484.out] at ho; have n0_ := Aside0.mk (Kd.R_over' (by (with_reducible repeat (first | apply Kd.R_alloc | apply Kd.R_drewN | apply Kd.R_drew)); exact HO476.out) (Kd.R_typed (by (with_reducible repeat (first | apply Kd.R_alloc | apply Kd.R_drewN | apply Kd.R_drew)); exact HO_9.out)) (by decide) hg); have n1_ := Aside0.mk (Kd.R_after (ok := (fun k_ => some k_ ≠ (v481 : Value).ownBlock)) (by (with_reducible repeat (first | apply Kd.R_alloc | apply Kd.R_drewN | apply Kd.R_drew)); exact HO480.out) hg hat); have n2_ := Aside0.mk (Kd.R_after (ok := (fun k_ => some k_ ≠ (.slice (some ad483) t477.length co20 : Value).ownBlock)) (by (with_reducible repeat (first | apply Kd.R_alloc | apply Kd.R_drewN | apply Kd.R_drew)); exact HO482.out) hg hat); have n3_ := Aside0.mk (hb); have n4_ := Aside0.mk (ho); clear HO476; clear HO480; clear HO482; clear HB; clear HO_9; have HO476 := n0_; have HO480 := n1_; have HO482 := n2_; have HB := n3_; have HO486 := n4_; clear n0_ n1_ n2_ n3_ n4_; clear ho hb hg hat))
         go_roundg k1
         case measure => have := HK1.out; omega
         case rel => exact ⟨(y484), (wrap64 (x23_1 + 1)), (by first | rfl | (simp; done) | (simp [*]; done)), H', ⟨by have := HK1.out; omega⟩, ⟨by (with_reducible repeat (first | apply Kd.R_alloc | apply Kd.R_drewN | apply Kd.R_drew)); exact Kd.R_mono HO486.out (fun _ hk => trivial)⟩, ⟨by repeat (first | (with_reducible first | exact HB.out | apply below_alloc | apply pw_below_drewN | apply below_drew1) | exact HB.out)⟩⟩
        ·rw [if_neg c16] at H
         exact absurd H (by simp)
       ·rw [if_neg c15] at H
        have c15b0 : decide ((rd t477 a2) < 0) = false := decide_eq_false c15
        clear c15
        have H' := Aside0.mk H
        clear H
        go_wp2_with (first | ((with_reducible refine gate_callee (f := 35) rfl ?_); refine goesL_ (some 30) rfl rfl Try.func35 (by kernel_rfl) rfl #[.slice A1 l1.length c1, .int .i64 x23_1] rfl (by (try simp only [List.map_toArray, List.map_cons, List.map_nil]); first | done | rfl | (simp only [List.length_drop, List.length_take]; rfl)) ?_; (with_reducible refine (impl_withoutFuse.calls _ _ l1 x23_1 t474 _ ?side1 ?side2 A11.out).mono ?_); (case side1 => repeat (first | exact (Kd.C_below HR1.out HB.out) | (with_reducible refine Kd.C_alloc ?_ _) | (with_reducible refine Kd.C_drewN ?_ _) | (with_reducible refine Kd.C_drew ?_))); (case side2 => exact HC1.out); rintro e w22 ⟨v475, rfl, ho0, hb⟩; refine ⟨_, rfl, ?_⟩; have n0_ := Aside0.mk (Kd.R_below (by (with_reducible repeat (first | apply Kd.R_alloc | apply Kd.R_drewN | apply Kd.R_drew)); exact HO_9.out) hb); have n1_ := Aside0.mk (Kd.R_lower ho0 (below_size (by repeat (first | (with_reducible first | exact HB.out | apply below_alloc | apply pw_below_drewN | apply below_drew1) | exact HB.out)))); have n2_ := Aside0.mk (below_step (by repeat (first | (with_reducible first | exact HB.out | apply below_alloc | apply pw_below_drewN | apply below_drew1) | exact HB.out)) hb); clear HO_9; clear HB; have HO_9 := n0_; have HO476 := n1_; have HB := n2_; clear n0_ n1_ n2_; (try clear hb); (try clear hb2); (try clear hk); (try clear hi); (try clear ho0); obtain ⟨Ao23, co23, eo23⟩ := Kd.R_slice HO476.out; subst eo23) | ((with_reducible refine gate_callee (f := 31) rfl ?_); refine goesL_ (some 31) rfl rfl Try.func31 (by kernel_rfl) rfl #[.int .i64 a0, .slice Ao23 t474.length co23] rfl (by (try simp only [List.map_toArray, List.map_cons, List.map_nil]); first | done | rfl | (simp only [List.length_drop, List.length_take]; rfl)) ?_; (with_reducible refine (impl_litTimes.calls k1 a0 _ _ t474 t477 t478 _ ?side1 ?side2 A12.out).mono ?_); (case side1 => repeat (first | exact (Kd.R_reads' HO476.out).2.2 | (with_reducible refine Kd.C_alloc ?_ _) | (with_reducible refine Kd.C_drewN ?_ _) | (with_reducible refine Kd.C_drew ?_))); (case side2 => exact (Kd.R_reads' HO476.out).2.1); rintro e w24 ⟨v479, v481, rfl, ho0, ho1, hb⟩; refine ⟨_, rfl, ?_⟩; have n0_ := Aside0.mk (Kd.R_mono (Kd.R_told (Kd.R_told (Kd.R_old (by (with_reducible repeat (first | apply Kd.R_alloc | apply Kd.R_drewN | apply Kd.R_drew)); exact HO_9.out) hb) (Kd.R_base ho0)) (Kd.R_base ho1)) (fun _ h_ => h_.1)); have n1_ := Aside0.mk (Kd.R_below (by (with_reducible repeat (first | apply Kd.R_alloc | apply Kd.R_drewN | apply Kd.R_drew)); exact HO476.out) hb); have n2_ := Aside0.mk (Kd.R_lower (Kd.R_new' ho0 (Kd.R_lt (by (with_reducible repeat (first | apply Kd.R_alloc | apply Kd.R_drewN | apply Kd.R_drew)); exact HO_9.out))) (below_size (by repeat (first | (with_reducible first | exact HB.out | apply below_alloc | apply pw_below_drewN | apply below_drew1) | exact HB.out)))); have n3_ := Aside0.mk (Kd.R_lower (Kd.R_new' ho1 (Kd.R_lt (by (with_reducible repeat (first | apply Kd.R_alloc | apply Kd.R_drewN | apply Kd.R_drew)); exact HO_9.out))) (below_size (by repeat (first | (with_reducible first | exact HB.out | apply below_alloc | apply pw_below_drewN | apply below_drew1) | exact HB.out)))); have n4_ := Aside0.mk (below_step (by repeat (first | (with_reducible first | exact HB.out | apply below_alloc | apply pw_below_drewN | apply below_drew1) | exact HB.out)) hb); clear HO_9; clear HO476; clear HB; have HO_9 := n0_; have HO476 := n1_; have HO480 := n2_; have HO482 := n3_; have HB := n4_; clear n0_ n1_ n2_ n3_ n4_; (try clear hb); (try clear hb2); (try clear hk); (try clear hi); (try clear ho0); (try clear ho1); obtain ⟨Ao25, co25, eo25⟩ := Kd.R_slice HO480.out; subst eo25; have p483 : 0 ≤ (a2 : Int) := of_decide_eq_true (by first | (with_reducible assumption) | assumption); have q483 : a2 < (t477.length : Int) := of_decide_eq_true (by first | (with_reducible assumption) | assumption); obtain ⟨ad483, e483, hx483_0⟩ := Kd.at_int (Kd.R_reads' HO480.out).2.2 a2 p483 q483; cases e483; replace p483 := eq_true p483; replace q483 := eq_true q483))
        go_roundg k1
        case measure => have := HK1.out; omega
        case rel => exact ⟨(x9_1), (wrap64 (x23_1 + 1)), (by first | rfl | (simp; done) | (simp [*]; done)), H', ⟨by have := HK1.out; omega⟩, ⟨by (with_reducible repeat (first | apply Kd.R_alloc | apply Kd.R_drewN | apply Kd.R_drew)); exact Kd.R_mono HO_9.out (fun _ hk => trivial)⟩, ⟨by repeat (first | (with_reducible first | exact HB.out | apply below_alloc | apply pw_below_drewN | apply below_drew1) | exact HB.out)⟩⟩
      ·rw [if_neg c14] at H
       exact absurd H (by simp)
     ·rw [if_neg c13] at H
      exact absurd H (by simp)
    ·rw [if_neg c10] at H
     have c10b0 : decide (x23_1 < (l1.length : Int)) = false := decide_eq_false c10
     clear c10
     simp only [Option.some.injEq, Prod.mk.injEq] at H
     obtain ⟨rfl, rfl⟩ := H
     go_wp2
     go_ret2
     exact ⟨_, by first | rfl | (simp [errW_none, errW_some] <;> rfl) | (simp [*, errW_none, errW_some] <;> rfl), by (with_reducible repeat (first | apply Kd.R_alloc | apply Kd.R_drewN | apply Kd.R_drew)); exact HO_9.out, by repeat (first | (with_reducible first | exact HB.out | apply below_alloc | apply pw_below_drewN | apply below_drew1) | exact HB.out)⟩
 ·rw [if_neg c5] at H
  have c5b0 : (t473 == 0) = false := beq_eq_false_iff_ne.mpr c5
  have c5b1 : (t473 != 0) = true := bne_iff_ne.mpr c5
  simp only [Option.some.injEq, Prod.mk.injEq] at H
  obtain ⟨rfl, rfl⟩ := H
  go_enter Try.func22, Try.ntmps22
  go_wp2_with (first | ((with_reducible refine gate_dst (N := 16) rfl ?_); refine Kd.R_lit (Kd.int .i64) _ 2 ?hg (N := 16) ?hd (xs := ([a2] : List Int)) (inner := [.int .i64 a2]) (ok := fun _ => True) (okp := fun _ => True) ?hr ?hp (fun _ hk => hk) trivial (Below.refl _ _) (Nat.le_refl _) (by simp) ?_; (case hd => rfl); (case hg => rfl); (case hr => first | (go_simp; done) | (go_simp; rfl)); (case hp => exact (Reps.one (show Kd.M (Kd.int .i64) _ _ _ a2 [.int .i64 a2] from rfl) (Reps.none _ _))); intro v471 w26 ho27 hb hg_ hnew_; clear hg_ hnew_; (first | rw [← Ny470.out] at ho27 | (simp only [Int.reduceToNat] at ho27; rw [← Ny470.out] at ho27)); have n0_ := Aside0.mk (Kd.R_lower ho27 (below_size (by repeat (first | (with_reducible first | exact HB.out | apply below_alloc | apply pw_below_drewN | apply below_drew1) | exact HB.out)))); have n1_ := Aside0.mk (below_step (by repeat (first | (with_reducible first | exact HB.out | apply below_alloc | apply pw_below_drewN | apply below_drew1) | exact HB.out)) hb); clear HB; have HO472 := n0_; have HB := n1_; clear n0_ n1_; clear hb ho27; obtain ⟨Ao28, co28, eo28⟩ := Kd.R_slice HO472.out; subst eo28) | ((with_reducible refine gate_callee (f := 30) rfl ?_); refine goesL_ (some 17) rfl rfl Try.func30 (by kernel_rfl) rfl #[.int .i64 a0, .slice A1 l1.length c1, .slice Ao28 y470.length co28] rfl (by (try simp only [List.map_toArray, List.map_cons, List.map_nil]); first | done | rfl | (simp only [List.length_drop, List.length_take]; rfl)) ?_; (with_reducible refine (impl_nodeAsked.calls k a0 _ _ l1 _ _ y470 t473 _ ?side1 ?side2 ?side3 ?side4 A4.out).mono ?_); (case side1 => repeat (first | exact (Kd.C_below HR1.out HB.out) | (with_reducible refine Kd.C_alloc ?_ _) | (with_reducible refine Kd.C_drewN ?_ _) | (with_reducible refine Kd.C_drew ?_))); (case side2 => exact HC1.out); (case side3 => repeat (first | exact (Kd.R_reads' HO472.out).2.2 | (with_reducible refine Kd.C_alloc ?_ _) | (with_reducible refine Kd.C_drewN ?_ _) | (with_reducible refine Kd.C_drew ?_))); (case side4 => exact (Kd.R_reads' HO472.out).2.1); rintro e w29 ⟨rfl, hb⟩; refine ⟨_, rfl, ?_⟩; have n0_ := Aside0.mk (Kd.R_below (by (with_reducible repeat (first | apply Kd.R_alloc | apply Kd.R_drewN | apply Kd.R_drew)); exact HO472.out) hb); have n1_ := Aside0.mk (below_step (by repeat (first | (with_reducible first | exact HB.out | apply below_alloc | apply pw_below_drewN | apply below_drew1) | exact HB.out)) hb); clear HO472; clear HB; have HO472 := n0_; have HB := n1_; clear n0_ n1_; (try clear hb); (try clear hb2); (try clear hk); (try clear hi)))
  go_ret2
  exact ⟨_, by first | rfl | (simp [errW_none, errW_some] <;> rfl) | (simp [*, errW_none, errW_some] <;> rfl), by first | exact Kd.R_nil _ _ _ _ _ | exact Kd.N_nil _ _ _ _ _ | exact Kd.V_nil _ _ _ _ _ | exact Kd.Q_nil _ _ _ _ _ | exact Kd.S_nil _ _ _ _ _, by repeat (first | (with_reducible first | exact HB.out | apply below_alloc | apply pw_below_drewN | apply below_drew1) | exact HB.out)⟩
end Go.Proofs.Ytipgcjonidlloaa.F
namespace Go.Proofs.Ytipgcjonidlloaa.F
open Go.RowKit Go.Proofs.YtipgcjonidlloaaW.PrintWords Go.Proofs.YtipgcjonidlloaaW.PrintLast Go.Proofs.YtipgcjonidlloaaW.PrintMore
attribute [local go_sem] max2_int min2_int max_two min_two max_three min_three max_four min_four   -- for this text's walks alone
set_option linter.unusedVariables false
set_option linter.unusedSimpArgs false
def laws_eqInt64S.l0 : Nat → List Int → List Int → Int → Option (Bool)
 | 0, _, _, _ => none
 | k + 1, x0, x1, x5 => if x5 < (x0.length : Int) then (if 0 ≤ x5 then (if x5 < (x1.length : Int) then (if (rd x0 x5) = (rd x1 x5) then (laws_eqInt64S.l0 k x0 x1 (wrap64 (x5 + 1))) else (some false)) else (none)) else (none)) else (some true)
def laws_eqInt64S.f (k : Nat) (l0 : List Int) (l1 : List Int) : Option (Bool) := if (l0.length : Int) = (l1.length : Int) then (laws_eqInt64S.l0 k l0 l1 0) else (some false)
theorem laws_eqInt64S.mono_l : ∀ k, (∀ y0 y1 y2, LeO (laws_eqInt64S.l0 k y0 y1 y2) (laws_eqInt64S.l0 (k + 1) y0 y1 y2))
 | 0 => fun _ _ _ r h => by simp [laws_eqInt64S.l0] at h
 | k + 1 => by
  have ih0 := laws_eqInt64S.mono_l k
  ·intro y0 y1 y2
   unfold laws_eqInt64S.l0
   repeat' first
   | (with_reducible exact ih0 _ _ _)
   | (with_reducible exact LeO.refl _)
   | (with_reducible exact LeO.none _)
   | (with_reducible refine LeO.ite ?_ ?_)
   | (with_reducible refine LeO.bind ?_ (fun _ => ?_))
   | exact ih0 _ _ _
   | exact LeO.none _
   | refine LeO.ite ?_ ?_
   | refine LeO.bind ?_ (fun _ => ?_)
theorem laws_eqInt64S.mono : ∀ a0 a1 k, LeO (laws_eqInt64S.f k a0 a1) (laws_eqInt64S.f (k + 1) a0 a1) := by
 intro a0 a1 k
 have ih0 := laws_eqInt64S.mono_l k
 unfold laws_eqInt64S.f
 repeat' first
   | (with_reducible exact ih0 _ _ _)
   | (with_reducible exact LeO.refl _)
   | (with_reducible exact LeO.none _)
   | (with_reducible refine LeO.ite ?_ ?_)
   | (with_reducible refine LeO.bind ?_ (fun _ => ?_))
   | exact ih0 _ _ _
   | exact LeO.none _
   | refine LeO.ite ?_ ?_
   | refine LeO.bind ?_ (fun _ => ?_)
set_option maxHeartbeats 8000000 in
set_option maxRecDepth 100000 in
theorem laws_eqInt64S.calls (k : Nat) (A0 : Option Addr) (c0 : Nat) (l0 : List Int) (A1 : Option Addr) (c1 : Nat) (l1 : List Int) (r : Bool) (w : World) (hr0 : Kd.C (Kd.int .i64) w A0 l0.length l0) (hc0 : l0.length ≤ c0) (hr1 : Kd.C (Kd.int .i64) w A1 l1.length l1) (hc1 : l1.length ≤ c1) (h : laws_eqInt64S.f k l0 l1 = some r) :
  Calls Try.prog 15 #[.slice A0 l0.length c0, .slice A1 l1.length c1] w fun e w' => e = .returned (.bool r) ∧ Drawn0 w w' := by
 have HR0 := Aside0.mk hr0
 have HC0 := Aside0.mk hc0
 clear hr0 hc0
 have HR1 := Aside0.mk hr1
 have HC1 := Aside0.mk hc1
 clear hr1 hc1
 have H : (if (l0.length : Int) = (l1.length : Int) then (laws_eqInt64S.l0 k l0 l1 0) else (some false)) = some r := h
 clear h
 by_cases c3 : (l0.length : Int) = (l1.length : Int)
 ·rw [if_pos c3] at H
  have c3b0 : ((l0.length : Int) == (l1.length : Int)) = true := beq_iff_eq.mpr c3
  have c3b1 : ((l0.length : Int) != (l1.length : Int)) = false := bne_eq_false_iff_eq.mpr c3
  have c3b2 : (l0.length == l1.length) = true := by first | simpa using c3 | (simp at c3 ⊢; omega)
  clear c3
  have H' := Aside0.mk H
  clear H
  go_enter Try.func15, Try.ntmps15
  go_wp2
  repeat (go_quiet (fail); try go_wp2)
  go_loopg [5] k (fun kq v5 w' => ∃ (x5_1 : Int), v5 = .int .i64 x5_1 ∧ Aside0 (laws_eqInt64S.l0 kq l0 l1 x5_1 = some r) ∧ Aside0 (kq ≤ k) ∧ Drawn0 w w')
  case atStart => exact ⟨(0), (by first | rfl | (simp; done) | (simp [*]; done)), H', ⟨Nat.le_refl _⟩, by repeat (first | exact Drawn0.refl _ | apply Drawn0.step)⟩
  case round =>
   clear H'
   try clear c1
   try clear p2
   try clear c3
   try clear c3b0
   try clear c3b1
   try clear c3b2
   obtain ⟨x5_1, rfl, HA, HK1, ⟨m1, rfl⟩⟩ := hrel
   cases gk with
   | zero => exact absurd HA.out (by simp [laws_eqInt64S.l0])
   | succ k1 =>
    have H := HA.out
    clear HA
    simp only [laws_eqInt64S.l0] at H
    by_cases c4 : x5_1 < (l0.length : Int)
    ·rw [if_pos c4] at H
     have c4b0 : decide (x5_1 < (l0.length : Int)) = true := decide_eq_true c4
     clear c4
     by_cases c5 : 0 ≤ x5_1
     ·rw [if_pos c5] at H
      have c5b0 : decide (0 ≤ x5_1) = true := decide_eq_true c5
      clear c5
      by_cases c6 : x5_1 < (l1.length : Int)
      ·rw [if_pos c6] at H
       have c6b0 : decide (x5_1 < (l1.length : Int)) = true := decide_eq_true c6
       clear c6
       by_cases c7 : (rd l0 x5_1) = (rd l1 x5_1)
       ·rw [if_pos c7] at H
        have c7b0 : ((rd l0 x5_1) == (rd l1 x5_1)) = true := beq_iff_eq.mpr c7
        have c7b1 : ((rd l0 x5_1) != (rd l1 x5_1)) = false := bne_eq_false_iff_eq.mpr c7
        clear c7
        have H' := Aside0.mk H
        clear H
        have p302 : 0 ≤ (x5_1 : Int) := of_decide_eq_true (by first | (with_reducible assumption) | assumption)
        have q302 : x5_1 < (l0.length : Int) := of_decide_eq_true (by first | (with_reducible assumption) | assumption)
        obtain ⟨ad302, e302, hx302_0⟩ := Kd.at_int HR0.out x5_1 p302 q302
        cases e302
        replace p302 := eq_true p302
        replace q302 := eq_true q302
        have p303 : 0 ≤ (x5_1 : Int) := of_decide_eq_true (by first | (with_reducible assumption) | assumption)
        have q303 : x5_1 < (l1.length : Int) := of_decide_eq_true (by first | (with_reducible assumption) | assumption)
        obtain ⟨ad303, e303, hx303_0⟩ := Kd.at_int HR1.out x5_1 p303 q303
        cases e303
        replace p303 := eq_true p303
        replace q303 := eq_true q303
        go_wp2
        repeat (go_quiet (fail); try go_wp2)
        go_roundg k1
        case measure => have := HK1.out; omega
        case rel => exact ⟨(wrap64 (x5_1 + 1)), (by first | rfl | (simp; done) | (simp [*]; done)), H', ⟨by have := HK1.out; omega⟩, by repeat (first | exact Drawn0.refl _ | apply Drawn0.step)⟩
       ·rw [if_neg c7] at H
        have c7b0 : ((rd l0 x5_1) == (rd l1 x5_1)) = false := beq_eq_false_iff_ne.mpr c7
        have c7b1 : ((rd l0 x5_1) != (rd l1 x5_1)) = true := bne_iff_ne.mpr c7
        obtain rfl := Option.some.inj H
        have p302 : 0 ≤ (x5_1 : Int) := of_decide_eq_true (by first | (with_reducible assumption) | assumption)
        have q302 : x5_1 < (l0.length : Int) := of_decide_eq_true (by first | (with_reducible assumption) | assumption)
        obtain ⟨ad302, e302, hx302_0⟩ := Kd.at_int HR0.out x5_1 p302 q302
        cases e302
        replace p302 := eq_true p302
        replace q302 := eq_true q302
        have p303 : 0 ≤ (x5_1 : Int) := of_decide_eq_true (by first | (with_reducible assumption) | assumption)
        have q303 : x5_1 < (l1.length : Int) := of_decide_eq_true (by first | (with_reducible assumption) | assumption)
        obtain ⟨ad303, e303, hx303_0⟩ := Kd.at_int HR1.out x5_1 p303 q303
        cases e303
        replace p303 := eq_true p303
        replace q303 := eq_true q303
        go_wp2
        repeat (go_quiet (fail); try go_wp2)
        go_ret
        exact ⟨by first | rfl | (simp; done) | (simp [*]; done), by repeat (first | exact Drawn0.refl _ | apply Drawn0.step)⟩
      ·rw [if_neg c6] at H
       exact absurd H (by simp)
     ·rw [if_neg c5] at H
      exact absurd H (by simp)
    ·rw [if_neg c4] at H
     have c4b0 : decide (x5_1 < (l0.length : Int)) = false := decide_eq_false c4
     clear c4
     obtain rfl := Option.some.inj H
     go_wp2
     repeat (go_quiet (fail); try go_wp2)
     go_ret
     exact ⟨by first | rfl | (simp; done) | (simp [*]; done), by repeat (first | exact Drawn0.refl _ | apply Drawn0.step)⟩
 ·rw [if_neg c3] at H
  have c3b0 : ((l0.length : Int) == (l1.length : Int)) = false := beq_eq_false_iff_ne.mpr c3
  have c3b1 : ((l0.length : Int) != (l1.length : Int)) = true := bne_iff_ne.mpr c3
  have c3b2 : (l0.length == l1.length) = false := by first | simpa using c3 | (simp at c3 ⊢; omega)
  obtain rfl := Option.some.inj H
  go_enter Try.func15, Try.ntmps15
  go_wp2
  repeat (go_quiet (fail); try go_wp2)
  go_ret
  exact ⟨by first | rfl | (simp; done) | (simp [*]; done), by repeat (first | exact Drawn0.refl _ | apply Drawn0.step)⟩
def laws_markInt64S.l0 : Nat → List Int → Int → Int → Option (Int × List Int)
 | 0, _, _, _ => none
 | k + 1, x0, x1, x5 => if x5 < (x0.length : Int) then (if 0 ≤ x5 then (laws_markInt64S.l0 k (x0.set (x5 : Int).toNat x1) (wrap64 (x1 + 1)) (wrap64 (x5 + 1))) else (none)) else (some (x1, x0))
def laws_markInt64S.f (k : Nat) (l0 : List Int) (a1 : Int) : Option (Int × List Int) := laws_markInt64S.l0 k l0 a1 0
theorem laws_markInt64S.mono_l : ∀ k, (∀ y0 y1 y2, LeO (laws_markInt64S.l0 k y0 y1 y2) (laws_markInt64S.l0 (k + 1) y0 y1 y2))
 | 0 => fun _ _ _ r h => by simp [laws_markInt64S.l0] at h
 | k + 1 => by
  have ih0 := laws_markInt64S.mono_l k
  ·intro y0 y1 y2
   unfold laws_markInt64S.l0
   repeat' first
   | (with_reducible exact ih0 _ _ _)
   | (with_reducible exact LeO.refl _)
   | (with_reducible exact LeO.none _)
   | (with_reducible refine LeO.ite ?_ ?_)
   | (with_reducible refine LeO.bind ?_ (fun _ => ?_))
   | exact ih0 _ _ _
   | exact LeO.none _
   | refine LeO.ite ?_ ?_
   | refine LeO.bind ?_ (fun _ => ?_)
theorem laws_markInt64S.mono : ∀ a0 a1 k, LeO (laws_markInt64S.f k a0 a1) (laws_markInt64S.f (k + 1) a0 a1) := by
 intro a0 a1 k
 have ih0 := laws_markInt64S.mono_l k
 unfold laws_markInt64S.f
 repeat' first
   | (with_reducible exact ih0 _ _ _)
   | (with_reducible exact LeO.refl _)
   | (with_reducible exact LeO.none _)
   | (with_reducible refine LeO.ite ?_ ?_)
   | (with_reducible refine LeO.bind ?_ (fun _ => ?_))
   | exact ih0 _ _ _
   | exact LeO.none _
   | refine LeO.ite ?_ ?_
   | refine LeO.bind ?_ (fun _ => ?_)
set_option maxHeartbeats 8000000 in
set_option maxRecDepth 100000 in
theorem laws_markInt64S.calls (k : Nat) (P0_ : Nat → Prop) (u9000_ : Value) (l0 : List Int) (a1 : Int) (r1 : Int) (r2 : List Int) (w0 w : World) (hB : Below w0.heap.size w0 w) (ho0 : Kd.R (Kd.int .i64) 2 w w0.heap.size P0_ u9000_ l0) (h : laws_markInt64S.f k l0 a1 = some (r1, r2)) :
  Calls Try.prog 17 #[u9000_, .int .i64 a1] w fun e w' => e = .returned (.int .i64 r1) ∧ Kd.R (Kd.int .i64) 2 w' w0.heap.size (fun k_ => (P0_ k_ ∨ w.heap.size ≤ k_)) u9000_ r2 ∧ Below w0.heap.size w0 w' ∧ Kept w w' (fun k_ => P0_ k_) := by
 have HO0 := Aside0.mk (show Kd.R (Kd.int .i64) 2 w w0.heap.size (fun k_ => (P0_ k_ ∨ w.heap.size ≤ k_)) u9000_ l0 from Kd.R_mono ho0 (fun k_ hk => (.inl hk)))
 have HK := Aside0.mk (Kept.refl w (fun k_ => P0_ k_))
 have HW0 := Aside0.mk hB.size
 have HB := Aside0.mk hB
 clear hB
 have H : (laws_markInt64S.l0 k l0 a1 0) = some (r1, r2) := h
 clear h
 have H' := Aside0.mk H
 clear H
 go_enter Try.func17, Try.ntmps17
 go_wp2
 go_loopg [1, 5] k (fun kq v1 v5 w' => ∃ (x0_1 : List Int) (x1_1 : Int) (x5_1 : Int), v1 = .int .i64 x1_1 ∧ v5 = .int .i64 x5_1 ∧ Aside0 (laws_markInt64S.l0 kq x0_1 x1_1 x5_1 = some (r1, r2)) ∧ Aside0 (kq ≤ k) ∧ Aside0 (Kd.R (Kd.int .i64) 2 w' w0.heap.size (fun k_ => (P0_ k_ ∨ w.heap.size ≤ k_)) u9000_ x0_1) ∧ Aside0 (Kept w w' (fun k_ => P0_ k_)) ∧ Aside0 (Below w0.heap.size w0 w'))
 case atStart => exact ⟨(l0), (a1), (0), (by first | rfl | (simp; done) | (simp [*]; done)), (by first | rfl | (simp; done) | (simp [*]; done)), H', ⟨Nat.le_refl _⟩, ⟨by (with_reducible repeat (first | apply Kd.R_alloc | apply Kd.R_drewN | apply Kd.R_drew)); exact HO0.out⟩, ⟨by repeat (first | (with_reducible first | exact HK.out | apply Kept.alloc | apply Kept.drewN | apply Kept.drew) | exact HK.out)⟩, ⟨by repeat (first | (with_reducible first | exact HB.out | apply below_alloc | apply pw_below_drewN | apply below_drew1) | exact HB.out)⟩⟩
 case round =>
  clear H'
  try clear c1
  try clear p2
  obtain ⟨x0_1, x1_1, x5_1, rfl, rfl, HA, HK1, HO_0, HK, HB⟩ := hrel
  cases gk with
  | zero => exact absurd HA.out (by simp [laws_markInt64S.l0])
  | succ k1 =>
   have H := HA.out
   clear HA
   simp only [laws_markInt64S.l0] at H
   by_cases c3 : x5_1 < (x0_1.length : Int)
   ·rw [if_pos c3] at H
    have c3b0 : decide (x5_1 < (x0_1.length : Int)) = true := decide_eq_true c3
    clear c3
    by_cases c4 : 0 ≤ x5_1
    ·rw [if_pos c4] at H
     have c4b0 : decide (0 ≤ x5_1) = true := decide_eq_true c4
     clear c4
     obtain ⟨y308, hy308⟩ : ∃ y_ : List Int, y_ = (x0_1.set (x5_1 : Int).toNat x1_1) := ⟨_, rfl⟩
     replace H : (laws_markInt64S.l0 k1 y308 (wrap64 (x1_1 + 1)) (wrap64 (x5_1 + 1))) = some (r1, r2) := by first | (rw [hy308]; with_reducible exact H) | (have H2_ := (Option.bind_some _ _).symm.trans H; rw [hy308]; with_reducible exact H2_) | (have H2_ := (Option.bind_some _ _).symm.trans H; with_reducible exact H2_) | with_reducible exact H | (rw [hy308]; exact H) | exact H
     have Ny308 := Aside0.mk hy308
     clear hy308
     have H' := Aside0.mk H
     clear H
     obtain ⟨Ao6, co6, eo6⟩ := Kd.R_slice HO_0.out
     subst eo6
     have p5 : 0 ≤ (x5_1 : Int) := of_decide_eq_true (by first | (with_reducible assumption) | assumption)
     have q5 : (x5_1 : Int) < ((x0_1.length : Int) : Int) := of_decide_eq_true (by first | (with_reducible assumption) | assumption)
     obtain ⟨go5, co5, eo5, gb5, gl5, cl5, HG5⟩ := Kd.R_form HO_0.out (by omega)
     (first | cases eo5 | (injection eo5 with ea_ en_ ec_; (first | subst ea_ | (injection ea_ with ea_; subst ea_)); subst ec_; clear en_))
     have GB5 := Aside0.mk gb5
     have GG5 := Aside0.mk HG5
     clear gb5 gl5 HG5
     have HMgo5 := Aside0.mk (show (P0_ go5 ∨ w.heap.size ≤ go5) from (HO_0.out.1 _ rfl))
     obtain ⟨hx5_0, hf5_0⟩ := Kd.R_celln 0 HO_0.out (x5_1 : Int) p5 q5
     replace p5 := eq_true p5
     replace q5 := eq_true q5
     have HP7 := Kd.R_putg HO_0.out (x5_1 : Int) x1_1
     go_wp2_with (first | ((with_reducible refine gate_store (t := 2) (p := 15) rfl ?_); refine store_event (t := 2) (p := 15) (v := ?vo_w8) (w1 := (wr.setCell ⟨go5, (x5_1 : Int).toNat, none⟩ (.int .i64 x1_1))) ?hg ?ho ?hn ?hr ?_; (case ho => rfl); (case hg => rfl); (case hn => rfl); (case hr => first | (go_simp; done) | (go_simp; rfl)); intro w8 hw; have hg : wr.grownBy w8 (some go5) := (by rw [hw]; exact HP7.2); have hp_ : Kd.R (Kd.int .i64) 2 w8 w0.heap.size (fun k_ => (P0_ k_ ∨ w.heap.size ≤ k_)) (.slice (some ⟨go5, 0, none⟩) x0_1.length co6) y308 := (by rw [hw, Ny308.out]; exact HP7.1); clear HP7; have n0_ := Aside0.mk (hp_); have n1_ := Aside0.mk ((by rw [hw]; exact below_set (HB.out) GB5.out : Below w0.heap.size w0 w8)); have n2_ := Aside0.mk (Kept.of_grown (S := (fun k_ => P0_ k_)) hg (by repeat (first | (with_reducible first | exact HK.out | apply Kept.alloc | apply Kept.drewN | apply Kept.drew) | exact HK.out)) (fun k_ e_ => (HO_0.out.1 k_ e_))); clear HO_0; clear HB; clear HK; have HO_0 := n0_; have HB := n1_; have HK := n2_; clear n0_ n1_ n2_; clear hg hw hp_))
     go_roundg k1
     case measure => have := HK1.out; omega
     case rel => exact ⟨(y308), (wrap64 (x1_1 + 1)), (wrap64 (x5_1 + 1)), (by first | rfl | (simp; done) | (simp [*]; done)), (by first | rfl | (simp; done) | (simp [*]; done)), H', ⟨by have := HK1.out; omega⟩, ⟨by (with_reducible repeat (first | apply Kd.R_alloc | apply Kd.R_drewN | apply Kd.R_drew)); exact HO_0.out⟩, ⟨by repeat (first | (with_reducible first | exact HK.out | apply Kept.alloc | apply Kept.drewN | apply Kept.drew) | exact HK.out)⟩, ⟨by repeat (first | (with_reducible first | exact HB.out | apply below_alloc | apply pw_below_drewN | apply below_drew1) | exact HB.out)⟩⟩
    ·rw [if_neg c4] at H
     exact absurd H (by simp)
   ·rw [if_neg c3] at H
    have c3b0 : decide (x5_1 < (x0_1.length : Int)) = false := decide_eq_false c3
    clear c3
    simp only [Option.some.injEq, Prod.mk.injEq] at H
    obtain ⟨rfl, rfl⟩ := H
    obtain ⟨Ao9, co9, eo9⟩ := Kd.R_slice HO_0.out
    subst eo9
    go_wp2
    go_ret
    exact ⟨by first | rfl | (simp [errW_none, errW_some] <;> rfl) | (simp [*, errW_none, errW_some] <;> rfl), by (with_reducible repeat (first | apply Kd.R_alloc | apply Kd.R_drewN | apply Kd.R_drew)); exact HO_0.out, by repeat (first | (with_reducible first | exact HB.out | apply below_alloc | apply pw_below_drewN | apply below_drew1) | exact HB.out), by repeat (first | (with_reducible first | exact HK.out | apply Kept.alloc | apply Kept.drewN | apply Kept.drew) | exact HK.out)⟩
def laws_heldInt64S.l0 : Nat → List Int → Int → Int → Option (Int)
 | 0, _, _, _ => none
 | k + 1, x0, x1, x5 => if x5 < (x0.length : Int) then (if 0 ≤ x5 then (if (rd x0 x5) = x1 then (laws_heldInt64S.l0 k x0 (wrap64 (x1 + 1)) (wrap64 (x5 + 1))) else (some (-1))) else (none)) else (some x1)
def laws_heldInt64S.f (k : Nat) (l0 : List Int) (a1 : Int) : Option (Int) := laws_heldInt64S.l0 k l0 a1 0
theorem laws_heldInt64S.mono_l : ∀ k, (∀ y0 y1 y2, LeO (laws_heldInt64S.l0 k y0 y1 y2) (laws_heldInt64S.l0 (k + 1) y0 y1 y2))
 | 0 => fun _ _ _ r h => by simp [laws_heldInt64S.l0] at h
 | k + 1 => by
  have ih0 := laws_heldInt64S.mono_l k
  ·intro y0 y1 y2
   unfold laws_heldInt64S.l0
   repeat' first
   | (with_reducible exact ih0 _ _ _)
   | (with_reducible exact LeO.refl _)
   | (with_reducible exact LeO.none _)
   | (with_reducible refine LeO.ite ?_ ?_)
   | (with_reducible refine LeO.bind ?_ (fun _ => ?_))
   | exact ih0 _ _ _
   | exact LeO.none _
   | refine LeO.ite ?_ ?_
   | refine LeO.bind ?_ (fun _ => ?_)
theorem laws_heldInt64S.mono : ∀ a0 a1 k, LeO (laws_heldInt64S.f k a0 a1) (laws_heldInt64S.f (k + 1) a0 a1) := by
 intro a0 a1 k
 have ih0 := laws_heldInt64S.mono_l k
 unfold laws_heldInt64S.f
 repeat' first
   | (with_reducible exact ih0 _ _ _)
   | (with_reducible exact LeO.refl _)
   | (with_reducible exact LeO.none _)
   | (with_reducible refine LeO.ite ?_ ?_)
   | (with_reducible refine LeO.bind ?_ (fun _ => ?_))
   | exact ih0 _ _ _
   | exact LeO.none _
   | refine LeO.ite ?_ ?_
   | refine LeO.bind ?_ (fun _ => ?_)
set_option maxHeartbeats 8000000 in
set_option maxRecDepth 100000 in
theorem laws_heldInt64S.calls (k : Nat) (A0 : Option Addr) (c0 : Nat) (l0 : List Int) (a1 : Int) (r : Int) (w : World) (hr0 : Kd.C (Kd.int .i64) w A0 l0.length l0) (hc0 : l0.length ≤ c0) (h : laws_heldInt64S.f k l0 a1 = some r) :
  Calls Try.prog 18 #[.slice A0 l0.length c0, .int .i64 a1] w fun e w' => e = .returned (.int .i64 r) ∧ Drawn0 w w' := by
 have HR0 := Aside0.mk hr0
 have HC0 := Aside0.mk hc0
 clear hr0 hc0
 have H : (laws_heldInt64S.l0 k l0 a1 0) = some r := h
 clear h
 have H' := Aside0.mk H
 clear H
 go_enter Try.func18, Try.ntmps18
 go_wp2
 go_loopg [1, 5] k (fun kq v1 v5 w' => ∃ (x1_1 : Int) (x5_1 : Int), v1 = .int .i64 x1_1 ∧ v5 = .int .i64 x5_1 ∧ Aside0 (laws_heldInt64S.l0 kq l0 x1_1 x5_1 = some r) ∧ Aside0 (kq ≤ k) ∧ Drawn0 w w')
 case atStart => exact ⟨(a1), (0), (by first | rfl | (simp; done) | (simp [*]; done)), (by first | rfl | (simp; done) | (simp [*]; done)), H', ⟨Nat.le_refl _⟩, by repeat (first | exact Drawn0.refl _ | apply Drawn0.step)⟩
 case round =>
  clear H'
  try clear c1
  try clear p2
  obtain ⟨x1_1, x5_1, rfl, rfl, HA, HK1, ⟨m1, rfl⟩⟩ := hrel
  cases gk with
  | zero => exact absurd HA.out (by simp [laws_heldInt64S.l0])
  | succ k1 =>
   have H := HA.out
   clear HA
   simp only [laws_heldInt64S.l0] at H
   by_cases c3 : x5_1 < (l0.length : Int)
   ·rw [if_pos c3] at H
    have c3b0 : decide (x5_1 < (l0.length : Int)) = true := decide_eq_true c3
    clear c3
    by_cases c4 : 0 ≤ x5_1
    ·rw [if_pos c4] at H
     have c4b0 : decide (0 ≤ x5_1) = true := decide_eq_true c4
     clear c4
     by_cases c5 : (rd l0 x5_1) = x1_1
     ·rw [if_pos c5] at H
      have c5b0 : ((rd l0 x5_1) == x1_1) = true := beq_iff_eq.mpr c5
      have c5b1 : ((rd l0 x5_1) != x1_1) = false := bne_eq_false_iff_eq.mpr c5
      clear c5
      have H' := Aside0.mk H
      clear H
      have p309 : 0 ≤ (x5_1 : Int) := of_decide_eq_true (by first | (with_reducible assumption) | assumption)
      have q309 : x5_1 < (l0.length : Int) := of_decide_eq_true (by first | (with_reducible assumption) | assumption)
      obtain ⟨ad309, e309, hx309_0⟩ := Kd.at_int HR0.out x5_1 p309 q309
      cases e309
      replace p309 := eq_true p309
      replace q309 := eq_true q309
      go_wp2
      go_roundg k1
      case measure => have := HK1.out; omega
      case rel => exact ⟨(wrap64 (x1_1 + 1)), (wrap64 (x5_1 + 1)), (by first | rfl | (simp; done) | (simp [*]; done)), (by first | rfl | (simp; done) | (simp [*]; done)), H', ⟨by have := HK1.out; omega⟩, by repeat (first | exact Drawn0.refl _ | apply Drawn0.step)⟩
     ·rw [if_neg c5] at H
      have c5b0 : ((rd l0 x5_1) == x1_1) = false := beq_eq_false_iff_ne.mpr c5
      have c5b1 : ((rd l0 x5_1) != x1_1) = true := bne_iff_ne.mpr c5
      obtain rfl := Option.some.inj H
      have p309 : 0 ≤ (x5_1 : Int) := of_decide_eq_true (by first | (with_reducible assumption) | assumption)
      have q309 : x5_1 < (l0.length : Int) := of_decide_eq_true (by first | (with_reducible assumption) | assumption)
      obtain ⟨ad309, e309, hx309_0⟩ := Kd.at_int HR0.out x5_1 p309 q309
      cases e309
      replace p309 := eq_true p309
      replace q309 := eq_true q309
      go_wp2
      go_ret
      exact ⟨by first | rfl | (simp; done) | (simp [*]; done), by repeat (first | exact Drawn0.refl _ | apply Drawn0.step)⟩
    ·rw [if_neg c4] at H
     exact absurd H (by simp)
   ·rw [if_neg c3] at H
    have c3b0 : decide (x5_1 < (l0.length : Int)) = false := decide_eq_false c3
    clear c3
    obtain rfl := Option.some.inj H
    go_wp2
    go_ret
    exact ⟨by first | rfl | (simp; done) | (simp [*]; done), by repeat (first | exact Drawn0.refl _ | apply Drawn0.step)⟩
end Go.Proofs.Ytipgcjonidlloaa.F
namespace Go.Proofs.Ytipgcjonidlloaa.F
open Go.RowKit Go.Proofs.YtipgcjonidlloaaW.PrintWords Go.Proofs.YtipgcjonidlloaaW.PrintLast Go.Proofs.YtipgcjonidlloaaW.PrintMore
set_option linter.unusedVariables false
set_option linter.unusedSimpArgs false
structure Ok_FnExactNeededFuses (k : Nat) (a0 : Int) (l1 : List S46) (a2 : Int) (L1 : List S44) (M1 : List S44) (t1 : Int) (q1 : List Int) (q2 : Int) (k1 : Int) (M1k : List (S44)) (m1 : Int) (q1k : List Int) : Prop where
 ne1 : L1 ≠ []
 tk1 : M1 = L1.take l1.length ∧ l1.length ≤ L1.length
 ln1 : M1.length = l1.length
 fu1 : full_toFuseS.f k l1 false = some L1
 rm1 : laws_roomBehind.f (M1.length : Int) = some t1
 jn1 : wrap64 ((M1.length : Int) + t1) = (L1.length : Int)
 eq1 : laws_eqFuseS.f k L1 L1 = some true
 sp : spec_NeededFuses.f k a0 M1 a2 = some (q1, q2)
 im : impl_NeededFuses.f k a0 M1 a2 = some (q1, q2)
 er : laws_eqInt64S.f k q1 q1 = some true
 mk1 : laws_markFuseS.f k M1 101 = some (k1, M1k)
 mk10 : 0 ≤ k1
 mg : laws_markInt64S.f k q1 101 = some (m1, q1k)
 mg0 : 0 ≤ m1
 hd : laws_heldInt64S.f k q1k 101 = some m1
 hl : q1k.length = q1.length
 to1 : laws_toFuseS.f k l1 true = some M1
def Law_FnExactNeededFuses (k : Nat) (a0 : Int) (l1 : List S46) (a2 : Int) : Prop := ∃ s1 : Int, laws_szFuseS.f l1 1000000 = some s1 ∧ (s1 < 0 ∨ (0 ≤ s1 ∧ ∃ (L1 : List S44) (M1 : List S44) (t1 : Int) (q1 : List Int) (q2 : Int) (k1 : Int) (M1k : List (S44)) (m1 : Int) (q1k : List Int), Ok_FnExactNeededFuses k a0 l1 a2 L1 M1 t1 q1 q2 k1 M1k m1 q1k))
def Pure_FnExactNeededFuses : Prop := ∀ (a0 : Int) (l1 : List S46) (a2 : Int), I64 a0 → l1.length ≤ maxLen → (∀ x ∈ l1, Pr46 x) → I64 a2 → ∃ k, Law_FnExactNeededFuses k a0 l1 a2
set_option maxHeartbeats 8000000 in
set_option maxRecDepth 100000 in
theorem law_FnExactNeededFuses (k : Nat) (a0 : Int) (A1 : Option Addr) (c1 : Nat) (l1 : List S46) (a2 : Int) (w : World) (hr1 : Kd.C k46 w A1 l1.length l1) (hc1 : l1.length ≤ c1) (h : Law_FnExactNeededFuses k a0 l1 a2) :
  Calls Try.prog 6 #[.int .i64 a0, .slice A1 l1.length c1, .int .i64 a2] w fun e w' => e = .returned (.bool true) ∧ Below w.heap.size w w' := by
 have HR1 := Aside0.mk hr1
 have HC1 := Aside0.mk hc1
 clear hr1 hc1
 have HB := Aside0.mk (Below.refl w.heap.size w)
 obtain ⟨s1, hs_, h⟩ := h
 have HS1 := Aside0.mk hs_
 clear hs_
 rcases h with h | ⟨h', h⟩
 ·have f_ : decide (s1 < 0) = true := decide_eq_true h
  clear h
  go_enter Try.func6, Try.ntmps6
  go_wp2_with (first | ((with_reducible refine gate_callee (f := 8) rfl ?_); (try (refine gate_guard (by rfl) ?_; dsimp only)); refine goesL_ (some 20) rfl rfl Try.func8 (by kernel_rfl) rfl #[.slice A1 l1.length c1, .int .i64 1000000] rfl (by (try simp only [List.map_toArray, List.map_cons, List.map_nil]); first | done | rfl | (simp only [List.length_drop, List.length_take]; rfl)) ?_; (with_reducible refine (laws_szFuseS.calls _ _ l1 1000000 s1 _ (Kd.C_below HR1.out (by repeat (first | (with_reducible first | exact HB.out | apply below_alloc | apply pw_below_drewN | apply below_drew1) | exact HB.out))) HC1.out HS1.out).mono ?_); rintro e w' ⟨rfl, ⟨nd, rfl⟩⟩; refine ⟨_, rfl, ?_⟩))
  go_ret
  exact ⟨rfl, (by repeat (first | (with_reducible first | exact HB.out | apply below_alloc | apply pw_below_drewN | apply below_drew1) | exact HB.out))⟩
 have fs1 : decide (s1 < 0) = false := decide_eq_false (by omega)
 clear h'
 obtain ⟨L1, M1, t1, q1, q2, k1, M1k, m1, q1k, h⟩ := h
 have HF := Aside0.mk h
 clear h
 have f1q2 : (q2 != q2) = false := by simp
 have f2q2 : (q2 == q2) = true := by simp
 have fnk1 : decide (k1 < 0) = false := decide_eq_false (by have := HF.out.mk10; omega)
 have fnm1 : decide (m1 < 0) = false := decide_eq_false (by have := HF.out.mg0; omega)
 have f1m1 : (m1 != m1) = false := by simp
 have f2m1 : (m1 == m1) = true := by simp
 go_enter Try.func6, Try.ntmps6
 go_wp2_with (first | ((with_reducible refine gate_callee (f := 8) rfl ?_); (try (refine gate_guard (by rfl) ?_; dsimp only)); refine goesL_ (some 20) rfl rfl Try.func8 (by kernel_rfl) rfl #[.slice A1 l1.length c1, .int .i64 1000000] rfl (by (try simp only [List.map_toArray, List.map_cons, List.map_nil]); first | done | rfl | (simp only [List.length_drop, List.length_take]; rfl)) ?_; (with_reducible refine (laws_szFuseS.calls _ _ l1 1000000 s1 _ (Kd.C_below HR1.out (by repeat (first | (with_reducible first | exact HB.out | apply below_alloc | apply pw_below_drewN | apply below_drew1) | exact HB.out))) HC1.out HS1.out).mono ?_); rintro e w' ⟨rfl, ⟨nd, rfl⟩⟩; refine ⟨_, rfl, ?_⟩) | ((with_reducible refine gate_callee (f := 10) rfl ?_); (try (refine gate_guard (by rfl) ?_; dsimp only)); refine goesL_ (some 26) rfl rfl Try.func10 (by kernel_rfl) rfl #[.slice A1 l1.length c1, .bool false] rfl (by (try simp only [List.map_toArray, List.map_cons, List.map_nil]); first | done | rfl | (simp only [List.length_drop, List.length_take]; rfl)) ?_; (with_reducible refine (full_toFuseS.calls k _ _ l1 false L1 _ (Kd.C_below HR1.out (by repeat (first | (with_reducible first | exact HB.out | apply below_alloc | apply pw_below_drewN | apply below_drew1) | exact HB.out))) HC1.out HF.out.fu1).mono ?_); rintro e w1 ⟨v0, rfl, ho, hb⟩; refine ⟨_, rfl, ?_⟩; obtain ⟨a_1, b_1, hv, hle, ho0⟩ := ho HF.out.ne1; rw [← HF.out.ln1] at hv; subst hv; clear ho hle; obtain ⟨lo1, hi1, hx_, ha_, hz_, _⟩ := Ob_mk (base := w.heap.size) ho0 hb (below_le (by repeat (first | (with_reducible first | exact HB.out | apply below_alloc | apply pw_below_drewN | apply below_drew1) | exact HB.out))) (below_le (by repeat (first | (with_reducible first | exact HB.out | apply below_alloc | apply pw_below_drewN | apply below_drew1) | exact HB.out))); have X1 := Aside0.mk hx_; have OX1 := Aside0.mk (And.intro ha_ hz_); clear hx_ ha_ hz_ ho0; have nb_ := Aside0.mk (below_step (by repeat (first | (with_reducible first | exact HB.out | apply below_alloc | apply pw_below_drewN | apply below_drew1) | exact HB.out)) hb); clear HB; have HB := nb_; clear nb_ hb) | ((with_reducible refine gate_callee (f := 21) rfl ?_); (try (refine gate_guard (by rfl) ?_; dsimp only)); refine goesL_ (some 28) rfl rfl Try.func21 (by kernel_rfl) rfl #[.int .i64 a0, .slice a_1 M1.length b_1, .int .i64 a2] rfl (by (try simp only [List.map_toArray, List.map_cons, List.map_nil]); first | done | rfl | (simp only [List.length_drop, List.length_take]; rfl)) ?_; (with_reducible refine (spec_NeededFuses.calls k a0 _ _ M1 a2 q1 q2 _ (fullC (by (with_reducible repeat (first | apply Ob_alloc | apply Ob_drewN | apply Ob_drew)); exact X1.out) HF.out.tk1).1 (fullC X1.out HF.out.tk1).2.1 HF.out.sp).mono ?_); rintro e w1 ⟨v0_, rfl, ho0, hb⟩; refine ⟨_, rfl, ?_⟩; obtain ⟨lo2, hi2, hx_, ha_, hz_, _⟩ := Ob_mk (base := w.heap.size) ho0 hb (below_le (by repeat (first | (with_reducible first | exact HB.out | apply below_alloc | apply pw_below_drewN | apply below_drew1) | exact HB.out))) (Ob_hi (by (with_reducible repeat (first | apply Ob_alloc | apply Ob_drewN | apply Ob_drew)); exact X1.out)); have X2 := Aside0.mk hx_; have OX2 := Aside0.mk (And.intro ha_ hz_); clear hx_ ha_ hz_ ho0; have n0_ := Aside0.mk (Ob_below (by (with_reducible repeat (first | apply Ob_alloc | apply Ob_drewN | apply Ob_drew)); exact X1.out) hb); have nb_ := Aside0.mk (below_step (by repeat (first | (with_reducible first | exact HB.out | apply below_alloc | apply pw_below_drewN | apply below_drew1) | exact HB.out)) hb); clear X1; clear HB; have X1 := n0_; clear n0_; have HB := nb_; clear nb_ hb; obtain ⟨a_2, b_2, e_⟩ := Ob_slice X2.out; subst e_) | ((with_reducible refine gate_callee (f := 10) rfl ?_); (try (refine gate_guard (by rfl) ?_; dsimp only)); refine goesL_ (some 32) rfl rfl Try.func10 (by kernel_rfl) rfl #[.slice A1 l1.length c1, .bool false] rfl (by (try simp only [List.map_toArray, List.map_cons, List.map_nil]); first | done | rfl | (simp only [List.length_drop, List.length_take]; rfl)) ?_; (with_reducible refine (full_toFuseS.calls k _ _ l1 false L1 _ (Kd.C_below HR1.out (by repeat (first | (with_reducible first | exact HB.out | apply below_alloc | apply pw_below_drewN | apply below_drew1) | exact HB.out))) HC1.out HF.out.fu1).mono ?_); rintro e w1 ⟨v0, rfl, ho, hb⟩; refine ⟨_, rfl, ?_⟩; obtain ⟨a_3, b_3, hv, hle, ho0⟩ := ho HF.out.ne1; rw [← HF.out.ln1] at hv; subst hv; clear ho hle; obtain ⟨lo3, hi3, hx_, ha_, hz_, _⟩ := Ob_mk (base := w.heap.size) ho0 hb (below_le (by repeat (first | (with_reducible first | exact HB.out | apply below_alloc | apply pw_below_drewN | apply below_drew1) | exact HB.out))) (Ob_hi (by (with_reducible repeat (first | apply Ob_alloc | apply Ob_drewN | apply Ob_drew)); exact X2.out)); have X3 := Aside0.mk hx_; have OX3 := Aside0.mk (And.intro ha_ hz_); clear hx_ ha_ hz_ ho0; have n0_ := Aside0.mk (Ob_below (by (with_reducible repeat (first | apply Ob_alloc | apply Ob_drewN | apply Ob_drew)); exact X1.out) hb); have n1_ := Aside0.mk (Ob_below (by (with_reducible repeat (first | apply Ob_alloc | apply Ob_drewN | apply Ob_drew)); exact X2.out) hb); have nb_ := Aside0.mk (below_step (by repeat (first | (with_reducible first | exact HB.out | apply below_alloc | apply pw_below_drewN | apply below_drew1) | exact HB.out)) hb); clear X1; clear X2; clear HB; have X1 := n0_; clear n0_; have X2 := n1_; clear n1_; have HB := nb_; clear nb_ hb) | ((with_reducible refine gate_callee (f := 22) rfl ?_); (try (refine gate_guard (by rfl) ?_; dsimp only)); refine goesL_ (some 37) rfl rfl Try.func22 (by kernel_rfl) rfl #[.int .i64 a0, .slice a_3 M1.length b_3, .int .i64 a2] rfl (by (try simp only [List.map_toArray, List.map_cons, List.map_nil]); first | done | rfl | (simp only [List.length_drop, List.length_take]; rfl)) ?_; (with_reducible refine (impl_NeededFuses.calls k a0 _ _ M1 a2 q1 q2 _ (fullC (by (with_reducible repeat (first | apply Ob_alloc | apply Ob_drewN | apply Ob_drew)); exact X3.out) HF.out.tk1).1 (fullC X3.out HF.out.tk1).2.1 HF.out.im).mono ?_); rintro e w1 ⟨v0_, rfl, ho0, hb⟩; refine ⟨_, rfl, ?_⟩; obtain ⟨lo4, hi4, hx_, ha_, hz_, _⟩ := Ob_mk (base := w.heap.size) ho0 hb (below_le (by repeat (first | (with_reducible first | exact HB.out | apply below_alloc | apply pw_below_drewN | apply below_drew1) | exact HB.out))) (Ob_hi (by (with_reducible repeat (first | apply Ob_alloc | apply Ob_drewN | apply Ob_drew)); exact X3.out)); have X4 := Aside0.mk hx_; have OX4 := Aside0.mk (And.intro ha_ hz_); clear hx_ ha_ hz_ ho0; have n0_ := Aside0.mk (Ob_below (by (with_reducible repeat (first | apply Ob_alloc | apply Ob_drewN | apply Ob_drew)); exact X1.out) hb); have n1_ := Aside0.mk (Ob_below (by (with_reducible repeat (first | apply Ob_alloc | apply Ob_drewN | apply Ob_drew)); exact X2.out) hb); have n2_ := Aside0.mk (Ob_below (by (with_reducible repeat (first | apply Ob_alloc | apply Ob_drewN | apply Ob_drew)); exact X3.out) hb); have nb_ := Aside0.mk (below_step (by repeat (first | (with_reducible first | exact HB.out | apply below_alloc | apply pw_below_drewN | apply below_drew1) | exact HB.out)) hb); clear X1; clear X2; clear X3; clear HB; have X1 := n0_; clear n0_; have X2 := n1_; clear n1_; have X3 := n2_; clear n2_; have HB := nb_; clear nb_ hb; obtain ⟨a_4, b_4, e_⟩ := Ob_slice X4.out; subst e_) | ((with_reducible refine gate_callee (f := 15) rfl ?_); (try (refine gate_guard (by rfl) ?_; dsimp only)); refine goesL_ (some 42) rfl rfl Try.func15 (by kernel_rfl) rfl #[.slice a_4 q1.length b_4, .slice a_2 q1.length b_2] rfl (by (try simp only [List.map_toArray, List.map_cons, List.map_nil]); first | done | rfl | (simp only [List.length_drop, List.length_take]; rfl)) ?_; (with_reducible refine (laws_eqInt64S.calls k _ _ q1 _ _ q1 true _ (Ob_C (by (with_reducible repeat (first | apply Ob_alloc | apply Ob_drewN | apply Ob_drew)); exact X4.out)).2.2 (Ob_C X4.out).2.1 (Ob_C (by (with_reducible repeat (first | apply Ob_alloc | apply Ob_drewN | apply Ob_drew)); exact X2.out)).2.2 (Ob_C X2.out).2.1 HF.out.er).mono ?_); rintro e w' ⟨rfl, ⟨nd, rfl⟩⟩; refine ⟨_, rfl, ?_⟩) | ((with_reducible refine gate_callee (f := 10) rfl ?_); (try (refine gate_guard (by rfl) ?_; dsimp only)); refine goesL_ (some 51) rfl rfl Try.func10 (by kernel_rfl) rfl #[.slice A1 l1.length c1, .bool false] rfl (by (try simp only [List.map_toArray, List.map_cons, List.map_nil]); first | done | rfl | (simp only [List.length_drop, List.length_take]; rfl)) ?_; (with_reducible refine (full_toFuseS.calls k _ _ l1 false L1 _ (Kd.C_below HR1.out (by repeat (first | (with_reducible first | exact HB.out | apply below_alloc | apply pw_below_drewN | apply below_drew1) | exact HB.out))) HC1.out HF.out.fu1).mono ?_); rintro e w1 ⟨v0, rfl, ho, hb⟩; refine ⟨_, rfl, ?_⟩; obtain ⟨a_5, b_5, hv, hle, ho0⟩ := ho HF.out.ne1; rw [← HF.out.ln1] at hv; subst hv; clear ho hle; obtain ⟨lo5, hi5, hx_, ha_, hz_, _⟩ := Ob_mk (base := w.heap.size) ho0 hb (below_le (by repeat (first | (with_reducible first | exact HB.out | apply below_alloc | apply pw_below_drewN | apply below_drew1) | exact HB.out))) (Ob_hi (by (with_reducible repeat (first | apply Ob_alloc | apply Ob_drewN | apply Ob_drew)); exact X4.out)); have X5 := Aside0.mk hx_; have OX5 := Aside0.mk (And.intro ha_ hz_); clear hx_ ha_ hz_ ho0; have n0_ := Aside0.mk (Ob_below (by (with_reducible repeat (first | apply Ob_alloc | apply Ob_drewN | apply Ob_drew)); exact X1.out) hb); have n1_ := Aside0.mk (Ob_below (by (with_reducible repeat (first | apply Ob_alloc | apply Ob_drewN | apply Ob_drew)); exact X2.out) hb); have n2_ := Aside0.mk (Ob_below (by (with_reducible repeat (first | apply Ob_alloc | apply Ob_drewN | apply Ob_drew)); exact X3.out) hb); have n3_ := Aside0.mk (Ob_below (by (with_reducible repeat (first | apply Ob_alloc | apply Ob_drewN | apply Ob_drew)); exact X4.out) hb); have nb_ := Aside0.mk (below_step (by repeat (first | (with_reducible first | exact HB.out | apply below_alloc | apply pw_below_drewN | apply below_drew1) | exact HB.out)) hb); clear X1; clear X2; clear X3; clear X4; clear HB; have X1 := n0_; clear n0_; have X2 := n1_; clear n1_; have X3 := n2_; clear n2_; have X4 := n3_; clear n3_; have HB := nb_; clear nb_ hb) | ((with_reducible refine gate_callee (f := 12) rfl ?_); (try (refine gate_guard (by rfl) ?_; dsimp only)); refine goesL_ (some 52) rfl rfl Try.func12 (by kernel_rfl) rfl #[.slice a_3 M1.length b_3, .slice a_5 M1.length b_5] rfl (by (try simp only [List.map_toArray, List.map_cons, List.map_nil]); first | done | rfl | (simp only [List.length_drop, List.length_take]; rfl)) ?_; (with_reducible refine (same_intactFuseS k M1.length _ _ _ _ L1 t1 _ (fullC (by (with_reducible repeat (first | apply Ob_alloc | apply Ob_drewN | apply Ob_drew)); exact X3.out) HF.out.tk1).2.2.2 (fullC X3.out HF.out.tk1).2.2.1 (fullC (by (with_reducible repeat (first | apply Ob_alloc | apply Ob_drewN | apply Ob_drew)); exact X5.out) HF.out.tk1).2.2.2 (fullC X5.out HF.out.tk1).2.2.1 HF.out.rm1 HF.out.jn1 HF.out.eq1).mono ?_); rintro e w1 ⟨rfl, hb⟩; refine ⟨_, rfl, ?_⟩; have n0_ := Aside0.mk (Ob_below (by (with_reducible repeat (first | apply Ob_alloc | apply Ob_drewN | apply Ob_drew)); exact X1.out) hb); have n1_ := Aside0.mk (Ob_below (by (with_reducible repeat (first | apply Ob_alloc | apply Ob_drewN | apply Ob_drew)); exact X2.out) hb); have n2_ := Aside0.mk (Ob_below (by (with_reducible repeat (first | apply Ob_alloc | apply Ob_drewN | apply Ob_drew)); exact X3.out) hb); have n3_ := Aside0.mk (Ob_below (by (with_reducible repeat (first | apply Ob_alloc | apply Ob_drewN | apply Ob_drew)); exact X4.out) hb); have n4_ := Aside0.mk (Ob_below (by (with_reducible repeat (first | apply Ob_alloc | apply Ob_drewN | apply Ob_drew)); exact X5.out) hb); have nb_ := Aside0.mk (below_step (by repeat (first | (with_reducible first | exact HB.out | apply below_alloc | apply pw_below_drewN | apply below_drew1) | exact HB.out)) hb); clear X1; clear X2; clear X3; clear X4; clear X5; clear HB; have X1 := n0_; clear n0_; have X2 := n1_; clear n1_; have X3 := n2_; clear n2_; have X4 := n3_; clear n3_; have X5 := n4_; clear n4_; have HB := nb_; clear nb_ hb) | ((with_reducible refine gate_callee (f := 16) rfl ?_); (try (refine gate_guard (by rfl) ?_; dsimp only)); refine goesL_ (some 56) rfl rfl Try.func16 (by kernel_rfl) rfl #[.slice a_3 M1.length b_3, .int .i64 101] rfl (by (try simp only [List.map_toArray, List.map_cons, List.map_nil]); first | done | rfl | (simp only [List.length_drop, List.length_take]; rfl)) ?_; (with_reducible refine (laws_markFuseS.calls k _ _ M1 101 k1 M1k w _ (by repeat (first | (with_reducible first | exact HB.out | apply below_alloc | apply pw_below_drewN | apply below_drew1) | exact HB.out)) (Ob_R (lo := lo3) (hi := hi3) (fullT (by (with_reducible repeat (first | apply Ob_alloc | apply Ob_drewN | apply Ob_drew)); exact X3.out) HF.out.tk1)) HF.out.mk1).mono ?_); rintro e w1 ⟨rfl, hr_, hB_, hk_⟩; refine ⟨_, rfl, ?_⟩; have n0_ := Aside0.mk (Ob_kept (by (with_reducible repeat (first | apply Ob_alloc | apply Ob_drewN | apply Ob_drew)); exact X1.out) hk_ (by have := OX1.out; have := OX2.out; have := OX3.out; have := OX4.out; have := OX5.out; omega)); have n1_ := Aside0.mk (Ob_kept (by (with_reducible repeat (first | apply Ob_alloc | apply Ob_drewN | apply Ob_drew)); exact X2.out) hk_ (by have := OX1.out; have := OX2.out; have := OX3.out; have := OX4.out; have := OX5.out; omega)); have n2_ := Aside0.mk (Ob_kept (by (with_reducible repeat (first | apply Ob_alloc | apply Ob_drewN | apply Ob_drew)); exact X4.out) hk_ (by have := OX1.out; have := OX2.out; have := OX3.out; have := OX4.out; have := OX5.out; omega)); have n3_ := Aside0.mk (Ob_kept (by (with_reducible repeat (first | apply Ob_alloc | apply Ob_drewN | apply Ob_drew)); exact X5.out) hk_ (by have := OX1.out; have := OX2.out; have := OX3.out; have := OX4.out; have := OX5.out; omega)); clear X1; clear X2; clear X3; clear X4; clear X5; clear HB; have X1 := n0_; clear n0_; have X2 := n1_; clear n1_; have X4 := n2_; clear n2_; have X5 := n3_; clear n3_; have HB := Aside0.mk hB_; clear hB_ hk_; clear hr_) | ((with_reducible refine gate_callee (f := 15) rfl ?_); (try (refine gate_guard (by rfl) ?_; dsimp only)); refine goesL_ (some 62) rfl rfl Try.func15 (by kernel_rfl) rfl #[.slice a_4 q1.length b_4, .slice a_2 q1.length b_2] rfl (by (try simp only [List.map_toArray, List.map_cons, List.map_nil]); first | done | rfl | (simp only [List.length_drop, List.length_take]; rfl)) ?_; (with_reducible refine (laws_eqInt64S.calls k _ _ q1 _ _ q1 true _ (Ob_C (by (with_reducible repeat (first | apply Ob_alloc | apply Ob_drewN | apply Ob_drew)); exact X4.out)).2.2 (Ob_C X4.out).2.1 (Ob_C (by (with_reducible repeat (first | apply Ob_alloc | apply Ob_drewN | apply Ob_drew)); exact X2.out)).2.2 (Ob_C X2.out).2.1 HF.out.er).mono ?_); rintro e w' ⟨rfl, ⟨nd, rfl⟩⟩; refine ⟨_, rfl, ?_⟩) | ((with_reducible refine gate_callee (f := 17) rfl ?_); (try (refine gate_guard (by rfl) ?_; dsimp only)); refine goesL_ (some 72) rfl rfl Try.func17 (by kernel_rfl) rfl #[.slice a_4 q1.length b_4, .int .i64 101] rfl (by (try simp only [List.map_toArray, List.map_cons, List.map_nil]); first | done | rfl | (simp only [List.length_drop, List.length_take]; rfl)) ?_; (with_reducible refine (laws_markInt64S.calls k _ _ q1 101 m1 q1k w _ (by repeat (first | (with_reducible first | exact HB.out | apply below_alloc | apply pw_below_drewN | apply below_drew1) | exact HB.out)) (Ob_R (lo := lo4) (hi := hi4) (by (with_reducible repeat (first | apply Ob_alloc | apply Ob_drewN | apply Ob_drew)); exact X4.out)) HF.out.mg).mono ?_); rintro e w1 ⟨rfl, hr_, hB_, hk_⟩; refine ⟨_, rfl, ?_⟩; have n0_ := Aside0.mk (Ob_kept (by (with_reducible repeat (first | apply Ob_alloc | apply Ob_drewN | apply Ob_drew)); exact X1.out) hk_ (by have := OX1.out; have := OX2.out; have := OX3.out; have := OX4.out; have := OX5.out; omega)); have n1_ := Aside0.mk (Ob_kept (by (with_reducible repeat (first | apply Ob_alloc | apply Ob_drewN | apply Ob_drew)); exact X2.out) hk_ (by have := OX1.out; have := OX2.out; have := OX3.out; have := OX4.out; have := OX5.out; omega)); have n2_ := Aside0.mk (Ob_kept (by (with_reducible repeat (first | apply Ob_alloc | apply Ob_drewN | apply Ob_drew)); exact X5.out) hk_ (by have := OX1.out; have := OX2.out; have := OX3.out; have := OX4.out; have := OX5.out; omega)); have ng_ := Aside0.mk (show Ob _ _ _ w.heap.size _ _ _ _ from ⟨Kd.R_mono (Kd.R_bound hr_) (fun _ hz => ⟨hz.2.1, hz.2.2.1⟩), Nat.le_refl _, Nat.le_refl _⟩); clear X1; clear X2; clear X4; clear X5; clear HB; have X1 := n0_; clear n0_; have X2 := n1_; clear n1_; have X5 := n2_; clear n2_; have HB := Aside0.mk hB_; clear hB_ hk_; have X4 := ng_; clear ng_ hr_; skip) | ((with_reducible refine gate_callee (f := 18) rfl ?_); (try (refine gate_guard (by rfl) ?_; dsimp only)); refine goesL_ (some 75) rfl rfl Try.func18 (by kernel_rfl) rfl #[.slice a_4 q1.length b_4, .int .i64 101] rfl (by (try simp only [List.map_toArray, List.map_cons, List.map_nil]); first | done | rfl | (simp only [List.length_drop, List.length_take]; rfl)) ?_; (with_reducible refine (calls_len HF.out.hl (laws_heldInt64S.calls k _ _ q1k 101 m1 _ (Ob_C (by (with_reducible repeat (first | apply Ob_alloc | apply Ob_drewN | apply Ob_drew)); exact X4.out)).2.2 (Ob_C X4.out).2.1 HF.out.hd)).mono ?_); rintro e w' ⟨rfl, ⟨nd, rfl⟩⟩; refine ⟨_, rfl, ?_⟩) | ((with_reducible refine gate_callee (f := 10) rfl ?_); (try (refine gate_guard (by rfl) ?_; dsimp only)); refine goesL_ (some 84) rfl rfl Try.func10 (by kernel_rfl) rfl #[.slice A1 l1.length c1, .bool true] rfl (by (try simp only [List.map_toArray, List.map_cons, List.map_nil]); first | done | rfl | (simp only [List.length_drop, List.length_take]; rfl)) ?_; (with_reducible refine (laws_toFuseS.calls k _ _ l1 true M1 _ (Kd.C_below HR1.out (by repeat (first | (with_reducible first | exact HB.out | apply below_alloc | apply pw_below_drewN | apply below_drew1) | exact HB.out))) HC1.out HF.out.to1).mono ?_); rintro e w1 ⟨v0_, rfl, ho0, hb⟩; refine ⟨_, rfl, ?_⟩; obtain ⟨lo6, hi6, hx_, ha_, hz_, _⟩ := Ob_mk (base := w.heap.size) ho0 hb (below_le (by repeat (first | (with_reducible first | exact HB.out | apply below_alloc | apply pw_below_drewN | apply below_drew1) | exact HB.out))) (Ob_hi (by (with_reducible repeat (first | apply Ob_alloc | apply Ob_drewN | apply Ob_drew)); exact X5.out)); have X6 := Aside0.mk hx_; have OX6 := Aside0.mk (And.intro ha_ hz_); clear hx_ ha_ hz_ ho0; have n0_ := Aside0.mk (Ob_below (by (with_reducible repeat (first | apply Ob_alloc | apply Ob_drewN | apply Ob_drew)); exact X1.out) hb); have n1_ := Aside0.mk (Ob_below (by (with_reducible repeat (first | apply Ob_alloc | apply Ob_drewN | apply Ob_drew)); exact X2.out) hb); have n2_ := Aside0.mk (Ob_below (by (with_reducible repeat (first | apply Ob_alloc | apply Ob_drewN | apply Ob_drew)); exact X5.out) hb); have n3_ := Aside0.mk (Ob_below (by (with_reducible repeat (first | apply Ob_alloc | apply Ob_drewN | apply Ob_drew)); exact X4.out) hb); have nb_ := Aside0.mk (below_step (by repeat (first | (with_reducible first | exact HB.out | apply below_alloc | apply pw_below_drewN | apply below_drew1) | exact HB.out)) hb); clear X1; clear X2; clear X5; clear X4; clear HB; have X1 := n0_; clear n0_; have X2 := n1_; clear n1_; have X5 := n2_; clear n2_; have X4 := n3_; clear n3_; have HB := nb_; clear nb_ hb; obtain ⟨a_6, b_6, e_⟩ := Ob_slice X6.out; subst e_) | ((with_reducible refine gate_callee (f := 22) rfl ?_); (try (refine gate_guard (by rfl) ?_; dsimp only)); refine goesL_ (some 86) rfl rfl Try.func22 (by kernel_rfl) rfl #[.int .i64 a0, .slice a_6 M1.length b_6, .int .i64 a2] rfl (by (try simp only [List.map_toArray, List.map_cons, List.map_nil]); first | done | rfl | (simp only [List.length_drop, List.length_take]; rfl)) ?_; (with_reducible refine (impl_NeededFuses.calls k a0 _ _ M1 a2 q1 q2 _ (Ob_C (by (with_reducible repeat (first | apply Ob_alloc | apply Ob_drewN | apply Ob_drew)); exact X6.out)).2.2 (Ob_C X6.out).2.1 HF.out.im).mono ?_); rintro e w1 ⟨v0_, rfl, ho0, hb⟩; refine ⟨_, rfl, ?_⟩; obtain ⟨lo7, hi7, hx_, ha_, hz_, _⟩ := Ob_mk (base := w.heap.size) ho0 hb (below_le (by repeat (first | (with_reducible first | exact HB.out | apply below_alloc | apply pw_below_drewN | apply below_drew1) | exact HB.out))) (Ob_hi (by (with_reducible repeat (first | apply Ob_alloc | apply Ob_drewN | apply Ob_drew)); exact X6.out)); have X7 := Aside0.mk hx_; have OX7 := Aside0.mk (And.intro ha_ hz_); clear hx_ ha_ hz_ ho0; have n0_ := Aside0.mk (Ob_below (by (with_reducible repeat (first | apply Ob_alloc | apply Ob_drewN | apply Ob_drew)); exact X1.out) hb); have n1_ := Aside0.mk (Ob_below (by (with_reducible repeat (first | apply Ob_alloc | apply Ob_drewN | apply Ob_drew)); exact X2.out) hb); have n2_ := Aside0.mk (Ob_below (by (with_reducible repeat (first | apply Ob_alloc | apply Ob_drewN | apply Ob_drew)); exact X5.out) hb); have n3_ := Aside0.mk (Ob_below (by (with_reducible repeat (first | apply Ob_alloc | apply Ob_drewN | apply Ob_drew)); exact X4.out) hb); have n4_ := Aside0.mk (Ob_below (by (with_reducible repeat (first | apply Ob_alloc | apply Ob_drewN | apply Ob_drew)); exact X6.out) hb); have nb_ := Aside0.mk (below_step (by repeat (first | (with_reducible first | exact HB.out | apply below_alloc | apply pw_below_drewN | apply below_drew1) | exact HB.out)) hb); clear X1; clear X2; clear X5; clear X4; clear X6; clear HB; have X1 := n0_; clear n0_; have X2 := n1_; clear n1_; have X5 := n2_; clear n2_; have X4 := n3_; clear n3_; have X6 := n4_; clear n4_; have HB := nb_; clear nb_ hb; obtain ⟨a_7, b_7, e_⟩ := Ob_slice X7.out; subst e_) | ((with_reducible refine gate_callee (f := 15) rfl ?_); (try (refine gate_guard (by rfl) ?_; dsimp only)); refine goesL_ (some 91) rfl rfl Try.func15 (by kernel_rfl) rfl #[.slice a_7 q1.length b_7, .slice a_2 q1.length b_2] rfl (by (try simp only [List.map_toArray, List.map_cons, List.map_nil]); first | done | rfl | (simp only [List.length_drop, List.length_take]; rfl)) ?_; (with_reducible refine (laws_eqInt64S.calls k _ _ q1 _ _ q1 true _ (Ob_C (by (with_reducible repeat (first | apply Ob_alloc | apply Ob_drewN | apply Ob_drew)); exact X7.out)).2.2 (Ob_C X7.out).2.1 (Ob_C (by (with_reducible repeat (first | apply Ob_alloc | apply Ob_drewN | apply Ob_drew)); exact X2.out)).2.2 (Ob_C X2.out).2.1 HF.out.er).mono ?_); rintro e w' ⟨rfl, ⟨nd, rfl⟩⟩; refine ⟨_, rfl, ?_⟩) | ((with_reducible refine gate_callee (f := 18) rfl ?_); (try (refine gate_guard (by rfl) ?_; dsimp only)); refine goesL_ (some 100) rfl rfl Try.func18 (by kernel_rfl) rfl #[.slice a_4 q1.length b_4, .int .i64 101] rfl (by (try simp only [List.map_toArray, List.map_cons, List.map_nil]); first | done | rfl | (simp only [List.length_drop, List.length_take]; rfl)) ?_; (with_reducible refine (calls_len HF.out.hl (laws_heldInt64S.calls k _ _ q1k 101 m1 _ (Ob_C (by (with_reducible repeat (first | apply Ob_alloc | apply Ob_drewN | apply Ob_drew)); exact X4.out)).2.2 (Ob_C X4.out).2.1 HF.out.hd)).mono ?_); rintro e w' ⟨rfl, ⟨nd, rfl⟩⟩; refine ⟨_, rfl, ?_⟩))
 go_ret
 exact ⟨rfl, (by repeat (first | (with_reducible first | exact HB.out | apply below_alloc | apply pw_below_drewN | apply below_drew1) | exact HB.out))⟩
end Go.Proofs.Ytipgcjonidlloaa.F
namespace Go.Proofs.Ytipgcjonidlloaa.F
open Go.RowKit Go.Proofs.YtipgcjonidlloaaW.PrintWords Go.Proofs.YtipgcjonidlloaaW.PrintLast Go.Proofs.YtipgcjonidlloaaW.PrintMore
set_option linter.unusedVariables false
set_option linter.unusedSimpArgs false
def Evt (P : Nat → Prop) : Prop := ∃ K, ∀ k, K ≤ k → P k
theorem Evt.and {P Q : Nat → Prop} (h : Evt P) (h' : Evt Q) : Evt (fun k => P k ∧ Q k) := by
 obtain ⟨K, h⟩ := h
 obtain ⟨K', h'⟩ := h'
 exact ⟨K + K', fun k hk => ⟨h k (by omega), h' k (by omega)⟩⟩
theorem Evt.mono {P Q : Nat → Prop} (h : Evt P) (hq : ∀ k, P k → Q k) : Evt Q := by
 obtain ⟨K, h⟩ := h
 exact ⟨K, fun k hk => hq k (h k hk)⟩
theorem Evt.ex {P : Nat → Prop} (h : Evt P) : ∃ k, P k := by
 obtain ⟨K, h⟩ := h
 exact ⟨K, h K (Nat.le_refl _)⟩
theorem Evt.succ {P : Nat → Prop} (h : Evt (fun k => P (k + 1))) : Evt P := by
 obtain ⟨K, h⟩ := h
 refine ⟨K + 1, fun k hk => ?_⟩
 obtain ⟨m, rfl⟩ : ∃ m, k = m + 1 := ⟨k - 1, by omega⟩
 exact h m (by omega)
theorem w64 {n : Int} (h : -9223372036854775808 ≤ n ∧ n ≤ 9223372036854775807) : wrap64 n = n := by unfold wrap64; omega
theorem room_some (n : Nat) : ∃ t : Int, laws_roomBehind.f (n : Int) = some t ∧ 0 ≤ t ∧ t ≤ n + 1 ∧ (n = 0 → 1 ≤ t) := by
 unfold laws_roomBehind.f
 have h6 : Int.tmod (n : Int) 6 = (n : Int) % 6 := Int.tmod_eq_emod_of_nonneg (by omega)
 have h3 : Int.tmod (n : Int) 3 = (n : Int) % 3 := Int.tmod_eq_emod_of_nonneg (by omega)
 rw [h6, h3]
 by_cases a : (n : Int) % 6 = 5
 ·rw [if_pos a]
  exact ⟨0, rfl, by omega, by omega, by omega⟩
 ·rw [if_neg a]
  by_cases b : (n : Int) % 3 = 0
  ·rw [if_pos b]
   exact ⟨1, rfl, by omega, by omega, by omega⟩
  ·rw [if_neg b]
   exact ⟨n, rfl, by omega, by omega, by omega⟩
theorem getD_at {α : Type} (xs : List α) (z : α) (i : Nat) (h : i < xs.length) : xs.getD ((i : Int)).toNat z = xs[i] := by
 rw [Int.toNat_natCast, List.getD_eq_getElem?_getD, List.getElem?_eq_getElem h]; rfl
theorem take_set_ge {α : Type} (xs : List α) (n i : Nat) (v : α) (h : n ≤ i) : (xs.set i v).take n = xs.take n := by
 apply List.ext_getElem?
 intro j
 simp only [List.getElem?_take, List.getElem?_set]
 by_cases hj : j < n
 ·rw [if_pos hj, if_pos hj, if_neg (by omega)]
 ·rw [if_neg hj, if_neg hj]
theorem take_set_snoc {α : Type} (xs : List α) (i : Nat) (v : α) (h : i < xs.length) : (xs.set i v).take (i + 1) = xs.take i ++ [v] := by
 rw [List.take_succ_eq_append_getElem (by simpa using h), take_set_ge _ _ _ _ (Nat.le_refl _), List.getElem_set_self]
def allF (p : Nat → Bool) : Nat → Nat → Bool
 | _, 0 => true
 | i, d + 1 => p i && allF p (i + 1) d
theorem allF_true {p : Nat → Bool} : ∀ (d i : Nat), allF p i d = true ↔ ∀ j, i ≤ j → j < i + d → p j = true
 | 0, i => by simp [allF]; intro j h1 h2; omega
 | d + 1, i => by
  unfold allF
  rw [Bool.and_eq_true, allF_true d (i + 1)]
  constructor
  ·rintro ⟨h1, h2⟩ j h3 h4
   rcases Nat.eq_or_lt_of_le h3 with e | e
   ·exact e ▸ h1
   ·exact h2 j e (by omega)
  ·exact fun h => ⟨h i (Nat.le_refl _) (by omega), fun j h1 h2 => h j (by omega) (by omega)⟩
theorem all_loopF {f : Nat → Nat → Option Bool} {p : Nat → Bool} {e : Bool} (a n : Nat) (hs : ∀ k i, a ≤ i → i < n → f (k + 1) i = if p i = true then f k (i + 1) else some false) (he : ∀ k, f (k + 1) n = some e) :
  ∀ d k i, a ≤ i → n - i = d → i ≤ n → d < k → f k i = some (allF p i d && e) := by
 intro d
 induction d with
 | zero =>
  intro k i ha hd hi hk
  obtain ⟨k, rfl⟩ : ∃ m, k = m + 1 := ⟨k - 1, by omega⟩
  have : i = n := by omega
  subst this
  rw [he]
  rfl
 | succ d ih =>
  intro k i ha hd hi hk
  obtain ⟨k, rfl⟩ : ∃ m, k = m + 1 := ⟨k - 1, by omega⟩
  rw [hs k i ha (by omega)]
  unfold allF
  by_cases hp : p i = true
  ·rw [if_pos hp, ih k (i + 1) (by omega) (by omega) (by omega) (by omega), hp, Bool.true_and]
  ·rw [if_neg hp]
   replace hp := Bool.eq_false_iff.mpr hp
   rw [hp, Bool.false_and, Bool.false_and]
theorem all_loop {f : Nat → Nat → Option Bool} {p : Nat → Bool} {e : Bool} (n : Nat) (hs : ∀ k i, i < n → f (k + 1) i = if p i = true then f k (i + 1) else some false) (he : ∀ k, f (k + 1) n = some e) :
  ∀ d k i, n - i = d → i ≤ n → d < k → f k i = some (allF p i d && e) := fun d k i => all_loopF 0 n (fun k i _ h => hs k i h) he d k i (Nat.zero_le _)
def inB (n lo hi : Int) : Bool := decide (lo ≤ n ∧ n ≤ hi)
theorem inB_true {n lo hi : Int} : inB n lo hi = true ↔ lo ≤ n ∧ n ≤ hi := by unfold inB; exact decide_eq_true_iff
theorem set_set {α : Type} (xs : List α) (i : Nat) (a b : α) : (xs.set i a).set i b = xs.set i b := by simp
theorem getD_set {α : Type} (xs : List α) (i : Nat) (v z : α) (h : i < xs.length) : (xs.set i v).getD i z = v := by
 rw [List.getD_eq_getElem?_getD, List.getElem?_set_self h]; rfl
theorem set_take_app {α : Type} (xs ys : List α) (i : Nat) (v : α) (hi : i < xs.length) : ((xs.set i v).take (i + 1)) ++ ys = xs.take i ++ (v :: ys) := by
 rw [take_set_snoc _ _ _ hi, List.append_assoc, List.singleton_append]
theorem getD_app {α : Type} (xs ys : List α) (z : α) (i : Nat) (h : xs.length = i) : (xs ++ ys).getD i z = ys.getD 0 z := by
 rw [List.getD_eq_getElem?_getD, List.getD_eq_getElem?_getD, List.getElem?_append_right (by omega), h, Nat.sub_self]
end Go.Proofs.Ytipgcjonidlloaa.F
namespace Go.Proofs.Ytipgcjonidlloaa.F
open Go.RowKit Go.Proofs.YtipgcjonidlloaaW.PrintWords Go.Proofs.YtipgcjonidlloaaW.PrintLast Go.Proofs.YtipgcjonidlloaaW.PrintMore
set_option linter.unusedVariables false
set_option linter.unusedSimpArgs false
def conv_FuseS (x : S46) : S44 := ⟨x.f0, x.f1, x.f2, x.f3⟩
theorem full_FuseS_l1 (d : Nat) : ∀ (k : Nat) (x0 : List S46) (x5 : List S44) (i : Nat), x5.length - i = d → x0.length ≤ i → i ≤ x5.length → x5.length ≤ 4000000 → d < k →
  full_toFuseS.l1 k x0 x5 (i : Int) = some (x5.take i ++ List.replicate d (⟨(-7000000000000000101), (-7000000000000000101), (-7000000000000000101), (-7000000000000000101)⟩ : S44)) := by
 induction d with
 | zero =>
  intro k x0 x5 i hd h1 h2 h3 hk
  obtain ⟨k, rfl⟩ : ∃ m, k = m + 1 := ⟨k - 1, by omega⟩
  simp only [full_toFuseS.l1]
  rw [if_neg (by omega), if_pos (by omega), if_pos (by omega), List.take_of_length_le (by omega)]
  simp
 | succ d ih =>
  intro k x0 x5 i hd h1 h2 h3 hk
  obtain ⟨k, rfl⟩ : ∃ m, k = m + 1 := ⟨k - 1, by omega⟩
  have hr := ih k x0 (x5.set i (⟨(-7000000000000000101), (-7000000000000000101), (-7000000000000000101), (-7000000000000000101)⟩ : S44)) (i + 1) (by rw [List.length_set]; omega) (by omega) (by rw [List.length_set]; omega) (by rw [List.length_set]; omega) (by omega)
  rw [take_set_snoc _ _ _ (by omega), List.append_assoc, List.singleton_append, ← List.replicate_succ] at hr
  rw [← hr]
  simp only [full_toFuseS.l1, laws_fillerFuse.f, Option.bind_some]
  rw [if_pos (by omega)]
  rw [if_pos (by omega), w64 (by omega)]
  rfl
theorem full_FuseS_l0 (d : Nat) : ∀ (k : Nat) (x0 : List S46) (x5 : List S44) (i : Nat), x0.length - i = d → i ≤ x0.length → x0.length ≤ x5.length → x5.length ≤ 4000000 → x5.take i = (x0.take i).map conv_FuseS → d + x5.length + 1 < k →
  full_toFuseS.l0 k x0 x5 (i : Int) = some (x0.map conv_FuseS ++ List.replicate (x5.length - x0.length) (⟨(-7000000000000000101), (-7000000000000000101), (-7000000000000000101), (-7000000000000000101)⟩ : S44)) := by
 induction d with
 | zero =>
  intro k x0 x5 i hd h1 h2 h3 h4 hk
  obtain ⟨k, rfl⟩ : ∃ m, k = m + 1 := ⟨k - 1, by omega⟩
  simp only [full_toFuseS.l0]
  rw [if_neg (by omega), full_FuseS_l1 (x5.length - x0.length) k x0 x5 x0.length rfl (Nat.le_refl _) h2 h3 (by omega)]
  have e : i = x0.length := by omega
  subst e
  rw [h4, List.take_length]
 | succ d ih =>
  intro k x0 x5 i hd h1 h2 h3 h4 hk
  obtain ⟨k, rfl⟩ : ∃ m, k = m + 1 := ⟨k - 1, by omega⟩
  have hi : i < x0.length := by omega
  have h5 : (x5.set i (conv_FuseS x0[i])).take (i + 1) = (x0.take (i + 1)).map conv_FuseS := by
   rw [take_set_snoc _ _ _ (by omega), h4, List.take_succ_eq_append_getElem hi, List.map_append]; rfl
  have hr := ih k x0 (x5.set i (conv_FuseS x0[i])) (i + 1) (by omega) (by omega) (by rw [List.length_set]; omega) (by rw [List.length_set]; omega) h5 (by rw [List.length_set]; omega)
  rw [List.length_set] at hr
  rw [← hr]
  simp only [full_toFuseS.l0, laws_toFuse.f, Option.bind_some]
  rw [if_pos (by omega), if_pos (by omega)]
  rw [if_pos (by omega), w64 (by omega), rd_T46, getD_at _ _ _ hi]
  rfl
theorem to_FuseS_l1 (d : Nat) : ∀ (k : Nat) (x0 : List S46) (x5 : List S44) (i : Nat), x5.length - i = d → x0.length ≤ i → i ≤ x5.length → x5.length ≤ 4000000 → d < k →
  laws_toFuseS.l1 k x0 x5 (i : Int) = some (x5.take x0.length) := by
 induction d with
 | zero =>
  intro k x0 x5 i hd h1 h2 h3 hk
  obtain ⟨k, rfl⟩ : ∃ m, k = m + 1 := ⟨k - 1, by omega⟩
  simp only [laws_toFuseS.l1]; rw [if_neg (by omega), if_pos (by omega), if_pos (by omega), Int.toNat_natCast]
 | succ d ih =>
  intro k x0 x5 i hd h1 h2 h3 hk
  obtain ⟨k, rfl⟩ : ∃ m, k = m + 1 := ⟨k - 1, by omega⟩
  have hr := ih k x0 (x5.set i (⟨(-7000000000000000101), (-7000000000000000101), (-7000000000000000101), (-7000000000000000101)⟩ : S44)) (i + 1) (by rw [List.length_set]; omega) (by omega) (by rw [List.length_set]; omega) (by rw [List.length_set]; omega) (by omega)
  rw [take_set_ge _ _ _ _ h1] at hr
  rw [← hr]
  simp only [laws_toFuseS.l1, laws_fillerFuse.f, Option.bind_some]
  rw [if_pos (by omega)]
  rw [if_pos (by omega), w64 (by omega)]
  rfl
theorem to_FuseS_l0 (d : Nat) : ∀ (k : Nat) (x0 : List S46) (x5 : List S44) (i : Nat), x0.length - i = d → i ≤ x0.length → x0.length ≤ x5.length → x5.length ≤ 4000000 → x5.take i = (x0.take i).map conv_FuseS → d + x5.length + 1 < k →
  laws_toFuseS.l0 k x0 x5 (i : Int) = some (x0.map conv_FuseS) := by
 induction d with
 | zero =>
  intro k x0 x5 i hd h1 h2 h3 h4 hk
  obtain ⟨k, rfl⟩ : ∃ m, k = m + 1 := ⟨k - 1, by omega⟩
  simp only [laws_toFuseS.l0]
  rw [if_neg (by omega), to_FuseS_l1 (x5.length - x0.length) k x0 x5 x0.length rfl (Nat.le_refl _) h2 h3 (by omega)]
  have e : i = x0.length := by omega
  subst e
  rw [h4, List.take_length]
 | succ d ih =>
  intro k x0 x5 i hd h1 h2 h3 h4 hk
  obtain ⟨k, rfl⟩ : ∃ m, k = m + 1 := ⟨k - 1, by omega⟩
  have hi : i < x0.length := by omega
  have h5 : (x5.set i (conv_FuseS x0[i])).take (i + 1) = (x0.take (i + 1)).map conv_FuseS := by
   rw [take_set_snoc _ _ _ (by omega), h4, List.take_succ_eq_append_getElem hi, List.map_append]; rfl
  have hr := ih k x0 (x5.set i (conv_FuseS x0[i])) (i + 1) (by omega) (by omega) (by rw [List.length_set]; omega) (by rw [List.length_set]; omega) h5 (by rw [List.length_set]; omega)
  rw [← hr]
  simp only [laws_toFuseS.l0, laws_toFuse.f, Option.bind_some]
  rw [if_pos (by omega), if_pos (by omega)]
  rw [if_pos (by omega), w64 (by omega), rd_T46, getD_at _ _ _ hi]
  rfl
theorem to_FuseS (l : List S46) (hl : l.length ≤ 1000000) : ∃ (L : List S44) (t : Int), L ≠ [] ∧ (l.map conv_FuseS = L.take l.length ∧ l.length ≤ L.length) ∧ (l.map conv_FuseS).length = l.length ∧ L.length ≤ 2000001 ∧
  laws_roomBehind.f ((l.map conv_FuseS).length : Int) = some t ∧ wrap64 (((l.map conv_FuseS).length : Int) + t) = (L.length : Int) ∧
  Evt (fun k => full_toFuseS.f k l false = some L) ∧ Evt (fun k => laws_toFuseS.f k l true = some (l.map conv_FuseS)) := by
 obtain ⟨t, ht, h0, h1, h2⟩ := room_some l.length
 have hw : wrap64 ((l.length : Int) + t) = (l.length : Int) + t := w64 (by omega)
 have hn : ((l.length : Int) + t).toNat = l.length + t.toNat := by omega
 have hm : (l.map conv_FuseS).length = l.length := List.length_map _
 have hlen : (l.map conv_FuseS ++ List.replicate (l.length + t.toNat - l.length) (⟨(-7000000000000000101), (-7000000000000000101), (-7000000000000000101), (-7000000000000000101)⟩ : S44)).length = l.length + t.toNat := by rw [List.length_append, List.length_replicate, hm]; omega
 refine ⟨l.map conv_FuseS ++ List.replicate (l.length + t.toNat - l.length) (⟨(-7000000000000000101), (-7000000000000000101), (-7000000000000000101), (-7000000000000000101)⟩ : S44), t, ?_, ⟨?_, by omega⟩, hm, by omega, by rw [hm]; exact ht, by rw [hm, hw, hlen]; omega, ?_, ?_⟩
 ·intro e
  rw [e] at hlen
  simp at hlen
  have := h2 (by omega)
  omega
 ·rw [← hm, List.take_left]
 ·refine Evt.succ ⟨l.length + (l.length + t.toNat) + 2, fun k hk => ?_⟩
  show full_toFuseS.f (k + 1) l false = _
  unfold full_toFuseS.f
  rw [if_neg (by decide)]
  simp only [full_toFuseS.j0]
  rw [if_neg (by decide), ht]
  simp only [Option.bind_some]
  rw [hw, if_pos (by omega), hn, if_pos (by omega)]
  have z := full_FuseS_l0 l.length k l (List.replicate (l.length + t.toNat) z44) 0 (by omega) (by omega) (by rw [List.length_replicate]; omega) (by rw [List.length_replicate]; omega) (by simp) (by rw [List.length_replicate]; omega)
  rw [List.length_replicate] at z
  exact z
 ·refine Evt.succ ⟨l.length + (l.length + t.toNat) + 2, fun k hk => ?_⟩
  show laws_toFuseS.f (k + 1) l true = _
  unfold laws_toFuseS.f
  rw [if_pos rfl]
  simp only [laws_toFuseS.j0]
  by_cases e : l.length = 0
  ·have e2 : l = [] := List.length_eq_zero_iff.mp e
   subst e2
   rfl
  ·have e3 : ((l.length : Int) == 0) = false := by rw [beq_eq_false_iff_ne]; omega
   rw [e3, if_neg (by decide), ht]
   simp only [Option.bind_some]
   rw [hw, if_pos (by omega), hn, if_pos (by omega)]
   exact to_FuseS_l0 l.length k l (List.replicate (l.length + t.toNat) z44) 0 (by omega) (by omega) (by rw [List.length_replicate]; omega) (by rw [List.length_replicate]; omega) (by simp) (by rw [List.length_replicate]; omega)
theorem eq_FuseS_l0 (d : Nat) : ∀ (k : Nat) (xs : List S44) (i : Nat), xs.length - i = d → i ≤ xs.length → xs.length ≤ 4000000 → d < k → laws_eqFuseS.l0 k xs xs (i : Int) = some true := by
 induction d with
 | zero =>
  intro k xs i hd h1 h2 hk
  obtain ⟨k, rfl⟩ : ∃ m, k = m + 1 := ⟨k - 1, by omega⟩
  simp only [laws_eqFuseS.l0]; rw [if_neg (by omega)]
 | succ d ih =>
  intro k xs i hd h1 h2 hk
  obtain ⟨k, rfl⟩ : ∃ m, k = m + 1 := ⟨k - 1, by omega⟩
  have hr := ih k xs (i + 1) (by omega) (by omega) h2 (by omega)
  simp only [laws_eqFuseS.l0, laws_eqFuse.f, if_true, Option.bind_some]
  rw [if_pos (by omega), if_pos (by omega), if_pos (by omega), w64 (by omega)]
  exact hr
theorem eq_FuseS (xs : List S44) (h : xs.length ≤ 4000000) : Evt (fun k => laws_eqFuseS.f k xs xs = some true) := by
 refine ⟨xs.length + 1, fun k hk => ?_⟩
 show laws_eqFuseS.f k xs xs = _
 unfold laws_eqFuseS.f
 rw [if_pos rfl]
 exact eq_FuseS_l0 xs.length k xs 0 (by omega) (by omega) h (by omega)
theorem sz_FuseS (l : List S46) (a : Int) (h0 : 0 ≤ a) (h1 : a ≤ 1000000) (hl : l.length ≤ maxLen) :
  (l.length ≤ a ∧ laws_szFuseS.f l a = some (a - l.length)) ∨ laws_szFuseS.f l a = some (-1) := by
 unfold maxLen at hl
 unfold laws_szFuseS.f
 rw [w64 (by omega)]
 by_cases h : a - (l.length : Int) < 0
 ·rw [if_pos h]
  exact .inr rfl
 ·rw [if_neg h]
  exact .inl ⟨by omega, rfl⟩
def PrI44 (x : S44) : Prop := I64 x.f0 ∧ I64 x.f1 ∧ I64 x.f2 ∧ I64 x.f3
theorem prc_FuseS {l : List S46} (h : ∀ x ∈ l, Pr46 x) : ∀ x ∈ l.map conv_FuseS, PrI44 x := by
 intro x hx
 obtain ⟨y, hy, rfl⟩ := List.mem_map.1 hx
 exact h y hy
def seq_FuseS : Nat → Int → List S44
 | 0, _ => []
 | d + 1, c => (⟨c, c + 1, c + 2, c + 3⟩ : S44) :: seq_FuseS d (c + 4)
theorem mark_FuseS_l0 (d : Nat) : ∀ (k : Nat) (xs : List S44) (c : Int) (i : Nat), xs.length - i = d → i ≤ xs.length → xs.length ≤ 4000000 → 0 ≤ c → c ≤ 1000000000 - 4 * (xs.length - i : Nat) → d < k →
  laws_markFuseS.l0 k xs c (i : Int) = some (c + 4 * d, xs.take i ++ seq_FuseS d c) := by
 induction d with
 | zero =>
  intro k xs c i hd h1 h2 h3 h4 hk
  obtain ⟨k, rfl⟩ : ∃ m, k = m + 1 := ⟨k - 1, by omega⟩
  simp only [laws_markFuseS.l0, seq_FuseS]
  rw [if_neg (by omega), List.take_of_length_le (by omega), List.append_nil]
  congr 2; omega
 | succ d ih =>
  intro k xs c i hd h1 h2 h3 h4 hk
  obtain ⟨k, rfl⟩ : ∃ m, k = m + 1 := ⟨k - 1, by omega⟩
  have hr := ih k (xs.set i (⟨c, c + 1, c + 2, c + 3⟩ : S44)) (c + 4) (i + 1) (by rw [List.length_set]; omega) (by rw [List.length_set]; omega) (by rw [List.length_set]; omega) (by omega) (by rw [List.length_set]; omega) (by omega)
  rw [set_take_app _ _ _ _ (by omega)] at hr
  have e : c + 4 * ((d + 1 : Nat) : Int) = c + 4 + 4 * (d : Int) := by omega
  rw [e]
  show _ = some (c + 4 + 4 * (d : Int), xs.take i ++ (⟨c, c + 1, c + 2, c + 3⟩ : S44) :: seq_FuseS d (c + 4))
  rw [← hr]
  simp only [laws_markFuseS.l0, Option.bind_some]
  rw [if_pos (by omega), if_pos (by omega)]
  have w1 : wrap64 (c + 1) = c + 1 := by rw [w64 (by omega)]
  have w2 : wrap64 (c + 1 + 1) = c + 2 := by rw [w64 (by omega)]; omega
  have w3 : wrap64 (c + 2 + 1) = c + 3 := by rw [w64 (by omega)]; omega
  have w4 : wrap64 (c + 3 + 1) = c + 4 := by rw [w64 (by omega)]; omega
  rw [w1, w2, w3, w4, w64 (n := (i : Int) + 1) (by omega)]
  simp only [Int.toNat_natCast]
  have rs : ∀ v : S44, rd_T44 (xs.set i v) (i : Int) = v := fun v => by unfold rd_T44; rw [Int.toNat_natCast, getD_set _ _ _ _ (by omega)]
  simp only [set_set, rs]
  rfl
theorem mark_FuseS (xs : List S44) (c : Int) (hx : xs.length ≤ 4000000) (h0 : 0 ≤ c) (h1 : c ≤ 900000000) : Evt (fun k => laws_markFuseS.f k xs c = some (c + 4 * (xs.length : Int), seq_FuseS xs.length c)) := by
 refine ⟨xs.length + 1, fun k hk => ?_⟩
 show laws_markFuseS.f k xs c = _
 unfold laws_markFuseS.f
 exact mark_FuseS_l0 xs.length k xs c 0 (by omega) (by omega) hx h0 (by omega) (by omega)
end Go.Proofs.Ytipgcjonidlloaa.F
namespace Go.Proofs.Ytipgcjonidlloaa.F
open Go.RowKit Go.Proofs.YtipgcjonidlloaaW.PrintWords Go.Proofs.YtipgcjonidlloaaW.PrintLast Go.Proofs.YtipgcjonidlloaaW.PrintMore
set_option linter.unusedVariables false
set_option linter.unusedSimpArgs false
theorem eq_Int64S_l0 (d : Nat) : ∀ (k : Nat) (xs : List Int) (i : Nat), xs.length - i = d → i ≤ xs.length → xs.length ≤ 4000000 → d < k → laws_eqInt64S.l0 k xs xs (i : Int) = some true := by
 induction d with
 | zero =>
  intro k xs i hd h1 h2 hk
  obtain ⟨k, rfl⟩ : ∃ m, k = m + 1 := ⟨k - 1, by omega⟩
  simp only [laws_eqInt64S.l0]; rw [if_neg (by omega)]
 | succ d ih =>
  intro k xs i hd h1 h2 hk
  obtain ⟨k, rfl⟩ : ∃ m, k = m + 1 := ⟨k - 1, by omega⟩
  have hr := ih k xs (i + 1) (by omega) (by omega) h2 (by omega)
  simp only [laws_eqInt64S.l0, if_true]
  rw [if_pos (by omega), if_pos (by omega), if_pos (by omega), w64 (by omega)]
  exact hr
theorem eq_Int64S (xs : List Int) (h : xs.length ≤ 4000000) : Evt (fun k => laws_eqInt64S.f k xs xs = some true) := by
 refine ⟨xs.length + 1, fun k hk => ?_⟩
 show laws_eqInt64S.f k xs xs = _
 unfold laws_eqInt64S.f
 rw [if_pos rfl]
 exact eq_Int64S_l0 xs.length k xs 0 (by omega) (by omega) h (by omega)
def seq_Int64S : Nat → Int → List Int
 | 0, _ => []
 | d + 1, c => c :: seq_Int64S d (c + 1)
theorem seq_Int64S_len : ∀ (d : Nat) (c : Int), (seq_Int64S d c).length = d
 | 0, _ => rfl
 | d + 1, c => by unfold seq_Int64S; rw [List.length_cons, seq_Int64S_len d]
theorem mark_Int64S_l0 (d : Nat) : ∀ (k : Nat) (xs : List Int) (c : Int) (i : Nat), xs.length - i = d → i ≤ xs.length → xs.length ≤ 4000000 → 0 ≤ c → c ≤ 1000000000 - 1 * (xs.length - i : Nat) → d < k →
  laws_markInt64S.l0 k xs c (i : Int) = some (c + 1 * d, xs.take i ++ seq_Int64S d c) := by
 induction d with
 | zero =>
  intro k xs c i hd h1 h2 h3 h4 hk
  obtain ⟨k, rfl⟩ : ∃ m, k = m + 1 := ⟨k - 1, by omega⟩
  simp only [laws_markInt64S.l0, seq_Int64S]
  rw [if_neg (by omega), List.take_of_length_le (by omega), List.append_nil]
  congr 2; omega
 | succ d ih =>
  intro k xs c i hd h1 h2 h3 h4 hk
  obtain ⟨k, rfl⟩ : ∃ m, k = m + 1 := ⟨k - 1, by omega⟩
  have hr := ih k (xs.set i c) (c + 1) (i + 1) (by rw [List.length_set]; omega) (by rw [List.length_set]; omega) (by rw [List.length_set]; omega) (by omega) (by rw [List.length_set]; omega) (by omega)
  rw [set_take_app _ _ _ _ (by omega)] at hr
  have e : c + 1 * ((d + 1 : Nat) : Int) = c + 1 + 1 * (d : Int) := by omega
  rw [e]
  show _ = some (c + 1 + 1 * (d : Int), xs.take i ++ c :: seq_Int64S d (c + 1))
  rw [← hr]
  simp only [laws_markInt64S.l0, Option.bind_some]
  rw [if_pos (by omega), if_pos (by omega)]
  have w1 : wrap64 (c + 1) = c + 1 := by rw [w64 (by omega)]
  rw [w1, w64 (n := (i : Int) + 1) (by omega)]
  rw [Int.toNat_natCast]
  rfl
theorem mark_Int64S (xs : List Int) (c : Int) (hx : xs.length ≤ 4000000) (h0 : 0 ≤ c) (h1 : c ≤ 900000000) : Evt (fun k => laws_markInt64S.f k xs c = some (c + 1 * (xs.length : Int), seq_Int64S xs.length c)) := by
 refine ⟨xs.length + 1, fun k hk => ?_⟩
 show laws_markInt64S.f k xs c = _
 unfold laws_markInt64S.f
 exact mark_Int64S_l0 xs.length k xs c 0 (by omega) (by omega) hx h0 (by omega) (by omega)
theorem held_Int64S_l0 (d : Nat) : ∀ (k : Nat) (pre : List Int) (c : Int) (i : Nat), pre.length = i → pre.length + d ≤ 4000000 → 0 ≤ c → c ≤ 1000000000 - 1 * d → d < k →
  laws_heldInt64S.l0 k (pre ++ seq_Int64S d c) c (i : Int) = some (c + 1 * d) := by
 induction d with
 | zero =>
  intro k pre c i hd h1 h2 h3 hk
  obtain ⟨k, rfl⟩ : ∃ m, k = m + 1 := ⟨k - 1, by omega⟩
  simp only [laws_heldInt64S.l0, seq_Int64S, List.append_nil]
  rw [if_neg (by omega)]
  congr 1; omega
 | succ d ih =>
  intro k pre c i hd h1 h2 h3 hk
  obtain ⟨k, rfl⟩ : ∃ m, k = m + 1 := ⟨k - 1, by omega⟩
  have hr := ih k (pre ++ [c]) (c + 1) (i + 1) (by rw [List.length_append, List.length_singleton]; omega) (by rw [List.length_append, List.length_singleton]; omega) (by omega) (by omega) (by omega)
  rw [List.append_assoc, List.singleton_append] at hr
  have e : c + 1 * ((d + 1 : Nat) : Int) = c + 1 + 1 * (d : Int) := by omega
  have hlen : (pre ++ c :: seq_Int64S d (c + 1)).length = pre.length + (d + 1) := by rw [List.length_append, List.length_cons, seq_Int64S_len]
  have hrd : rd (pre ++ c :: seq_Int64S d (c + 1)) (i : Int) = c := by
   unfold rd
   rw [Int.toNat_natCast, getD_app _ _ _ _ hd]
   rfl
  rw [e, ← hr]
  show laws_heldInt64S.l0 (k + 1) (pre ++ c :: seq_Int64S d (c + 1)) c (i : Int) = _
  simp only [laws_heldInt64S.l0, hrd]
  rw [if_pos (by omega), if_pos (by omega)]
  have w1 : wrap64 (c + 1) = c + 1 := by rw [w64 (by omega)]
  rw [w1, w64 (n := (i : Int) + 1) (by omega)]
  simp only [if_true]
  rfl
theorem held_Int64S (n : Nat) (c : Int) (hx : n ≤ 4000000) (h0 : 0 ≤ c) (h1 : c ≤ 900000000) : Evt (fun k => laws_heldInt64S.f k (seq_Int64S n c) c = some (c + 1 * (n : Int))) := by
 refine ⟨n + 1, fun k hk => ?_⟩
 show laws_heldInt64S.f k (seq_Int64S n c) c = _
 unfold laws_heldInt64S.f
 exact held_Int64S_l0 n k [] c 0 rfl (by simp; omega) h0 (by omega) (by omega)
end Go.Proofs.Ytipgcjonidlloaa.F
namespace Go.Proofs.Ytipgcjonidlloaa.F
open Go.RowKit Go.Proofs.YtipgcjonidlloaaW.PrintWords Go.Proofs.YtipgcjonidlloaaW.PrintLast Go.Proofs.YtipgcjonidlloaaW.PrintMore
set_option linter.unusedVariables false
set_option linter.unusedSimpArgs false
theorem In_eq (n lo hi : Int) : spec_l01In.f n lo hi = some (inB n lo hi) := by
 unfold spec_l01In.f inB
 by_cases h : n ≥ lo
 ·rw [if_pos h]; congr 1; simp; omega
 ·rw [if_neg h]; congr 1; simp; omega
theorem Wi_eq (n lo hi : Int) : impl_within.f n lo hi = some (inB n lo hi) := by
 unfold impl_within.f inB
 by_cases h : lo ≤ n
 ·rw [if_pos h]; congr 1; simp; omega
 ·rw [if_neg h]; congr 1; simp; omega
end Go.Proofs.Ytipgcjonidlloaa.F
namespace Go.Proofs.Ytipgcjonidlloaa.F
open Go.RowKit Go.Proofs.YtipgcjonidlloaaW.PrintWords Go.Proofs.YtipgcjonidlloaaW.PrintLast Go.Proofs.YtipgcjonidlloaaW.PrintMore
set_option linter.unusedVariables false
set_option linter.unusedSimpArgs false
def fu_at (xs : List S44) (i : Nat) : S44 := xs.getD i z44
def fuseAt (n : Int) (xs : List S44) (i : Nat) : Bool := inB (fu_at xs i).f0 0 (wrap64 (n - 1)) && (inB (fu_at xs i).f1 (wrap64 ((fu_at xs i).f0 + 1)) (wrap64 (n - 1)) && (inB (fu_at xs i).f2 0 100000 && inB (fu_at xs i).f3 (fu_at xs i).f2 100000))
def areFuses (n : Int) (xs : List S44) : Bool := allF (fuseAt n xs) 0 xs.length && (inB n 1 10 && decide ((xs.length : Int) ≤ 20))
theorem rd_fuse (xs : List S44) (i : Nat) : rd_T44 xs (i : Int) = fu_at xs i := by unfold rd_T44 fu_at; rw [Int.toNat_natCast]
theorem spec_fuses (n : Int) (xs : List S44) (hx : xs.length ≤ 4000000) (k : Nat) (hk : xs.length < k) : spec_AreFuses.f k n xs = some (areFuses n xs) := by
 refine all_loop (f := fun k i => spec_AreFuses.l0 k n xs (i : Int)) xs.length (fun k i hi => ?_) (fun k => ?_) xs.length k 0 (by omega) (by omega) (by omega)
 ·show spec_AreFuses.l0 (k + 1) n xs i = _
  simp only [spec_AreFuses.l0, In_eq, Option.bind_some]
  rw [if_pos (by omega), if_pos (by omega), w64 (n := (i : Int) + 1) (by omega), rd_fuse]
  unfold fuseAt
  cases inB (fu_at xs i).f0 0 (wrap64 (n - 1)) <;> cases inB (fu_at xs i).f1 (wrap64 ((fu_at xs i).f0 + 1)) (wrap64 (n - 1)) <;> cases inB (fu_at xs i).f2 0 100000 <;> cases inB (fu_at xs i).f3 (fu_at xs i).f2 100000 <;> rfl
 ·show spec_AreFuses.l0 (k + 1) n xs _ = _
  simp only [spec_AreFuses.l0, In_eq, Option.bind_some]
  rw [if_neg (by omega)]
  cases inB n 1 10 <;> rfl
theorem impl_fuses (n : Int) (xs : List S44) (hx : xs.length ≤ 4000000) (k : Nat) (hk : xs.length + 1 < k) : impl_AreFuses.f k n xs = some (areFuses n xs) := by
 obtain ⟨k, rfl⟩ : ∃ m, k = m + 1 := ⟨k - 1, by omega⟩
 unfold impl_AreFuses.f areFuses
 simp only [impl_AreFuses.j0, Wi_eq, Option.bind_some]
 cases h1 : inB n 1 10 with
 | false => rw [if_neg (by decide), if_pos trivial, Bool.false_and, Bool.and_false]
 | true =>
  rw [if_pos rfl, Bool.true_and]
  by_cases h2 : (xs.length : Int) > 20
  ·rw [if_pos (decide_eq_true h2), decide_eq_false (by omega : ¬ ((xs.length : Int) ≤ 20)), Bool.and_false]
  ·rw [if_neg (by simpa using h2), decide_eq_true (by omega : ((xs.length : Int) ≤ 20))]
   refine all_loop (f := fun k i => impl_AreFuses.l0 k n xs (xs.length : Int) (i : Int)) xs.length (fun k i hi => ?_) (fun k => ?_) xs.length k 0 (by omega) (by omega) (by omega)
   ·show impl_AreFuses.l0 (k + 1) n xs (xs.length : Int) i = _
    simp only [impl_AreFuses.l0, Wi_eq, Option.bind_some]
    rw [if_pos (by omega), if_pos (by omega), if_pos (by omega), w64 (n := (i : Int) + 1) (by omega), rd_fuse]
    unfold fuseAt
    cases inB (fu_at xs i).f0 0 (wrap64 (n - 1)) <;> cases inB (fu_at xs i).f1 (wrap64 ((fu_at xs i).f0 + 1)) (wrap64 (n - 1)) <;> cases inB (fu_at xs i).f2 0 100000 <;> cases inB (fu_at xs i).f3 (fu_at xs i).f2 100000 <;> rfl
   ·show impl_AreFuses.l0 (k + 1) n xs (xs.length : Int) _ = _
    simp only [impl_AreFuses.l0]
    rw [if_neg (by omega)]
end Go.Proofs.Ytipgcjonidlloaa.F
namespace Go.Proofs.Ytipgcjonidlloaa.F
open Go.RowKit Go.Proofs.YtipgcjonidlloaaW.PrintWords Go.Proofs.YtipgcjonidlloaaW.PrintLast Go.Proofs.YtipgcjonidlloaaW.PrintMore
set_option linter.unusedVariables false
set_option linter.unusedSimpArgs false
theorem areFuses_true {n : Int} {xs : List S44} (h : areFuses n xs = true) : ∃ m : Nat, n = (m : Int) ∧ 1 ≤ m ∧ m ≤ 10 ∧ xs.length ≤ 20 ∧ ∀ i, i < xs.length → 0 ≤ (fu_at xs i).f0 ∧ (fu_at xs i).f0 < (fu_at xs i).f1 ∧ (fu_at xs i).f1 < (m : Int) ∧ 0 ≤ (fu_at xs i).f2 ∧ (fu_at xs i).f2 ≤ (fu_at xs i).f3 ∧ (fu_at xs i).f3 ≤ 100000 := by
 unfold areFuses at h
 rw [Bool.and_eq_true, Bool.and_eq_true, allF_true, inB_true, decide_eq_true_iff] at h
 obtain ⟨h1, h2, h3⟩ := h
 refine ⟨n.toNat, by omega, by omega, by omega, by omega, fun i hi => ?_⟩
 have := h1 i (by omega) (by omega)
 unfold fuseAt at this
 rw [Bool.and_eq_true, Bool.and_eq_true, Bool.and_eq_true, inB_true, inB_true, inB_true, inB_true, w64 (by omega)] at this
 obtain ⟨a, b, c, d⟩ := this
 rw [w64 (by omega)] at b
 omega
theorem set0 (xs : List Int) (v : Nat) (y : Int) (h : 0 < v) : (xs.set v y).getD 0 0 = xs.getD 0 0 := by
 rw [List.getD_eq_getElem?_getD, List.getD_eq_getElem?_getD, List.getElem?_set_ne (by omega)]
theorem tstep {m : Nat} {xs : List S44} (hx : xs.length ≤ 20) (E L : List Int) (hE : E.length = m) (hL : L.length = m) (v i : Nat) (h0 : 0 < v) (hv : v < m) (hi : i < xs.length) (hf : 0 ≤ (fu_at xs i).f0 ∧ (fu_at xs i).f0 < (m : Int)) :
  ∃ E' L' b, 2 ≤ b ∧ b ≤ 3 ∧ E'.length = m ∧ L'.length = m ∧ E'.getD 0 0 = E.getD 0 0 ∧ (∀ k, spec_l10Times.l1 (k + b) (m : Int) xs E L (v : Int) (i : Int) = spec_l10Times.l1 k (m : Int) xs E' L' (v : Int) ((i + 1 : Nat) : Int)) ∧ (∀ k, impl_litTimes.l1 (k + b) (m : Int) xs E L (v : Int) xs (xs.length : Int) (i : Int) = impl_litTimes.l1 k (m : Int) xs E' L' (v : Int) xs (xs.length : Int) ((i + 1 : Nat) : Int)) := by
 have g1 : (i : Int) < (xs.length : Int) := by omega
 have g2 : 0 ≤ (i : Int) := by omega
 have hw : wrap64 ((i : Int) + 1) = ((i + 1 : Nat) : Int) := w64 (by omega)
 have v0 : 0 ≤ (v : Int) := by omega
 have vE : (v : Int) < (E.length : Int) := by omega
 have vL : (v : Int) < (L.length : Int) := by omega
 have fE : (fu_at xs i).f0 < (E.length : Int) := by omega
 have fL : (fu_at xs i).f0 < (L.length : Int) := by omega
 have f0 := hf.1
 have et : ((v : Int)).toNat = v := Int.toNat_natCast v
 have lE : ∀ y, (E.set v y).length = m := fun y => by rw [List.length_set]; exact hE
 have lL : ∀ y, (L.set v y).length = m := fun y => by rw [List.length_set]; exact hL
 by_cases c1 : (fu_at xs i).f1 = (v : Int)
 ·by_cases c2 : rd E (fu_at xs i).f0 < 0
  ·refine ⟨E, L, 2, by omega, by omega, hE, hL, rfl, fun k => ?_, fun k => ?_⟩
   ·simp only [spec_l10Times.l1, spec_l10Times.j2, rd_fuse, if_pos g1, if_pos g2, if_pos c1, if_pos f0, if_pos fE, decide_eq_true c2, if_true, hw]
   ·simp only [impl_litTimes.l1, impl_litTimes.j2, rd_fuse, if_pos g1, if_pos g2, if_pos c1, if_pos f0, if_pos fE, decide_eq_true c2, if_true, hw]
  ·-- the early time
   by_cases c3 : rd E (v : Int) < 0 ∨ wrap64 (rd E (fu_at xs i).f0 + (fu_at xs i).f2) < rd E (v : Int)
   ·by_cases c4 : rd L (v : Int) < 0 ∨ wrap64 (rd L (fu_at xs i).f0 + (fu_at xs i).f3) < rd L (v : Int)
    ·refine ⟨E.set v (wrap64 (rd E (fu_at xs i).f0 + (fu_at xs i).f2)), L.set v (wrap64 (rd L (fu_at xs i).f0 + (fu_at xs i).f3)), 3, by omega, by omega, lE _, lL _, set0 _ _ _ h0, fun k => ?_, fun k => ?_⟩
     ·rcases Classical.em (rd E (v : Int) < 0) with d3 | d3 <;> rcases Classical.em (rd L (v : Int) < 0) with d4 | d4 <;>
       simp only [d3, d4, false_or, true_or] at c3 c4 <;>
       simp only [spec_l10Times.l1, spec_l10Times.j2, spec_l10Times.j3, rd_fuse, if_pos g1, if_pos g2, if_pos c1, if_pos f0, if_pos fE, if_pos fL, if_pos vE, if_pos vL, if_pos v0, decide_eq_false c2, d3, d4, c3, c4, decide_true, if_true, if_false, Bool.false_eq_true, hw, et, Option.bind_some]
     ·rcases Classical.em (rd E (v : Int) < 0) with d3 | d3 <;> rcases Classical.em (rd L (v : Int) < 0) with d4 | d4 <;>
       simp only [d3, d4, false_or, true_or] at c3 c4 <;>
       simp only [impl_litTimes.l1, impl_litTimes.j2, impl_litTimes.j3, rd_fuse, if_pos g1, if_pos g2, if_pos c1, if_pos f0, if_pos fE, if_pos fL, if_pos vE, if_pos vL, if_pos v0, decide_eq_false c2, d3, d4, c3, c4, decide_true, if_true, if_false, Bool.false_eq_true, hw, et, Option.bind_some]
    ·rw [not_or] at c4
     refine ⟨E.set v (wrap64 (rd E (fu_at xs i).f0 + (fu_at xs i).f2)), L, 3, by omega, by omega, lE _, hL, set0 _ _ _ h0, fun k => ?_, fun k => ?_⟩
     ·rcases Classical.em (rd E (v : Int) < 0) with d3 | d3 <;>
       simp only [d3, false_or, true_or] at c3 <;>
       simp only [spec_l10Times.l1, spec_l10Times.j2, spec_l10Times.j3, rd_fuse, if_pos g1, if_pos g2, if_pos c1, if_pos f0, if_pos fE, if_pos fL, if_pos vE, if_pos vL, if_pos v0, decide_eq_false c2, d3, c3, c4.1, c4.2, decide_true, if_true, if_false, Bool.false_eq_true, hw, et, Option.bind_some]
     ·rcases Classical.em (rd E (v : Int) < 0) with d3 | d3 <;>
       simp only [d3, false_or, true_or] at c3 <;>
       simp only [impl_litTimes.l1, impl_litTimes.j2, impl_litTimes.j3, rd_fuse, if_pos g1, if_pos g2, if_pos c1, if_pos f0, if_pos fE, if_pos fL, if_pos vE, if_pos vL, if_pos v0, decide_eq_false c2, d3, c3, c4.1, c4.2, decide_true, if_true, if_false, Bool.false_eq_true, hw, et, Option.bind_some]
   ·rw [not_or] at c3
    by_cases c4 : rd L (v : Int) < 0 ∨ wrap64 (rd L (fu_at xs i).f0 + (fu_at xs i).f3) < rd L (v : Int)
    ·refine ⟨E, L.set v (wrap64 (rd L (fu_at xs i).f0 + (fu_at xs i).f3)), 3, by omega, by omega, hE, lL _, rfl, fun k => ?_, fun k => ?_⟩
     ·rcases Classical.em (rd L (v : Int) < 0) with d4 | d4 <;>
       simp only [d4, false_or, true_or] at c4 <;>
       simp only [spec_l10Times.l1, spec_l10Times.j2, spec_l10Times.j3, rd_fuse, if_pos g1, if_pos g2, if_pos c1, if_pos f0, if_pos fE, if_pos fL, if_pos vE, if_pos vL, if_pos v0, decide_eq_false c2, c3.1, c3.2, d4, c4, decide_true, decide_false, if_true, if_false, Bool.false_eq_true, hw, et, Option.bind_some]
     ·rcases Classical.em (rd L (v : Int) < 0) with d4 | d4 <;>
       simp only [d4, false_or, true_or] at c4 <;>
       simp only [impl_litTimes.l1, impl_litTimes.j2, impl_litTimes.j3, rd_fuse, if_pos g1, if_pos g2, if_pos c1, if_pos f0, if_pos fE, if_pos fL, if_pos vE, if_pos vL, if_pos v0, decide_eq_false c2, c3.1, c3.2, d4, c4, decide_true, decide_false, if_true, if_false, Bool.false_eq_true, hw, et, Option.bind_some]
    ·rw [not_or] at c4
     refine ⟨E, L, 3, by omega, by omega, hE, hL, rfl, fun k => ?_, fun k => ?_⟩
     ·simp only [spec_l10Times.l1, spec_l10Times.j2, spec_l10Times.j3, rd_fuse, if_pos g1, if_pos g2, if_pos c1, if_pos f0, if_pos fE, if_pos fL, if_pos vE, if_pos vL, if_pos v0, decide_eq_false c2, c3.1, c3.2, c4.1, c4.2, decide_true, decide_false, if_true, if_false, Bool.false_eq_true, hw, et, Option.bind_some]
     ·simp only [impl_litTimes.l1, impl_litTimes.j2, impl_litTimes.j3, rd_fuse, if_pos g1, if_pos g2, if_pos c1, if_pos f0, if_pos fE, if_pos fL, if_pos vE, if_pos vL, if_pos v0, decide_eq_false c2, c3.1, c3.2, c4.1, c4.2, decide_true, decide_false, if_true, if_false, Bool.false_eq_true, hw, et, Option.bind_some]
 ·refine ⟨E, L, 2, by omega, by omega, hE, hL, rfl, fun k => ?_, fun k => ?_⟩
  ·simp only [spec_l10Times.l1, spec_l10Times.j2, rd_fuse, if_pos g1, if_pos g2, if_neg c1, if_true, hw]
  ·simp only [impl_litTimes.l1, impl_litTimes.j2, rd_fuse, if_pos g1, if_pos g2, if_neg c1, if_true, hw]
theorem times_in {m : Nat} {xs : List S44} (hx : xs.length ≤ 20) (hm : m ≤ 10) (hf : ∀ i, i < xs.length → 0 ≤ (fu_at xs i).f0 ∧ (fu_at xs i).f0 < (m : Int)) (v : Nat) (h0 : 0 < v) (hv : v < m)
  (hnext : ∀ E L : List Int, E.length = m → L.length = m → E.getD 0 0 = 0 → ∃ E' L' : List Int, E'.length = m ∧ L'.length = m ∧ E'.getD 0 0 = 0 ∧ Evt (fun k => spec_l10Times.l0 k (m : Int) xs E L ((v + 1 : Nat) : Int) = some (E', L')) ∧ Evt (fun k => impl_litTimes.l0 k (m : Int) xs E L ((v + 1 : Nat) : Int) = some (E', L'))) :
  ∀ (d i : Nat) (E L : List Int), xs.length - i = d → i ≤ xs.length → E.length = m → L.length = m → E.getD 0 0 = 0 → ∃ E' L' : List Int, E'.length = m ∧ L'.length = m ∧ E'.getD 0 0 = 0 ∧ Evt (fun k => spec_l10Times.l1 k (m : Int) xs E L (v : Int) (i : Int) = some (E', L')) ∧ Evt (fun k => impl_litTimes.l1 k (m : Int) xs E L (v : Int) xs (xs.length : Int) (i : Int) = some (E', L')) := by
 intro d
 induction d with
 | zero =>
  intro i E L hd hi hE hL h00
  obtain ⟨E', L', e1, e2, e3, ⟨K, hs⟩, ⟨K', ht⟩⟩ := hnext E L hE hL h00
  refine ⟨E', L', e1, e2, e3, ⟨K + 1, fun k hk => ?_⟩, ⟨K' + 1, fun k hk => ?_⟩⟩
  ·obtain ⟨k, rfl⟩ : ∃ m, k = m + 1 := ⟨k - 1, by omega⟩
   show spec_l10Times.l1 (k + 1) (m : Int) xs E L (v : Int) (i : Int) = _
   simp only [spec_l10Times.l1]
   rw [if_neg (by omega), w64 (by omega)]
   exact hs k (by omega)
  ·obtain ⟨k, rfl⟩ : ∃ m, k = m + 1 := ⟨k - 1, by omega⟩
   show impl_litTimes.l1 (k + 1) (m : Int) xs E L (v : Int) xs (xs.length : Int) (i : Int) = _
   simp only [impl_litTimes.l1]
   rw [if_neg (by omega), w64 (by omega)]
   exact ht k (by omega)
 | succ d ih =>
  intro i E L hd hi hE hL h00
  obtain ⟨E1, L1, b, b2, b3, l1, l2, l3, f1, f2⟩ := tstep hx E L hE hL v i h0 hv (by omega) (hf i (by omega))
  obtain ⟨E', L', e1, e2, e3, ⟨K, hs⟩, ⟨K', ht⟩⟩ := ih (i + 1) E1 L1 (by omega) (by omega) l1 l2 (l3.trans h00)
  refine ⟨E', L', e1, e2, e3, ⟨K + b, fun k hk => ?_⟩, ⟨K' + b, fun k hk => ?_⟩⟩
  ·obtain ⟨k, rfl⟩ : ∃ m, k = m + b := ⟨k - b, by omega⟩
   exact (f1 k).trans (hs k (by omega))
  ·obtain ⟨k, rfl⟩ : ∃ m, k = m + b := ⟨k - b, by omega⟩
   exact (f2 k).trans (ht k (by omega))
theorem times_out {m : Nat} {xs : List S44} (hx : xs.length ≤ 20) (hm : m ≤ 10) (hf : ∀ i, i < xs.length → 0 ≤ (fu_at xs i).f0 ∧ (fu_at xs i).f0 < (m : Int)) :
  ∀ (d v : Nat) (E L : List Int), m - v = d → 0 < v → E.length = m → L.length = m → E.getD 0 0 = 0 → ∃ E' L' : List Int, E'.length = m ∧ L'.length = m ∧ E'.getD 0 0 = 0 ∧ Evt (fun k => spec_l10Times.l0 k (m : Int) xs E L (v : Int) = some (E', L')) ∧ Evt (fun k => impl_litTimes.l0 k (m : Int) xs E L (v : Int) = some (E', L')) := by
 intro d
 induction d with
 | zero =>
  intro v E L hd hv hE hL h00
  refine ⟨E, L, hE, hL, h00, ⟨1, fun k hk => ?_⟩, ⟨1, fun k hk => ?_⟩⟩
  ·obtain ⟨k, rfl⟩ : ∃ m, k = m + 1 := ⟨k - 1, by omega⟩
   show spec_l10Times.l0 (k + 1) (m : Int) xs E L (v : Int) = _
   simp only [spec_l10Times.l0]
   rw [if_neg (by omega)]
  ·obtain ⟨k, rfl⟩ : ∃ m, k = m + 1 := ⟨k - 1, by omega⟩
   show impl_litTimes.l0 (k + 1) (m : Int) xs E L (v : Int) = _
   simp only [impl_litTimes.l0]
   rw [if_neg (by omega)]
 | succ d ih =>
  intro v E L hd hv hE hL h00
  obtain ⟨E', L', e1, e2, e3, ⟨K, hs⟩, ⟨K', ht⟩⟩ := times_in hx hm hf v hv (by omega) (fun E L a b c => ih (v + 1) E L (by omega) (by omega) a b c) xs.length 0 (E.set v (-1)) (L.set v (-1)) (by omega) (by omega) (by rw [List.length_set]; exact hE) (by rw [List.length_set]; exact hL) ((set0 _ _ _ hv).trans h00)
  refine ⟨E', L', e1, e2, e3, ⟨K + 1, fun k hk => ?_⟩, ⟨K' + 1, fun k hk => ?_⟩⟩
  ·obtain ⟨k, rfl⟩ : ∃ m, k = m + 1 := ⟨k - 1, by omega⟩
   show spec_l10Times.l0 (k + 1) (m : Int) xs E L (v : Int) = _
   simp only [spec_l10Times.l0]
   rw [if_pos (by omega), if_pos (by omega), if_pos (by omega), if_pos (by omega), Int.toNat_natCast]
   exact hs k (by omega)
  ·obtain ⟨k, rfl⟩ : ∃ m, k = m + 1 := ⟨k - 1, by omega⟩
   show impl_litTimes.l0 (k + 1) (m : Int) xs E L (v : Int) = _
   simp only [impl_litTimes.l0]
   rw [if_pos (by omega), if_pos (by omega), if_pos (by omega), if_pos (by omega), Int.toNat_natCast]
   exact ht k (by omega)
theorem times_is {n : Int} {xs : List S44} (h : areFuses n xs = true) : ∃ (m : Nat) (E L : List Int), n = (m : Int) ∧ 1 ≤ m ∧ m ≤ 10 ∧ xs.length ≤ 20 ∧ E.length = m ∧ L.length = m ∧ E.getD 0 0 = 0 ∧ Evt (fun k => spec_l10Times.f k n xs = some (E, L)) ∧ Evt (fun k => impl_litTimes.f k n xs = some (E, L)) := by
 obtain ⟨m, rfl, h1, h2, h3, h4⟩ := areFuses_true h
 obtain ⟨E, L, e1, e2, e3, ⟨K, hs⟩, ⟨K', ht⟩⟩ := times_out h3 h2 (fun i hi => by have := h4 i hi; omega) (m - 1) 1 (List.replicate m 0) (List.replicate m 0) (by omega) (by omega) (by simp) (by simp) (by cases m <;> rfl)
 refine ⟨m, E, L, rfl, h1, h2, h3, e1, e2, e3, ⟨K, fun k hk => ?_⟩, ⟨K', fun k hk => ?_⟩⟩
 ·show spec_l10Times.f k (m : Int) xs = _
  unfold spec_l10Times.f
  rw [if_pos (by omega), if_pos (by omega), Int.toNat_natCast]
  exact hs k hk
 ·show impl_litTimes.f k (m : Int) xs = _
  unfold impl_litTimes.f
  rw [if_pos (by omega), if_pos (by omega), Int.toNat_natCast]
  exact ht k hk
theorem times_mem {m : Nat} {ys : List S44} (h1 : 1 ≤ m) (h2 : m ≤ 10) (h3 : ys.length ≤ 20) (hf : ∀ y ∈ ys, 0 ≤ y.f0 ∧ y.f0 < (m : Int)) : ∃ (E L : List Int), E.length = m ∧ L.length = m ∧ E.getD 0 0 = 0 ∧ Evt (fun k => spec_l10Times.f k (m : Int) ys = some (E, L)) ∧ Evt (fun k => impl_litTimes.f k (m : Int) ys = some (E, L)) := by
 obtain ⟨E, L, e1, e2, e3, ⟨K, hs⟩, ⟨K', ht⟩⟩ := times_out h3 h2 (fun i hi => by
  unfold fu_at
  rw [List.getD_eq_getElem?_getD, List.getElem?_eq_getElem hi]
  exact hf _ (List.getElem_mem _)) (m - 1) 1 (List.replicate m 0) (List.replicate m 0) (by omega) (by omega) (by simp) (by simp) (by cases m <;> rfl)
 refine ⟨E, L, e1, e2, e3, ⟨K, fun k hk => ?_⟩, ⟨K', fun k hk => ?_⟩⟩
 ·show spec_l10Times.f k (m : Int) ys = _
  unfold spec_l10Times.f
  rw [if_pos (by omega), if_pos (by omega), Int.toNat_natCast]
  exact hs k hk
 ·show impl_litTimes.f k (m : Int) ys = _
  unfold impl_litTimes.f
  rw [if_pos (by omega), if_pos (by omega), Int.toNat_natCast]
  exact ht k hk
theorem areFuses_mem {n : Int} {xs : List S44} (h : areFuses n xs = true) : ∀ y ∈ xs, 0 ≤ y.f0 ∧ y.f0 < n := by
 obtain ⟨m, rfl, h1, h2, h3, h4⟩ := areFuses_true h
 intro y hy
 obtain ⟨i, hi, rfl⟩ := List.getElem_of_mem hy
 have := h4 i hi
 unfold fu_at at this
 rw [List.getD_eq_getElem?_getD, List.getElem?_eq_getElem hi] at this
 simp only [Option.getD_some] at this
 omega
end Go.Proofs.Ytipgcjonidlloaa.F
namespace Go.Proofs.Ytipgcjonidlloaa.F
open Go.RowKit Go.Proofs.YtipgcjonidlloaaW.PrintWords Go.Proofs.YtipgcjonidlloaaW.PrintLast Go.Proofs.YtipgcjonidlloaaW.PrintMore
set_option linter.unusedVariables false
set_option linter.unusedSimpArgs false
def cdo (E : List Int) (m : Nat) (a : Int) : Int := if inB a 0 ((m : Int) - 1) = true then (if rd E a < 0 then 4 else 0) else 2
theorem spec_code {m : Nat} {xs : List S44} (h : areFuses (m : Int) xs = true) (h1 : 1 ≤ m) (h2 : m ≤ 10) (hx : xs.length ≤ 20) {E L : List Int} (hE : E.length = m) {K : Nat} (hs : ∀ k, K ≤ k → spec_l10Times.f k (m : Int) xs = some (E, L)) (a : Int) (k : Nat) (hk : K + 30 ≤ k) : spec_l10Code.f k (m : Int) xs a = some (cdo E m a) := by
 have hw : wrap64 ((m : Int) - 1) = (m : Int) - 1 := w64 (by omega)
 unfold spec_l10Code.f cdo
 rw [spec_fuses _ xs (by omega) k (by omega), h]
 simp only [Option.bind_some, In_eq, hw, if_true]
 cases g : inB a 0 ((m : Int) - 1) with
 | false => rfl
 | true =>
  rw [inB_true] at g
  simp only [if_true]
  rw [hs k (by omega)]
  simp only [Option.bind_some]
  rw [if_pos (by omega), if_pos (by omega)]
  by_cases c : rd E a < 0
  ·rw [if_pos c, if_pos c]
  ·rw [if_neg c, if_neg c]
theorem impl_code1 {m : Nat} {xs : List S44} (h : areFuses (m : Int) xs = true) (h1 : 1 ≤ m) (h2 : m ≤ 10) (hx : xs.length ≤ 20) {E L : List Int} (hE : E.length = m) {K : Nat} (ht : ∀ k, K ≤ k → impl_litTimes.f k (m : Int) xs = some (E, L)) (a : Int) (k : Nat) (hk : K + 30 ≤ k) : impl_nodeAsked.f k (m : Int) xs [a] = some (cdo E m a) := by
 have hw : wrap64 ((m : Int) - 1) = (m : Int) - 1 := w64 (by omega)
 have w1 : wrap64 (0 + 1) = 1 := w64 (by omega)
 have r0 : rd [a] 0 = a := rfl
 obtain ⟨k, rfl⟩ : ∃ m, k = m + 6 := ⟨k - 6, by omega⟩
 unfold impl_nodeAsked.f cdo
 rw [impl_fuses _ xs (by omega) (k + 6) (by omega), h]
 have l1 : ([a] : List Int).length = 1 := rfl
 simp only [Option.bind_some, if_true, impl_nodeAsked.l0, Wi_eq, hw, l1, w1, r0]
 rw [if_pos (by omega), if_pos (by omega), if_pos (by omega)]
 cases g : inB a 0 ((m : Int) - 1) with
 | false => rfl
 | true =>
  rw [inB_true] at g
  simp only [if_true]
  rw [if_neg (by omega), ht (k + 4) (by omega)]
  simp only [Option.bind_some, impl_nodeAsked.l1, r0, w1, l1]
  rw [if_pos (by omega), if_pos (by omega), if_pos (by omega), if_pos (by omega), if_pos (by omega)]
  by_cases c : rd E a < 0
  ·rw [if_pos c, if_pos c]
  ·rw [if_neg c, if_neg c, if_neg (by omega)]
theorem cdo_in {E : List Int} {m : Nat} {a : Int} (h : cdo E m a = 0) : 0 ≤ a ∧ a < (m : Int) := by
 unfold cdo at h
 by_cases g : inB a 0 ((m : Int) - 1) = true
 ·rw [inB_true] at g; omega
 ·rw [if_neg g] at h; omega
end Go.Proofs.Ytipgcjonidlloaa.F
namespace Go.Proofs.Ytipgcjonidlloaa.F
open Go.RowKit Go.Proofs.YtipgcjonidlloaaW.PrintWords Go.Proofs.YtipgcjonidlloaaW.PrintLast Go.Proofs.YtipgcjonidlloaaW.PrintMore
set_option linter.unusedVariables false
set_option linter.unusedSimpArgs false
def without (xs : List S44) (n : Nat) : List S44 := xs.take n ++ xs.drop (n + 1)
theorem without_len (xs : List S44) (n : Nat) (h : n < xs.length) : (without xs n).length = xs.length - 1 := by
 unfold without
 rw [List.length_append, List.length_take, List.length_drop]; omega
theorem spec_without (xs : List S44) (n : Nat) (hx : xs.length ≤ 4000000) (h : n < xs.length) : spec_l10Without.f xs (n : Int) = some (without xs n) := by
 unfold spec_l10Without.f
 have e : wrap64 ((n : Int) + 1) = ((n + 1 : Nat) : Int) := by rw [w64 (by omega)]; rfl
 simp only [Option.bind_some, List.nil_append, List.length_nil, e, Int.toNat_natCast]
 have h1 := List.length_take_le n xs
 have h2 := List.length_take_le' n xs
 have h3 : (xs.drop (n + 1)).length = xs.length - (n + 1) := List.length_drop
 rw [if_pos (by omega), if_pos (by omega), if_pos (by omega), if_pos (by omega), if_pos (by omega), if_pos (by omega)]
 rfl
theorem impl_without (xs : List S44) (n : Nat) (hx : xs.length ≤ 4000000) (h : n < xs.length) : impl_withoutFuse.f xs (n : Int) = some (without xs n) := by
 unfold impl_withoutFuse.f
 have e : wrap64 ((n : Int) + 1) = ((n + 1 : Nat) : Int) := by rw [w64 (by omega)]; rfl
 simp only [Option.bind_some, List.nil_append, List.length_nil, e, Int.toNat_natCast]
 have h1 := List.length_take_le n xs
 have h2 := List.length_take_le' n xs
 have h3 : (xs.drop (n + 1)).length = xs.length - (n + 1) := List.length_drop
 rw [if_pos (by omega), if_pos (by omega), if_pos (by omega), if_pos (by omega), if_pos (by omega), if_pos (by omega)]
 rfl
end Go.Proofs.Ytipgcjonidlloaa.F
namespace Go.Proofs.Ytipgcjonidlloaa.F
open Go.RowKit Go.Proofs.YtipgcjonidlloaaW.PrintWords Go.Proofs.YtipgcjonidlloaaW.PrintLast Go.Proofs.YtipgcjonidlloaaW.PrintMore
set_option linter.unusedVariables false
set_option linter.unusedSimpArgs false
theorem needed_go (m : Nat) (h1 : 1 ≤ m) (h2 : m ≤ 10) (xs : List S44) (hx : xs.length ≤ 20) (hf : ∀ y ∈ xs, 0 ≤ y.f0 ∧ y.f0 < (m : Int)) (a : Int) (ha : 0 ≤ a ∧ a < (m : Int)) : ∀ (d i : Nat) (X : List Int), xs.length - i = d → i ≤ xs.length → X.length ≤ i → ∃ q : List Int, q.length ≤ 20 ∧ Evt (fun k => spec_NeededFuses.l0 k (m : Int) xs a X (i : Int) = some (q, 0)) ∧ Evt (fun k => impl_NeededFuses.l0 k (m : Int) xs a X (xs.length : Int) (i : Int) = some (q, 0)) := by
 intro d
 induction d with
 | zero =>
  intro i X hd hi hX
  refine ⟨X, by omega, ⟨1, fun k hk => ?_⟩, ⟨1, fun k hk => ?_⟩⟩
  ·show spec_NeededFuses.l0 k (m : Int) xs a X (i : Int) = _
   obtain ⟨k, rfl⟩ : ∃ m, k = m + 1 := ⟨k - 1, by omega⟩
   unfold spec_NeededFuses.l0
   rw [if_neg (by omega)]
  ·show impl_NeededFuses.l0 k (m : Int) xs a X (xs.length : Int) (i : Int) = _
   obtain ⟨k, rfl⟩ : ∃ m, k = m + 1 := ⟨k - 1, by omega⟩
   unfold impl_NeededFuses.l0
   rw [if_neg (by omega)]
 | succ d ih =>
  intro i X hd hi hX
  have hw : wrap64 ((i : Int) + 1) = ((i + 1 : Nat) : Int) := w64 (by omega)
  have hl := without_len xs i (by omega)
  obtain ⟨E, L, hE, hL, _, ⟨K, hs⟩, ⟨K', ht⟩⟩ := times_mem (ys := without xs i) h1 h2 (by omega) (fun y hy => by
   unfold without at hy
   rcases List.mem_append.1 hy with g | g
   ·exact hf y (List.mem_of_mem_take g)
   ·exact hf y (List.mem_of_mem_drop g))
  by_cases c : rd E a < 0
  ·obtain ⟨q, q0, ⟨J, e1⟩, ⟨J', e2⟩⟩ := ih (i + 1) (X ++ [(i : Int)]) (by omega) (by omega) (by rw [List.length_append, List.length_singleton]; omega)
   refine ⟨q, q0, ⟨J + K + 1, fun k hk => ?_⟩, ⟨J' + K' + 1, fun k hk => ?_⟩⟩
   ·show spec_NeededFuses.l0 k (m : Int) xs a X (i : Int) = _
    obtain ⟨k, rfl⟩ : ∃ m, k = m + 1 := ⟨k - 1, by omega⟩
    unfold spec_NeededFuses.l0
    rw [if_pos (by omega), spec_without xs i (by omega) (by omega)]
    simp only [Option.bind_some]
    rw [hs k (by omega)]
    simp only [Option.bind_some]
    rw [if_pos (by omega), if_pos (by omega), if_pos c, if_pos (by omega), hw]
    exact e1 k (by omega)
   ·show impl_NeededFuses.l0 k (m : Int) xs a X (xs.length : Int) (i : Int) = _
    obtain ⟨k, rfl⟩ : ∃ m, k = m + 1 := ⟨k - 1, by omega⟩
    unfold impl_NeededFuses.l0
    rw [if_pos (by omega), impl_without xs i (by omega) (by omega)]
    simp only [Option.bind_some]
    rw [ht k (by omega)]
    simp only [Option.bind_some]
    rw [if_pos (by omega), if_pos (by omega), if_pos c, if_pos (by omega), hw]
    exact e2 k (by omega)
  ·obtain ⟨q, q0, ⟨J, e1⟩, ⟨J', e2⟩⟩ := ih (i + 1) X (by omega) (by omega) (by omega)
   refine ⟨q, q0, ⟨J + K + 1, fun k hk => ?_⟩, ⟨J' + K' + 1, fun k hk => ?_⟩⟩
   ·show spec_NeededFuses.l0 k (m : Int) xs a X (i : Int) = _
    obtain ⟨k, rfl⟩ : ∃ m, k = m + 1 := ⟨k - 1, by omega⟩
    unfold spec_NeededFuses.l0
    rw [if_pos (by omega), spec_without xs i (by omega) (by omega)]
    simp only [Option.bind_some]
    rw [hs k (by omega)]
    simp only [Option.bind_some]
    rw [if_pos (by omega), if_pos (by omega), if_neg c, hw]
    exact e1 k (by omega)
   ·show impl_NeededFuses.l0 k (m : Int) xs a X (xs.length : Int) (i : Int) = _
    obtain ⟨k, rfl⟩ : ∃ m, k = m + 1 := ⟨k - 1, by omega⟩
    unfold impl_NeededFuses.l0
    rw [if_pos (by omega), impl_without xs i (by omega) (by omega)]
    simp only [Option.bind_some]
    rw [ht k (by omega)]
    simp only [Option.bind_some]
    rw [if_pos (by omega), if_pos (by omega), if_neg c, hw]
    exact e2 k (by omega)
theorem main_FnExactNeededFuses (a0 : Int) (M0 : List S44) (a2 : Int) (_ : I64 a0) (hM : M0.length ≤ 1000000) (hP : ∀ x ∈ M0, PrI44 x) (_ : I64 a2) :
  ∃ q1 q2, q1.length ≤ 3000000 ∧ Evt (fun k => spec_NeededFuses.f k a0 M0 a2 = some (q1, q2)) ∧ Evt (fun k => impl_NeededFuses.f k a0 M0 a2 = some (q1, q2)) := by
 cases h : areFuses a0 M0 with
 | false =>
  refine ⟨[], 1, by simp, ⟨M0.length + 4, fun k hk => ?_⟩, ⟨M0.length + 4, fun k hk => ?_⟩⟩
  ·show spec_NeededFuses.f k a0 M0 a2 = _
   unfold spec_NeededFuses.f spec_l10Code.f
   rw [spec_fuses a0 M0 (by omega) k (by omega), h]; rfl
  ·show impl_NeededFuses.f k a0 M0 a2 = _
   unfold impl_NeededFuses.f impl_nodeAsked.f
   rw [impl_fuses a0 M0 (by omega) k (by omega), h]; rfl
 | true =>
  have hf := areFuses_mem h
  obtain ⟨m, E, L, rfl, m1, m2, hx, hE, hL, h00, ⟨K, hs⟩, ⟨K', ht⟩⟩ := times_is h
  by_cases c : cdo E m a2 = 0
  ·have ha := cdo_in c
   obtain ⟨q, q0, ⟨J, e1⟩, ⟨J', e2⟩⟩ := needed_go m m1 m2 M0 hx hf a2 ha M0.length 0 [] (by omega) (by omega) (by simp)
   refine ⟨q, 0, by omega, ⟨K + J + 40, fun k hk => ?_⟩, ⟨K' + J' + 40, fun k hk => ?_⟩⟩
   ·show spec_NeededFuses.f k (m : Int) M0 a2 = _
    unfold spec_NeededFuses.f
    rw [spec_code h m1 m2 hx hE hs a2 k (by omega), c]
    simp only [Option.bind_some, if_true]
    exact e1 k (by omega)
   ·show impl_NeededFuses.f k (m : Int) M0 a2 = _
    unfold impl_NeededFuses.f
    rw [impl_code1 h m1 m2 hx hE ht a2 k (by omega), c]
    simp only [Option.bind_some, if_true]
    exact e2 k (by omega)
  ·refine ⟨[], cdo E m a2, by simp, ⟨K + 40, fun k hk => ?_⟩, ⟨K' + 40, fun k hk => ?_⟩⟩
   ·show spec_NeededFuses.f k (m : Int) M0 a2 = _
    unfold spec_NeededFuses.f
    rw [spec_code h m1 m2 hx hE hs a2 k (by omega)]
    simp only [Option.bind_some]
    rw [if_neg c]
   ·show impl_NeededFuses.f k (m : Int) M0 a2 = _
    unfold impl_NeededFuses.f
    rw [impl_code1 h m1 m2 hx hE ht a2 k (by omega)]
    simp only [Option.bind_some]
    rw [if_neg c]
theorem pure_FnExactNeededFuses : Pure_FnExactNeededFuses := by
 intro a0 l1 a2 b0 n1 p1 b2
 rcases sz_FuseS l1 (1000000) (by omega) (by omega) n1 with ⟨z1, s1⟩ | s1
 rotate_left
 ·exact ⟨0, ⟨-1, s1, Or.inl (by omega)⟩⟩
 obtain ⟨L1, t1, ne1, tk1, ln1, le1, rm1, jn1, fu1, to1⟩ := to_FuseS l1 (by omega)
 have eq1 := eq_FuseS L1 (by omega)
 obtain ⟨q1, q2, ql, sp, im⟩ := main_FnExactNeededFuses a0 (l1.map conv_FuseS) a2 b0 (by rw [ln1]; omega) (prc_FuseS p1) b2
 have er := eq_Int64S q1 (by omega)
 have mk1 := mark_FuseS (l1.map conv_FuseS) (101) (by omega) (by omega) (by omega)
 have mg := mark_Int64S q1 101 (by omega) (by omega) (by omega)
 have hd := held_Int64S q1.length 101 (by omega) (by omega) (by omega)
 obtain ⟨k, hfu1, hto1, heq1, hsp, him, her, hmk1, hmg, hhd⟩ := (fu1.and (to1.and (eq1.and (sp.and (im.and (er.and (mk1.and (mg.and hd)))))))).ex
 exact ⟨k, ⟨1000000 - l1.length, s1, Or.inr ⟨by omega, ⟨L1, _, t1, q1, q2, _, _, _, _, { ne1 := ne1, tk1 := tk1, ln1 := ln1, fu1 := hfu1, rm1 := rm1, jn1 := jn1, eq1 := heq1, sp := hsp, im := him, er := her, mk1 := hmk1, mk10 := (by omega), mg := hmg, mg0 := (by omega), hd := hhd, hl := seq_Int64S_len _ _, to1 := hto1 }⟩⟩⟩⟩
end Go.Proofs.Ytipgcjonidlloaa.F
namespace Go.Proofs.Ytipgcjonidlloaa.fnExactNeededFuses
open Go.ChangeShapes Go.WideShapes Go.ChangeAt Go.RowKit Go.Proofs.Ytipgcjonidlloaa.F Go.Proofs.YtipgcjonidlloaaW.PrintWords
open Go.ChangeMaps (open_string shut_string)
set_option linter.unusedVariables false
theorem own : ownKnob Try.prog.godebug = none := by kernel_rfl
theorem laidOut : laidOutB Try.prog = true := by kernel_rfl
set_option maxRecDepth 100000 in
theorem lifted (os : Os) (started : os.Started) (H : Type) (enc : TypeId × Value → H) :
  ReturnsInHanded {} Try.checked os 6 .any (Rows.fnExactNeededFusesSpec.pre6 enc Try.prog Try.f6 Rows.fnExactNeededFusesRow.domain false) (Rows.fnExactNeededFusesSpec.post enc Try.prog Try.f6 false true false false) := by
 refine returnsInHanded_of_change_sized (C := Try.checked) own started (by kernel_rfl) Try.func6
  (ChangeSpec.witness6 (enc := enc) (C := Try.checked) false ⟨#[], #[.int .i64 0, .slice none 0 0, .int .i64 0], []⟩ 8 (by kernel_rfl) (by kernel_rfl) (by kernel_rfl) (by kernel_rfl)) ?_
 intro W base args ds gs before hval0 hW hcnd hsz0 _
 have hval : ∀ (j : Nat) t v, Try.f6.params[j]? = some t → args[j]? = some v → Value.okWide Try.prog W .any base t v := hval0
 have hW' := hW
 obtain ⟨p, q, hA0, hV, rfl, hfz, hnd⟩ := hW
 have hA : DataW.TrodAll enc Try.prog W 0 (fun _ => true) true Try.f6.params.toList args.toList ds p := hA0
 rw [Try.params6] at hA hval
 obtain ⟨v0, vs0, d0, ds0, p0, q0, hargs, rfl, rfl, h0, r0⟩ := trodAll_cons hA
 obtain ⟨v1, vs1, d1, ds1, p1, q1, rfl, rfl, rfl, h1, r1⟩ := trodAll_cons r0
 obtain ⟨v2, vs2, d2, ds2, p2, q2, rfl, rfl, rfl, h2, r2⟩ := trodAll_cons r1
 obtain ⟨rfl, rfl, rfl⟩ := trodAll_nil r2
 obtain rfl : args = #[v0, v1, v2] := by cases args; simp_all
 obtain ⟨rfl, rfl⟩ := trodVars_none hV
 obtain ⟨a0, rfl, rfl, rfl, w0⟩ := open_int Try.underlying2 (hval 0 2 v0 rfl rfl) h0
 have k1 := h1
 have lt1 : ∀ x ∈ p1, x.block < W.heap.size := by obtain ⟨m, hm⟩ := k1; exact DataW.trod_lt m _ _ _ hm
 obtain ⟨A1, n1, c1, rfl⟩ := okWide_slice Try.underlying22 (hval 1 22 v1 rfl rfl)
 obtain ⟨l1, rfl, lc1, lm1, hC1, hP1⟩ : ∃ xs : List S46, n1 = xs.length ∧ xs.length ≤ c1 ∧ c1 ≤ maxLen ∧ Kd.C k46 W A1 xs.length xs ∧ ∀ x ∈ xs, Pr46 x := by
  obtain ⟨fuel, hf⟩ := h1
  obtain ⟨A, c, xs, hcs, h1, h2, h3, h4⟩ := open_rows k46 (Pr := Pr46) Try.underlying22 (by kernel_rfl) (fun f_ c_ y_ hy_ => open_S46 hy_ W) hf
  simp [Value.cells] at hcs
  obtain ⟨rfl, rfl, rfl⟩ := hcs
  exact ⟨xs, rfl, h1, h2, h3, h4⟩
 obtain ⟨a2, rfl, rfl, rfl, w2⟩ := open_int Try.underlying2 (hval 2 2 v2 rfl rfl) h2
 obtain ⟨k, hk⟩ := pure_FnExactNeededFuses a0 l1 a2 (I64_of w0) (by omega) hP1 (I64_of w2)
 refine (law_FnExactNeededFuses k a0 A1 c1 l1 a2 W hC1 lc1 hk).mono fun e W' ⟨he, bel⟩ => ?_
 subst he
 exact ⟨_, rfl, _, _, _, [], _, [], hW', trodAll_mk1 (shut_bool Try.underlying4 _), (trodAll_cons_mk (shut_int Try.underlying2 w0) (trodAll_cons_mk (Below.trod laidOut (by kernel_rfl) (of_decide_eq_true (by kernel_rfl)) k1 bel lt1) (trodAll_cons_mk (shut_int Try.underlying2 w2) trodAll_mk0))), rfl, bel.frame _, fun h => by cases h⟩
theorem over : Rows.fnExactNeededFusesRow.holds Try.pinned (OpenSpec.ofChange Rows.fnExactNeededFusesSpec) :=
 OpenClaim.holds_of_wide 6 Try.f6 rfl rfl rfl rfl rfl rfl rfl ⟨rfl, rfl, rfl, rfl, rfl⟩ rfl rfl rfl rfl rfl (by kernel_rfl) Try.func6 (by kernel_rfl)
  (of_decide_eq_true (by kernel_rfl)) (by unfold Func.isWrapper; first | (rw [if_pos (by decide +kernel)]; kernel_rfl) | (rw [if_neg (by decide +kernel)]; exact ⟨rfl, rfl⟩))
  (fun os started H enc _ => lifted os started H enc)
theorem proved : Rows.FnExactNeededFusesSaid := over
end Go.Proofs.Ytipgcjonidlloaa.fnExactNeededFuses
namespace Go.Proofs.Ytipgcjonidlloaa
theorem fnExactNeededFuses_holds : Rows.FnExactNeededFusesSaid := fnExactNeededFuses.proved
#print axioms fnExactNeededFuses_holds
end Go.Proofs.Ytipgcjonidlloaa
