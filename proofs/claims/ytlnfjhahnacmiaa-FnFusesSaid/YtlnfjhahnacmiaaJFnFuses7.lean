import Derived.Test.YtlnfjhahnacmiaaJFnFuses6
import Derived.Below
import Derived.Deep.Draws
import Derived.Deep.AppendLies
import Derived.Maps.AppendAt
import Derived.OwnWalk
import Derived.Laws.BytesArg
import Derived.Laws.MakeOwn
import Derived.Laws.OwnMore
import Derived.Tactics
import Derived.Lib.ConvBytes
import Derived.Laws.Slices
import Derived.WalkKit
import Derived.KernelRfl
import Derived.RowKit3
import Derived.Deep.LoopGhost
import Derived.Deep.QuietTactic
import Derived.BigQuiet
import Derived.WideLaws
import Derived.Deep.DeepCutAuto
import Derived.Deep.CutBlock
import Derived.Deep.RegionHeld3
import Derived.Lib.AppendStr
import Derived.ArgAppend
import Derived.Laws.IdiomCopy
import Derived.RowKit
import Derived.OrdersHeld
import Derived.Laws.BitsLemmas
import Derived.Laws.StructEq
import Derived.Test.YtlnfjhahnacmiaaProg
namespace Go.Proofs.Ytlnfjhahnacmiaa.F
open Go.RowKit Go.Proofs.YtlnfjhahnacmiaaW.PrintWords Go.Proofs.YtlnfjhahnacmiaaW.PrintLast Go.Proofs.YtlnfjhahnacmiaaW.PrintMore
attribute [local go_sem] max2_int min2_int max_two min_two max_three min_three max_four min_four   -- for this text's walks alone
set_option linter.unusedVariables false
set_option linter.unusedSimpArgs false
def IsS66 (w0 W : World) (g : Nat) (f0 : List Int) (f1 : Int) (f2 : Int) : Prop := ∃ A0 c0, W.heap[g]? = some (.cells #[.slice A0 f0.length c0, .int .i64 f1, .int .u64 f2] 66 (0, 0)) ∧ w0.heap.size ≤ g ∧ Kd.C (Kd.int .u8) w0 A0 f0.length f0
theorem IsS66.grown {w0 W : World} {g : Nat} {f0 : List Int} {f1 : Int} {f2 : Int} {W1 : World} {row : Option Nat} (h : IsS66 w0 W g f0 f1 f2) (hw : W.grownBy W1 row) (hne : some g ≠ row) : IsS66 w0 W1 g f0 f1 f2 := by
 obtain ⟨A0, c0, hb, hg, hr0⟩ := h
 exact ⟨A0, c0, blk_grown hb hw hne, hg, hr0⟩
theorem IsS66.kept {w0 W : World} {g : Nat} {f0 : List Int} {f1 : Int} {f2 : Int} {W1 : World} {S : Nat → Prop} (h : IsS66 w0 W g f0 f1 f2) (hk : Kept W W1 S) (hne : ¬ S g) : IsS66 w0 W1 g f0 f1 f2 := by
 obtain ⟨A0, c0, hb, hg, hr0⟩ := h
 exact ⟨A0, c0, blk_kept hb hk hne, hg, hr0⟩
theorem IsS66.below {w0 W : World} {g : Nat} {f0 : List Int} {f1 : Int} {f2 : Int} {W1 : World} (h : IsS66 w0 W g f0 f1 f2) (hw : Below W.heap.size W W1) : IsS66 w0 W1 g f0 f1 f2 := h.grown (grown_of_below hw none) (by simp)
theorem IsS66.alloc {w0 W : World} {g : Nat} {f0 : List Int} {f1 : Int} {f2 : Int} (h : IsS66 w0 W g f0 f1 f2) (o : Obj) : IsS66 w0 (W.alloc o) g f0 f1 f2 := h.below (below_alloc (Below.refl _ _) o)
theorem IsS66.drewN {w0 W : World} {g : Nat} {f0 : List Int} {f1 : Int} {f2 : Int} (h : IsS66 w0 W g f0 f1 f2) (m : Nat) : IsS66 w0 (W.drewN m) g f0 f1 f2 := h
theorem IsS66.drew {w0 W : World} {g : Nat} {f0 : List Int} {f1 : Int} {f2 : Int} (h : IsS66 w0 W g f0 f1 f2) : IsS66 w0 W.drew g f0 f1 f2 := h
theorem IsS66.at_ {w0 W : World} {g : Nat} {f0 : List Int} {f1 : Int} {f2 : Int} {w' : World} {m : Nat} (hq : W.drewN m = w') (h : IsS66 w0 W g f0 f1 f2) : IsS66 w0 w' g f0 f1 f2 := by subst hq; exact IsS66.drewN h m
theorem IsS66.apart {w0 W : World} {g : Nat} {f0 : List Int} {f1 : Int} {f2 : Int} {α : Type} {d : Kd α} {e : Nat} {base : Nat} {ok : Nat → Prop} {v : Value} {xs : List α} (h : IsS66 w0 W g f0 f1 f2) (ho : d.R e W base ok v xs) (ht : ∀ q, q ∈ e :: d.E → q ≠ 66) : d.R e W base (fun k => ok k ∧ k ≠ g) v xs := by
 obtain ⟨A0, c0, hb, hg, hr0⟩ := h
 exact Kd.R_types ho hb ht
theorem IsS66.own_ne {w0 W : World} {g : Nat} {f0 : List Int} {f1 : Int} {f2 : Int} {α : Type} {d : Kd α} {e : Nat} {base : Nat} {ok : Nat → Prop} {v : Value} {xs : List α} (h : IsS66 w0 W g f0 f1 f2) (ho : d.R e W base ok v xs) (ht : e ≠ 66) : some g ≠ v.ownBlock := by
 obtain ⟨A0, c0, hb, hg, hr0⟩ := h
 exact Kd.R_ne ho hb ht
theorem IsS66.ge {w0 W : World} {g : Nat} {f0 : List Int} {f1 : Int} {f2 : Int} (h : IsS66 w0 W g f0 f1 f2) : w0.heap.size ≤ g := by
 obtain ⟨A0, c0, hb, hg, hr0⟩ := h
 exact hg
theorem cellS66_0 {W : World} {g : Nat} {A0 : Option Addr} {c0 : Nat} {f0 : List Int} {f1 : Int} {f2 : Int} (h : W.heap[g]? = some (.cells #[.slice A0 f0.length c0, .int .i64 f1, .int .u64 f2] 66 (0, 0))) : W.cell? ⟨g, 0, none⟩ = some (.slice A0 f0.length c0) := (blk_cell h 0).trans rfl
theorem cellS66_1 {W : World} {g : Nat} {A0 : Option Addr} {c0 : Nat} {f0 : List Int} {f1 : Int} {f2 : Int} (h : W.heap[g]? = some (.cells #[.slice A0 f0.length c0, .int .i64 f1, .int .u64 f2] 66 (0, 0))) : W.cell? ⟨g, 1, none⟩ = some (.int .i64 f1) := (blk_cell h 1).trans rfl
theorem IsS66.set_1 {w0 W : World} {g : Nat} {f0 : List Int} {f1 : Int} {f2 : Int} (h : IsS66 w0 W g f0 f1 f2) (x : Int) : IsS66 w0 (W.setCell ⟨g, 1, none⟩ (.int .i64 x)) g f0 x f2 := by
 obtain ⟨A0, c0, hb, hg, hr0⟩ := h
 exact ⟨A0, c0, by simpa using blk_set hb 1 (.int .i64 x), hg, hr0⟩
theorem cellS66_2 {W : World} {g : Nat} {A0 : Option Addr} {c0 : Nat} {f0 : List Int} {f1 : Int} {f2 : Int} (h : W.heap[g]? = some (.cells #[.slice A0 f0.length c0, .int .i64 f1, .int .u64 f2] 66 (0, 0))) : W.cell? ⟨g, 2, none⟩ = some (.int .u64 f2) := (blk_cell h 2).trans rfl
theorem IsS66.set_2 {w0 W : World} {g : Nat} {f0 : List Int} {f1 : Int} {f2 : Int} (h : IsS66 w0 W g f0 f1 f2) (x : Int) : IsS66 w0 (W.setCell ⟨g, 2, none⟩ (.int .u64 x)) g f0 f1 x := by
 obtain ⟨A0, c0, hb, hg, hr0⟩ := h
 exact ⟨A0, c0, by simpa using blk_set hb 2 (.int .u64 x), hg, hr0⟩
def laws_roll.l0 : Nat → List Int → Int → List Int → Int → Int → Option (List Int × Int × Int)
 | 0, _, _, _, _, _ => none
 | k + 1, x0, x6, x505000, x505001, x505002 => if x6 < (x0.length : Int) then (if 0 ≤ x6 then (laws_roll.l0 k x0 (wrap64 (x6 + 1)) x505000 x505001 (IntKind.u64.wrap ((IntKind.u64.wrap ((IntKind.u64.wrap (x505002 * 1099511628211)) + (IntKind.u64.wrap (rd x0 x6)))) + 3))) else (none)) else (some (x505000, x505001, x505002))
def laws_roll.f (k : Nat) (l0 : List Int) (a1 : Int) : Option (List Int × Int × Int) := laws_roll.l0 k l0 0 l0 0 (IntKind.u64.wrap ((IntKind.u64.wrap (a1 * 7919)) + (IntKind.u64.wrap ((l0.length : Int)))))
theorem laws_roll.mono_l : ∀ k, (∀ y0 y1 y2 y3 y4, LeO (laws_roll.l0 k y0 y1 y2 y3 y4) (laws_roll.l0 (k + 1) y0 y1 y2 y3 y4))
 | 0 => fun _ _ _ _ _ r h => by simp [laws_roll.l0] at h
 | k + 1 => by
  have ih0 := laws_roll.mono_l k
  ·intro y0 y1 y2 y3 y4
   unfold laws_roll.l0
   repeat' first
   | (with_reducible exact ih0 _ _ _ _ _)
   | (with_reducible exact LeO.refl _)
   | (with_reducible exact LeO.none _)
   | (with_reducible refine LeO.ite ?_ ?_)
   | (with_reducible refine LeO.bind ?_ (fun _ => ?_))
   | exact ih0 _ _ _ _ _
   | exact LeO.none _
   | refine LeO.ite ?_ ?_
   | refine LeO.bind ?_ (fun _ => ?_)
theorem laws_roll.mono : ∀ a0 a1 k, LeO (laws_roll.f k a0 a1) (laws_roll.f (k + 1) a0 a1) := by
 intro a0 a1 k
 have ih0 := laws_roll.mono_l k
 unfold laws_roll.f
 repeat' first
   | (with_reducible exact ih0 _ _ _ _ _)
   | (with_reducible exact LeO.refl _)
   | (with_reducible exact LeO.none _)
   | (with_reducible refine LeO.ite ?_ ?_)
   | (with_reducible refine LeO.bind ?_ (fun _ => ?_))
   | exact ih0 _ _ _ _ _
   | exact LeO.none _
   | refine LeO.ite ?_ ?_
   | refine LeO.bind ?_ (fun _ => ?_)
def laws_roll.T5 : Bool × List (List Nat × List Nat) := (true, [([], []), ([], []), ([1], [1]), ([2], [2]), ([3], [3]), ([4], [4]), ([], []), ([], []), ([6, 7], [6, 7]), ([8], [8]), ([9], [9]), ([5, 10], [5, 10]), ([11], [11]), ([0, 0, 1, 2, 3, 4, 5, 6, 7, 8, 9, 10, 11, 12], [0]), ([13, 0, 1, 2, 3, 4, 5, 6, 7, 8, 9, 10, 11, 12], [13]), ([14, 12, 0, 1, 2, 3, 4, 5, 6, 7, 8, 9, 10, 11, 12], [12, 14])])
def laws_roll.B5 : List Nat := [0, 0, 2, 6, 14, 30, 0, 0, 192, 448, 960, 2046, 4094, 8191, 16383, 32767]
theorem laws_roll.tab5 : rtab .any (opsOf Try.f21 5) = laws_roll.T5 := by kernel_rfl
theorem laws_roll.bits5 : waitsOk laws_roll.T5.2 laws_roll.B5 = true := by kernel_rfl
set_option maxHeartbeats 8000000 in
set_option maxRecDepth 100000 in
theorem laws_roll.calls (k : Nat) (A0 : Option Addr) (c0 : Nat) (l0 : List Int) (a1 : Int) (r1 : List Int) (r2 : Int) (r3 : Int) (w0 w : World) (hB : Below w0.heap.size w0 w) (hr0 : Kd.C (Kd.int .u8) w0 A0 l0.length l0) (hc0 : l0.length ≤ c0) (h : laws_roll.f k l0 a1 = some (r1, r2, r3)) :
  Calls Try.prog 21 #[.slice A0 l0.length c0, .int .u64 a1] w fun e w' => ∃ g_ : Nat, e = .returned (.pointer (some ⟨g_, 0, none⟩)) ∧ IsS66 w0 w' g_ r1 r2 r3 ∧ Below w0.heap.size w0 w' ∧ Below w.heap.size w w' := by
 have hu66 := Try.underlying66
 have HR0 := Aside0.mk hr0
 have HC0 := Aside0.mk hc0
 clear hr0 hc0
 have HBW := Aside0.mk (Below.refl w.heap.size w)
 have HW0 := Aside0.mk hB.size
 have HB := Aside0.mk hB
 clear hB
 have H : (laws_roll.l0 k l0 0 l0 0 (IntKind.u64.wrap ((IntKind.u64.wrap (a1 * 7919)) + (IntKind.u64.wrap ((l0.length : Int)))))) = some (r1, r2, r3) := h
 clear h
 have H' := Aside0.mk H
 clear H
 go_enter Try.func21, Try.ntmps21
 go_wp2_with (first | ((with_reducible refine gate_dst (N := 15) rfl ?_); refine box_event ?hg (N := 15) ?hd (cs := #[.slice A0 l0.length c0, .int .i64 0, .int .u64 (IntKind.u64.wrap ((IntKind.u64.wrap (a1 * 7919)) + (IntKind.u64.wrap ((l0.length : Int)))))]) (t := 66) ?hr ?_; (case hd => rfl); (case hg => rfl); (case hr => first | (go_simp; done) | (go_simp; rfl)); intro gb504 hg w3 hbox hb; have n0_ := Aside0.mk (below_step HBW.out hb); have n1_ := Aside0.mk (below_step (by repeat (first | (with_reducible first | exact HB.out | apply below_alloc | apply pw_below_drewN | apply below_drew1) | exact HB.out)) hb); have n2_ := Aside0.mk (hbox); have n3_ := Aside0.mk ((by rw [hg]; exact (below_size (by repeat (first | (with_reducible first | exact HBW.out | apply below_alloc | apply pw_below_drewN | apply below_drew1) | exact HBW.out))) : w.heap.size ≤ gb504)); have n4_ := Aside0.mk ((Nat.le_trans HW0.out (by rw [hg]; exact (below_size (by repeat (first | (with_reducible first | exact HBW.out | apply below_alloc | apply pw_below_drewN | apply below_drew1) | exact HBW.out))) : w.heap.size ≤ gb504) : w0.heap.size ≤ gb504)); clear HBW; clear HB; have HBW := n0_; have HB := n1_; have BK504 := n2_; have GW504 := n3_; have GE504 := n4_; clear n0_ n1_ n2_ n3_ n4_; clear hb hbox hg))
 go_loopg [6] k (fun kq v6 w' => ∃ (x6_1 : Int) (x505002_1 : Int), v6 = .int .i64 x6_1 ∧ Aside0 (laws_roll.l0 kq l0 x6_1 l0 0 x505002_1 = some (r1, r2, r3)) ∧ Aside0 (kq ≤ k) ∧ Aside0 (w'.heap[gb504]? = some (.cells #[(.slice A0 l0.length c0), .int .i64 0, .int .u64 x505002_1] 66 (0, 0))) ∧ Aside0 (Below w0.heap.size w0 w') ∧ Aside0 (Below w.heap.size w w'))
 case atStart => exact ⟨(0), (IntKind.u64.wrap ((IntKind.u64.wrap (a1 * 7919)) + (IntKind.u64.wrap ((l0.length : Int))))), (by first | rfl | (simp; done) | (simp [*]; done)), H', ⟨Nat.le_refl _⟩, ⟨by (with_reducible repeat (first | refine blk_drewN ?_ _ | refine blk_drew ?_ | refine blk_alloc ?_ _)); exact BK504.out⟩, ⟨by repeat (first | (with_reducible first | exact HB.out | apply below_alloc | apply pw_below_drewN | apply below_drew1 | refine below_set ?_ GE504.out) | exact HB.out)⟩, ⟨by repeat (first | (with_reducible first | exact HBW.out | apply below_alloc | apply pw_below_drewN | apply below_drew1 | refine below_set ?_ GW504.out) | exact HBW.out)⟩⟩
 case round =>
  clear H'
  try clear c2
  try clear p2
  obtain ⟨x6_1, x505002_1, rfl, HA, HK1, BK504, HB, HBW⟩ := hrel
  cases gk with
  | zero => exact absurd HA.out (by simp [laws_roll.l0])
  | succ k1 =>
   have H := HA.out
   clear HA
   simp only [laws_roll.l0] at H
   by_cases c4 : x6_1 < (l0.length : Int)
   ·rw [if_pos c4] at H
    have c4b0 : decide (x6_1 < (l0.length : Int)) = true := decide_eq_true c4
    clear c4
    by_cases c5 : 0 ≤ x6_1
    ·rw [if_pos c5] at H
     have c5b0 : decide (0 ≤ x6_1) = true := decide_eq_true c5
     clear c5
     have H' := Aside0.mk H
     clear H
     try go_wp2
     have n0_ := Aside0.mk (blk_drew BK504.out)
     have n1_ := Aside0.mk (below_drew1 HB.out)
     have n8_ := Aside0.mk (below_drew1 HBW.out)
     clear BK504
     clear HB
     have BK504 := n0_
     have HB := n1_
     clear HBW
     have HBW := n8_
     clear n8_
     clear n0_ n1_
     have p505 : 0 ≤ (x6_1 : Int) := of_decide_eq_true (by first | (with_reducible assumption) | assumption)
     have q505 : x6_1 < (l0.length : Int) := of_decide_eq_true (by first | (with_reducible assumption) | assumption)
     obtain ⟨ad505, e505, hx505_0⟩ := Kd.at_int HR0.out x6_1 p505 q505
     have hw505_0 := hx505_0
     cases e505
     replace hx505_0 := pw_cell_below HB.out hx505_0
     replace p505 := eq_true p505
     replace q505 := eq_true q505
     refine start_ (n := 16) (S := fun w' => w'.cell? ⟨gb504, 0, none⟩ = some (.slice (some ad505) l0.length c0) ∧ w'.cell? ⟨gb504, 1, none⟩ = some (.int .i64 0) ∧ w'.cell? ⟨gb504, 2, none⟩ = some (.int .u64 x505002_1) ∧ w'.cell? (ad505.add (x6_1).toNat) = some (.int .u8 (rd l0 x6_1))) (ds := [15]) #[false, false, false, false, false, false, false, false, false, false, false, false, false, false, false, false] (by kernel_rfl) rfl rfl ⟨(blk_cell BK504.out 0).trans rfl, (blk_cell BK504.out 1).trans rfl, (blk_cell BK504.out 2).trans rfl, ((HB.out.cell (World.block_lt_of_cell? w0 _ hw505_0)).trans hw505_0)⟩ (fun hHeld => ?_); refine with_tabW laws_roll.tab5 laws_roll.bits5 (fun HT_ HW_ => ?_)
     generalize wr.drew = w6 at BK504 HB HBW hx505_0 hHeld ⊢
     refine pure_ (i := 0) (N := some 22) (v := ?_) (a' := ?_) #[true, false, false, false, false, false, false, false, false, false, false, false, false, false, false, false] rfl rfl (any_of HT_.out (by kernel_rfl)) (fun _ _ _ h => h) (Or.inl ⟨by rfl, ?_⟩) ?_ ?_
     rotate_left
     ·intro w'
      go_simp
      with_reducible rfl
     rotate_left
     ·simp only [Act.put, List.setIfInBounds_toArray, List.set_cons_zero, List.set_cons_succ, i64_w, i32_w]
      rfl
     refine pure_ (i := 1) (N := some 23) (v := ?_) (a' := ?_) #[true, true, false, false, false, false, false, false, false, false, false, false, false, false, false, false] rfl rfl (any_of HT_.out (by kernel_rfl)) (fun _ _ _ h => h) (Or.inl ⟨by rfl, ?_⟩) ?_ ?_
     rotate_left
     ·intro w'
      go_simp
      with_reducible rfl
     rotate_left
     ·simp only [Act.put, List.setIfInBounds_toArray, List.set_cons_zero, List.set_cons_succ, i64_w, i32_w]
      rfl
     refine pure_ (i := 2) (N := some 24) (v := ?_) (a' := ?_) #[true, true, true, false, false, false, false, false, false, false, false, false, false, false, false, false] rfl rfl (any_of HT_.out (by kernel_rfl)) (fun _ _ _ h => h) (Or.inl ⟨by rfl, ?_⟩) ?_ ?_
     rotate_left
     ·intro w'
      go_simp
      with_reducible rfl
     rotate_left
     ·simp only [Act.put, List.setIfInBounds_toArray, List.set_cons_zero, List.set_cons_succ, i64_w, i32_w]
      rfl
     refine pure_ (i := 3) (N := some 25) (v := ?_) (a' := ?_) #[true, true, true, true, false, false, false, false, false, false, false, false, false, false, false, false] rfl rfl (any_of HT_.out (by kernel_rfl)) (fun _ _ _ h => h) (Or.inl ⟨by rfl, ?_⟩) ?_ ?_
     rotate_left
     ·intro w'
      go_simp
      with_reducible rfl
     rotate_left
     ·simp only [Act.put, List.setIfInBounds_toArray, List.set_cons_zero, List.set_cons_succ, i64_w, i32_w]
      rfl
     refine pure_ (i := 6) (N := some 28) (v := ?_) (a' := ?_) #[true, true, true, true, false, false, true, false, false, false, false, false, false, false, false, false] rfl rfl (any_of HT_.out (by kernel_rfl)) (fun _ _ _ h => h) (Or.inl ⟨by rfl, ?_⟩) ?_ ?_
     rotate_left
     ·intro w'
      go_simp
      with_reducible rfl
     rotate_left
     ·simp only [Act.put, List.setIfInBounds_toArray, List.set_cons_zero, List.set_cons_succ, i64_w, i32_w]
      rfl
     refine pure_ (i := 7) (N := some 29) (v := ?_) (a' := ?_) #[true, true, true, true, false, false, true, true, false, false, false, false, false, false, false, false] rfl rfl (any_of HT_.out (by kernel_rfl)) (fun _ _ _ h => h) (Or.inl ⟨by rfl, ?_⟩) ?_ ?_
     rotate_left
     ·intro w'
      go_simp
      with_reducible rfl
     rotate_left
     ·simp only [Act.put, List.setIfInBounds_toArray, List.set_cons_zero, List.set_cons_succ, i64_w, i32_w]
      rfl
     refine pure_ (i := 8) (N := some 30) (v := ?_) (a' := ?_) #[true, true, true, true, false, false, true, true, true, false, false, false, false, false, false, false] rfl rfl (any_of HT_.out (by kernel_rfl)) (fun _ _ _ h => h) (Or.inl ⟨by rfl, ?_⟩) ?_ ?_
     rotate_left
     ·intro w'
      go_simp
      with_reducible rfl
     rotate_left
     ·simp only [Act.put, List.setIfInBounds_toArray, List.set_cons_zero, List.set_cons_succ, i64_w, i32_w]
      rfl
     refine take_ (i := 4) (N := some 26) (v := ?_) (a' := ?_) #[true, true, true, true, true, false, true, true, true, false, false, false, false, false, false, false] rfl rfl (take_ofW HT_.out HW_.out (by kernel_rfl)) (fun _ _ _ h => h) (Or.inl ⟨by rfl, ?_⟩) hHeld ?_ ?_
     rotate_left
     ·rintro w' ⟨s0, s1, s2, s3⟩
      go_simp
      with_reducible rfl
     rotate_left
     ·simp only [Act.put, List.setIfInBounds_toArray, List.set_cons_zero, List.set_cons_succ, i64_w, i32_w]
      rfl
     refine pure_ (i := 5) (N := some 27) (v := ?_) (a' := ?_) #[true, true, true, true, true, true, true, true, true, false, false, false, false, false, false, false] rfl rfl (any_of HT_.out (by kernel_rfl)) (fun _ _ _ h => h) (Or.inl ⟨by rfl, ?_⟩) ?_ ?_
     rotate_left
     ·intro w'
      go_simp
      with_reducible rfl
     rotate_left
     ·simp only [Act.put, List.setIfInBounds_toArray, List.set_cons_zero, List.set_cons_succ, i64_w, i32_w]
      rfl
     refine take_ (i := 9) (N := some 31) (v := ?_) (a' := ?_) #[true, true, true, true, true, true, true, true, true, true, false, false, false, false, false, false] rfl rfl (take_ofW HT_.out HW_.out (by kernel_rfl)) (fun _ _ _ h => h) (Or.inl ⟨by rfl, ?_⟩) hHeld ?_ ?_
     rotate_left
     ·rintro w' ⟨s0, s1, s2, s3⟩
      go_simp
      with_reducible rfl
     rotate_left
     ·simp only [Act.put, List.setIfInBounds_toArray, List.set_cons_zero, List.set_cons_succ, i64_w, i32_w]
      rfl
     refine pure_ (i := 10) (N := some 32) (v := ?_) (a' := ?_) #[true, true, true, true, true, true, true, true, true, true, true, false, false, false, false, false] rfl rfl (any_of HT_.out (by kernel_rfl)) (fun _ _ _ h => h) (Or.inl ⟨by rfl, ?_⟩) ?_ ?_
     rotate_left
     ·intro w'
      go_simp
      with_reducible rfl
     rotate_left
     ·simp only [Act.put, List.setIfInBounds_toArray, List.set_cons_zero, List.set_cons_succ, i64_w, i32_w]
      rfl
     refine pure_ (i := 11) (N := some 33) (v := ?_) (a' := ?_) #[true, true, true, true, true, true, true, true, true, true, true, true, false, false, false, false] rfl rfl (any_of HT_.out (by kernel_rfl)) (fun _ _ _ h => h) (Or.inl ⟨by rfl, ?_⟩) ?_ ?_
     rotate_left
     ·intro w'
      go_simp
      with_reducible rfl
     rotate_left
     ·simp only [Act.put, List.setIfInBounds_toArray, List.set_cons_zero, List.set_cons_succ, i64_w, i32_w]
      rfl
     refine pure_ (i := 12) (N := some 34) (v := ?_) (a' := ?_) #[true, true, true, true, true, true, true, true, true, true, true, true, true, false, false, false] rfl rfl (any_of HT_.out (by kernel_rfl)) (fun _ _ _ h => h) (Or.inl ⟨by rfl, ?_⟩) ?_ ?_
     rotate_left
     ·intro w'
      go_simp
      with_reducible rfl
     rotate_left
     ·simp only [Act.put, List.setIfInBounds_toArray, List.set_cons_zero, List.set_cons_succ, i64_w, i32_w]
      rfl
     refine pure_ (i := 13) (N := some 35) (v := ?_) (a' := ?_) #[true, true, true, true, true, true, true, true, true, true, true, true, true, true, false, false] rfl rfl (any_of HT_.out (by kernel_rfl)) (fun _ _ _ h => h) (Or.inl ⟨by rfl, ?_⟩) ?_ ?_
     rotate_left
     ·intro w'
      go_simp
      with_reducible rfl
     rotate_left
     ·simp only [Act.put, List.setIfInBounds_toArray, List.set_cons_zero, List.set_cons_succ, i64_w, i32_w]
      rfl
     refine pure_ (i := 14) (N := some 36) (v := ?_) (a' := ?_) #[true, true, true, true, true, true, true, true, true, true, true, true, true, true, true, false] rfl rfl (any_of HT_.out (by kernel_rfl)) (fun _ _ _ h => h) (Or.inl ⟨by rfl, ?_⟩) ?_ ?_
     rotate_left
     ·intro w'
      go_simp
      with_reducible rfl
     rotate_left
     ·simp only [Act.put, List.setIfInBounds_toArray, List.set_cons_zero, List.set_cons_succ, i64_w, i32_w]
      rfl
     refine last_ (i := 15) (N := none) #[true, true, true, true, true, true, true, true, true, true, true, true, true, true, true, true] rfl rfl (one_of HT_.out (by kernel_rfl)) (by decide) (fun K hK => ?_)
     have hs7 : w6.cell? ⟨gb504, 2, none⟩ = some (.int .u64 x505002_1) := (blk_cell BK504.out 2).trans rfl
     have hfs7 := blk_frozen BK504.out 2
     refine skip_ (w1 := ?_) (by rfl) rfl ?_ ?_
     rotate_left
     ·go_simp
      rfl
     refine hK.out _ _ ?_
     clear hK K
     refine done_ (done_of HT_.out (by kernel_rfl)) ?_
     try go_wp2
     go_roundg k1
     case measure => have := HK1.out; omega
     case rel => exact ⟨(wrap64 (x6_1 + 1)), (IntKind.u64.wrap ((IntKind.u64.wrap ((IntKind.u64.wrap (x505002_1 * 1099511628211)) + (IntKind.u64.wrap (rd l0 x6_1)))) + 3)), (by first | rfl | (simp; done) | (simp [*]; done)), H', ⟨by have := HK1.out; omega⟩, ⟨by (with_reducible repeat (first | refine blk_drewN ?_ _ | refine blk_drew ?_ | refine blk_alloc ?_ _)); refine blk_put (cs := #[.slice (some ad505) l0.length c0, .int .i64 0, .int .u64 x505002_1]) ?_ 2 _ rfl; (with_reducible repeat (first | refine blk_drewN ?_ _ | refine blk_drew ?_ | refine blk_alloc ?_ _)); exact BK504.out⟩, ⟨by repeat (first | (with_reducible first | exact HB.out | apply below_alloc | apply pw_below_drewN | apply below_drew1 | refine below_set ?_ GE504.out) | exact HB.out)⟩, ⟨by repeat (first | (with_reducible first | exact HBW.out | apply below_alloc | apply pw_below_drewN | apply below_drew1 | refine below_set ?_ GW504.out) | exact HBW.out)⟩⟩
    ·rw [if_neg c5] at H
     exact absurd H (by simp)
   ·rw [if_neg c4] at H
    have c4b0 : decide (x6_1 < (l0.length : Int)) = false := decide_eq_false c4
    clear c4
    simp only [Option.some.injEq, Prod.mk.injEq] at H
    obtain ⟨rfl, rfl, rfl⟩ := H
    go_wp2
    go_ret
    exact ⟨_, rfl, (show IsS66 w0 _ gb504 l0 0 x505002_1 from ⟨_, _, by (with_reducible repeat (first | refine blk_drewN ?_ _ | refine blk_drew ?_ | refine blk_alloc ?_ _)); exact BK504.out, GE504.out, HR0.out⟩), by repeat (first | (with_reducible first | exact HB.out | apply below_alloc | apply pw_below_drewN | apply below_drew1 | refine below_set ?_ GE504.out) | exact HB.out), by repeat (first | (with_reducible first | exact HBW.out | apply below_alloc | apply pw_below_drewN | apply below_drew1 | refine below_set ?_ GW504.out) | exact HBW.out)⟩
end Go.Proofs.Ytlnfjhahnacmiaa.F
namespace Go.Proofs.Ytlnfjhahnacmiaa.F
open Go.RowKit Go.Proofs.YtlnfjhahnacmiaaW.PrintWords Go.Proofs.YtlnfjhahnacmiaaW.PrintLast Go.Proofs.YtlnfjhahnacmiaaW.PrintMore
attribute [local go_sem] max2_int min2_int max_two min_two max_three min_three max_four min_four   -- for this text's walks alone
set_option linter.unusedVariables false
set_option linter.unusedSimpArgs false
def laws_dice_below.f (s0_0 : List Int) (s0_1 : Int) (s0_2 : Int) (a1 : Int) : Option (Int × Int × Int) := if s0_1 < (s0_0.length : Int) then (if 0 ≤ s0_1 then (if a1 = 0 then (none) else (some (Int.tmod (wrap64 ((wrap64 (Go.bits .and .u64 ((IntKind.u64.wrap ((IntKind.u64.wrap (s0_2 * 6364136223846793005)) + 1442695040888963407)) / 8589934592) 16777215)) + (wrap64 (rd s0_0 s0_1)))) a1, wrap64 (s0_1 + 1), IntKind.u64.wrap ((IntKind.u64.wrap (s0_2 * 6364136223846793005)) + 1442695040888963407)))) else (none)) else (if a1 = 0 then (none) else (some (Int.tmod (wrap64 (Go.bits .and .u64 ((IntKind.u64.wrap ((IntKind.u64.wrap (s0_2 * 6364136223846793005)) + 1442695040888963407)) / 8589934592) 16777215)) a1, s0_1, IntKind.u64.wrap ((IntKind.u64.wrap (s0_2 * 6364136223846793005)) + 1442695040888963407))))
set_option maxHeartbeats 8000000 in
set_option maxRecDepth 100000 in
theorem laws_dice_below.calls (g : Nat) (s0_0 : List Int) (s0_1 : Int) (s0_2 : Int) (a1 : Int) (r1 : Int) (r2 : Int) (r3 : Int) (w0 w : World) (hI : IsS66 w0 w g s0_0 s0_1 s0_2) (hB : Below w0.heap.size w0 w) (h : laws_dice_below.f s0_0 s0_1 s0_2 a1 = some (r1, r2, r3)) :
  Calls Try.prog 22 #[.pointer (some ⟨g, 0, none⟩), .int .i64 a1] w fun e w' => e = .returned (.int .i64 r1) ∧ IsS66 w0 w' g s0_0 r2 r3 ∧ Below w0.heap.size w0 w' ∧ KeepBut w w' g none := by
 have HI0 := Aside0.mk hI
 have HK := Aside0.mk (KeepBut.refl w g none)
 have HL := Aside0.mk hB.size
 clear hI
 have HW0 := Aside0.mk hB.size
 have HB := Aside0.mk hB
 clear hB
 have H : (if s0_1 < (s0_0.length : Int) then (if 0 ≤ s0_1 then (if a1 = 0 then (none) else (some (Int.tmod (wrap64 ((wrap64 (Go.bits .and .u64 ((IntKind.u64.wrap ((IntKind.u64.wrap (s0_2 * 6364136223846793005)) + 1442695040888963407)) / 8589934592) 16777215)) + (wrap64 (rd s0_0 s0_1)))) a1, wrap64 (s0_1 + 1), IntKind.u64.wrap ((IntKind.u64.wrap (s0_2 * 6364136223846793005)) + 1442695040888963407)))) else (none)) else (if a1 = 0 then (none) else (some (Int.tmod (wrap64 (Go.bits .and .u64 ((IntKind.u64.wrap ((IntKind.u64.wrap (s0_2 * 6364136223846793005)) + 1442695040888963407)) / 8589934592) 16777215)) a1, s0_1, IntKind.u64.wrap ((IntKind.u64.wrap (s0_2 * 6364136223846793005)) + 1442695040888963407))))) = some (r1, r2, r3) := h
 clear h
 by_cases c3 : s0_1 < (s0_0.length : Int)
 ·rw [if_pos c3] at H
  have c3b0 : decide (s0_1 < (s0_0.length : Int)) = true := decide_eq_true c3
  clear c3
  by_cases c4 : 0 ≤ s0_1
  ·rw [if_pos c4] at H
   have c4b0 : decide (0 ≤ s0_1) = true := decide_eq_true c4
   clear c4
   by_cases c5 : a1 = 0
   ·rw [if_pos c5] at H
    exact absurd H (by simp)
   ·rw [if_neg c5] at H
    have c5b0 : (a1 == 0) = false := beq_eq_false_iff_ne.mpr c5
    have c5b1 : (a1 != 0) = true := bne_iff_ne.mpr c5
    simp only [Option.some.injEq, Prod.mk.injEq] at H
    obtain ⟨rfl, rfl, rfl⟩ := H
    obtain ⟨ASz6_0, cSz6_0, HGz6, hgz6, HSz6_0⟩ := HI0.out
    have hcz6_0 := cellS66_0 HGz6
    have hcz6_1 := cellS66_1 HGz6
    have hcz6_2 := cellS66_2 HGz6
    have hfz6_1 := blk_frozen HGz6 1
    have hfz6_2 := blk_frozen HGz6 2
    clear HGz6 hgz6
    have p506 : 0 ≤ (s0_1 : Int) := of_decide_eq_true (by first | (with_reducible assumption) | assumption)
    have q506 : s0_1 < (s0_0.length : Int) := of_decide_eq_true (by first | (with_reducible assumption) | assumption)
    obtain ⟨ad506, e506, hx506_0⟩ := Kd.at_int HSz6_0 s0_1 p506 q506
    cases e506
    have hn506_0 : ad506.block ≠ g := Nat.ne_of_lt (Nat.lt_of_lt_of_le (by have := World.block_lt_of_cell? _ _ hx506_0; first | rwa [add_block] at this | exact this) (IsS66.ge HI0.out))
    replace hx506_0 := pw_cell_below HB.out hx506_0
    replace hx506_0 := (cell_far (p := ⟨g, 2, none⟩) (by first | (rw [add_block]; exact hn506_0) | (show (Addr.add _ _).block ≠ _; rw [add_block]; exact hn506_0) | exact hn506_0) (.int .u64 (IntKind.u64.wrap ((IntKind.u64.wrap (s0_2 * 6364136223846793005)) + 1442695040888963407)))).trans hx506_0
    (try have hy506_0 := fun (n_ : Nat) => (show (((w.drewN n_).setCell ⟨g, 2, none⟩ (.int .u64 (IntKind.u64.wrap ((IntKind.u64.wrap (s0_2 * 6364136223846793005)) + 1442695040888963407))))).cell? _ = some _ from hx506_0))
    clear hn506_0
    replace p506 := eq_true p506
    replace q506 := eq_true q506
    go_enter Try.func22, Try.ntmps22
    go_wp2
    repeat (go_quiet (fail); try go_wp2)
    go_ret
    exact ⟨by first | rfl | (simp [errW_none, errW_some] <;> rfl) | (simp [*, errW_none, errW_some] <;> rfl), by repeat (first | (with_reducible first | exact HI0.out | apply IsS66.alloc | apply IsS66.drewN | apply IsS66.drew | apply IsS66.set_1 | apply IsS66.set_2) | exact HI0.out), by repeat (first | (with_reducible first | exact HB.out | apply below_alloc | apply pw_below_drewN | apply below_drew1 | refine below_set ?_ (IsS66.ge HI0.out)) | exact HB.out), by repeat (first | (with_reducible first | exact HK.out | apply KeepBut.set_ | apply keep_drewN | apply keep_drew | apply keep_alloc) | exact HK.out)⟩
  ·rw [if_neg c4] at H
   exact absurd H (by simp)
 ·rw [if_neg c3] at H
  have c3b0 : decide (s0_1 < (s0_0.length : Int)) = false := decide_eq_false c3
  clear c3
  by_cases c7 : a1 = 0
  ·rw [if_pos c7] at H
   exact absurd H (by simp)
  ·rw [if_neg c7] at H
   have c7b0 : (a1 == 0) = false := beq_eq_false_iff_ne.mpr c7
   have c7b1 : (a1 != 0) = true := bne_iff_ne.mpr c7
   simp only [Option.some.injEq, Prod.mk.injEq] at H
   obtain ⟨rfl, rfl, rfl⟩ := H
   obtain ⟨ASz8_0, cSz8_0, HGz8, hgz8, HSz8_0⟩ := HI0.out
   have hcz8_0 := cellS66_0 HGz8
   have hcz8_1 := cellS66_1 HGz8
   have hcz8_2 := cellS66_2 HGz8
   have hfz8_1 := blk_frozen HGz8 1
   have hfz8_2 := blk_frozen HGz8 2
   clear HGz8 hgz8
   go_enter Try.func22, Try.ntmps22
   go_wp2
   repeat (go_quiet (fail); try go_wp2)
   go_ret
   exact ⟨by first | rfl | (simp [errW_none, errW_some] <;> rfl) | (simp [*, errW_none, errW_some] <;> rfl), by repeat (first | (with_reducible first | exact HI0.out | apply IsS66.alloc | apply IsS66.drewN | apply IsS66.drew | apply IsS66.set_1 | apply IsS66.set_2) | exact HI0.out), by repeat (first | (with_reducible first | exact HB.out | apply below_alloc | apply pw_below_drewN | apply below_drew1 | refine below_set ?_ (IsS66.ge HI0.out)) | exact HB.out), by repeat (first | (with_reducible first | exact HK.out | apply KeepBut.set_ | apply keep_drewN | apply keep_drew | apply keep_alloc) | exact HK.out)⟩
end Go.Proofs.Ytlnfjhahnacmiaa.F
namespace Go.Proofs.Ytlnfjhahnacmiaa.F
open Go.RowKit Go.Proofs.YtlnfjhahnacmiaaW.PrintWords Go.Proofs.YtlnfjhahnacmiaaW.PrintLast Go.Proofs.YtlnfjhahnacmiaaW.PrintMore
attribute [local go_sem] max2_int min2_int max_two min_two max_three min_three max_four min_four   -- for this text's walks alone
set_option linter.unusedVariables false
set_option linter.unusedSimpArgs false
mutual
def laws_FnFuses.j0 : Nat → List Int → Int → List (S39) → Int → Int → Int → Int → List Int → List Int → Bool → Option (Bool)
 | 0, _, _, _, _, _, _, _, _, _, _ => none
 | k + 1, x0, x3, x4, x5, x6, x7, x8, x12, x14, x98 => if x98 = true then (some false) else (if x8 = 0 then (laws_FnFuses.l0 k x0 x3 x4 x5 x6 x7 x12 x14 0 0 0) else (some true))
def laws_FnFuses.l0 : Nat → List Int → Int → List (S39) → Int → Int → Int → List Int → List Int → Int → Int → Int → Option (Bool)
 | 0, _, _, _, _, _, _, _, _, _, _, _ => none
 | k + 1, x0, x3, x4, x5, x6, x7, x12, x14, x16, x17, x18 => if x18 < (x12.length : Int) then (if 0 ≤ x18 then (if (rd x12 x18) < 0 then (some false) else (if (rd x12 x18) ≥ (x4.length : Int) then (some false) else (if 0 ≤ (rd x12 x18) then (if (rd x12 x18) < (x4.length : Int) then (if ((rd_T39 x4 (rd x12 x18)).f0) = x16 then (if x18 < (x14.length : Int) then (if 0 ≤ (rd x14 x18) then (if (rd x14 x18) < (x4.length : Int) then (laws_FnFuses.l0 k x0 x3 x4 x5 x6 x7 x12 x14 ((rd_T39 x4 (rd x14 x18)).f1) (wrap64 (x17 + ((rd_T39 x4 (rd x14 x18)).f2))) (wrap64 (x18 + 1))) else (none)) else (none)) else (none)) else (some false)) else (none)) else (none)))) else (none)) else (if x16 = x5 then (if x17 = x6 then (laws_FnFuses.j2 k x0 x3 x4 x5 x6 x7 (decide (x6 > x7))) else (laws_FnFuses.j2 k x0 x3 x4 x5 x6 x7 true)) else (laws_FnFuses.j2 k x0 x3 x4 x5 x6 x7 true))
def laws_FnFuses.j2 : Nat → List Int → Int → List (S39) → Int → Int → Int → Bool → Option (Bool)
 | 0, _, _, _, _, _, _, _ => none
 | k + 1, x0, x3, x4, x5, x6, x7, x163 => if x163 = true then (some false) else (if (x4.length : Int) = 0 then (some true) else ((laws_roll.f k x0 1001).bind fun bt537 => ((laws_dice_below.f bt537.1 bt537.2.1 bt537.2.2 (x4.length : Int)).bind fun bt541 => ((impl_WithoutFuse.f k x3 x4 bt541.1).bind fun bt544 => ((impl_LitBetween.f k x3 bt544.1 x5).bind fun bt548 => (if bt544.2 = 0 then (if bt548.2.2 = 4 then (some true) else (if bt548.2.2 = 0 then (if bt548.1 ≥ x6 then (some (decide (bt548.2.1 ≥ x7))) else (some false)) else (some false))) else (some false)))))))
end
def laws_FnFuses.f (k : Nat) (l0 : List Int) : Option (Bool) := (laws_big.f l0).bind fun t507 => (if t507 = true then (some true) else ((spec_DrawLitBetween.f k l0).bind fun bt508 => ((impl_LitBetween.f k bt508.1 bt508.2.1 bt508.2.2).bind fun bt513 => ((spec_LitBetween.f k bt508.1 bt508.2.1 bt508.2.2).bind fun bt516 => ((impl_FastestWay.f k bt508.1 bt508.2.1 bt508.2.2).bind fun bt519 => ((spec_FastestWay.f k bt508.1 bt508.2.1 bt508.2.2).bind fun bt523 => (if bt513.2.2 = bt516.2.2 then (if bt513.1 = bt516.1 then (if bt513.2.1 = bt516.2.1 then (if bt519.2 = bt523.2 then ((laws_likeInts.f k bt519.1 bt523.1).bind fun t527 => (if t527 = true then (if bt519.2 = bt513.2.2 then ((impl_AreFuses.f k bt508.1 bt508.2.1).bind fun t528 => (laws_FnFuses.j0 k l0 bt508.1 bt508.2.1 bt508.2.2 bt513.1 bt513.2.1 bt513.2.2 bt519.1 bt523.1 (t528 != (bt516.2.2 != 1)))) else (laws_FnFuses.j0 k l0 bt508.1 bt508.2.1 bt508.2.2 bt513.1 bt513.2.1 bt513.2.2 bt519.1 bt523.1 true)) else (laws_FnFuses.j0 k l0 bt508.1 bt508.2.1 bt508.2.2 bt513.1 bt513.2.1 bt513.2.2 bt519.1 bt523.1 true))) else (laws_FnFuses.j0 k l0 bt508.1 bt508.2.1 bt508.2.2 bt513.1 bt513.2.1 bt513.2.2 bt519.1 bt523.1 true)) else (laws_FnFuses.j0 k l0 bt508.1 bt508.2.1 bt508.2.2 bt513.1 bt513.2.1 bt513.2.2 bt519.1 bt523.1 true)) else (laws_FnFuses.j0 k l0 bt508.1 bt508.2.1 bt508.2.2 bt513.1 bt513.2.1 bt513.2.2 bt519.1 bt523.1 true)) else (laws_FnFuses.j0 k l0 bt508.1 bt508.2.1 bt508.2.2 bt513.1 bt513.2.1 bt513.2.2 bt519.1 bt523.1 true))))))))
theorem laws_FnFuses.mono_l : ∀ k, (∀ y0 y1 y2 y3 y4 y5 y6 y7 y8 y9, LeO (laws_FnFuses.j0 k y0 y1 y2 y3 y4 y5 y6 y7 y8 y9) (laws_FnFuses.j0 (k + 1) y0 y1 y2 y3 y4 y5 y6 y7 y8 y9)) ∧ (∀ y0 y1 y2 y3 y4 y5 y6 y7 y8 y9 y10, LeO (laws_FnFuses.l0 k y0 y1 y2 y3 y4 y5 y6 y7 y8 y9 y10) (laws_FnFuses.l0 (k + 1) y0 y1 y2 y3 y4 y5 y6 y7 y8 y9 y10)) ∧ (∀ y0 y1 y2 y3 y4 y5 y6, LeO (laws_FnFuses.j2 k y0 y1 y2 y3 y4 y5 y6) (laws_FnFuses.j2 (k + 1) y0 y1 y2 y3 y4 y5 y6))
 | 0 => ⟨fun _ _ _ _ _ _ _ _ _ _ r h => by simp [laws_FnFuses.j0] at h, fun _ _ _ _ _ _ _ _ _ _ _ r h => by simp [laws_FnFuses.l0] at h, fun _ _ _ _ _ _ _ r h => by simp [laws_FnFuses.j2] at h⟩
 | k + 1 => by
  obtain ⟨ih0, ih1, ih2⟩ := laws_FnFuses.mono_l k
  refine ⟨?_, ?_, ?_⟩
  ·intro y0 y1 y2 y3 y4 y5 y6 y7 y8 y9
   unfold laws_FnFuses.j0
   repeat' first
   | (with_reducible exact ih0 _ _ _ _ _ _ _ _ _ _)
   | (with_reducible exact ih1 _ _ _ _ _ _ _ _ _ _ _)
   | (with_reducible exact ih2 _ _ _ _ _ _ _)
   | (with_reducible exact impl_AreFuses.mono _ _ _)
   | (with_reducible exact impl_FastestWay.mono _ _ _ _)
   | (with_reducible exact impl_LitBetween.mono _ _ _ _)
   | (with_reducible exact impl_WithoutFuse.mono _ _ _ _)
   | (with_reducible exact laws_likeInts.mono _ _ _)
   | (with_reducible exact laws_roll.mono _ _ _)
   | (with_reducible exact spec_DrawLitBetween.mono _ _)
   | (with_reducible exact spec_FastestWay.mono _ _ _ _)
   | (with_reducible exact spec_LitBetween.mono _ _ _ _)
   | (with_reducible exact LeO.refl _)
   | (with_reducible exact LeO.none _)
   | (with_reducible refine LeO.ite ?_ ?_)
   | (with_reducible refine LeO.bind ?_ (fun _ => ?_))
   | exact ih0 _ _ _ _ _ _ _ _ _ _
   | exact ih1 _ _ _ _ _ _ _ _ _ _ _
   | exact ih2 _ _ _ _ _ _ _
   | exact impl_AreFuses.mono _ _ _
   | exact impl_FastestWay.mono _ _ _ _
   | exact impl_LitBetween.mono _ _ _ _
   | exact impl_WithoutFuse.mono _ _ _ _
   | exact laws_likeInts.mono _ _ _
   | exact laws_roll.mono _ _ _
   | exact spec_DrawLitBetween.mono _ _
   | exact spec_FastestWay.mono _ _ _ _
   | exact spec_LitBetween.mono _ _ _ _
   | exact LeO.none _
   | refine LeO.ite ?_ ?_
   | refine LeO.bind ?_ (fun _ => ?_)
  ·intro y0 y1 y2 y3 y4 y5 y6 y7 y8 y9 y10
   unfold laws_FnFuses.l0
   repeat' first
   | (with_reducible exact ih0 _ _ _ _ _ _ _ _ _ _)
   | (with_reducible exact ih1 _ _ _ _ _ _ _ _ _ _ _)
   | (with_reducible exact ih2 _ _ _ _ _ _ _)
   | (with_reducible exact impl_AreFuses.mono _ _ _)
   | (with_reducible exact impl_FastestWay.mono _ _ _ _)
   | (with_reducible exact impl_LitBetween.mono _ _ _ _)
   | (with_reducible exact impl_WithoutFuse.mono _ _ _ _)
   | (with_reducible exact laws_likeInts.mono _ _ _)
   | (with_reducible exact laws_roll.mono _ _ _)
   | (with_reducible exact spec_DrawLitBetween.mono _ _)
   | (with_reducible exact spec_FastestWay.mono _ _ _ _)
   | (with_reducible exact spec_LitBetween.mono _ _ _ _)
   | (with_reducible exact LeO.refl _)
   | (with_reducible exact LeO.none _)
   | (with_reducible refine LeO.ite ?_ ?_)
   | (with_reducible refine LeO.bind ?_ (fun _ => ?_))
   | exact ih0 _ _ _ _ _ _ _ _ _ _
   | exact ih1 _ _ _ _ _ _ _ _ _ _ _
   | exact ih2 _ _ _ _ _ _ _
   | exact impl_AreFuses.mono _ _ _
   | exact impl_FastestWay.mono _ _ _ _
   | exact impl_LitBetween.mono _ _ _ _
   | exact impl_WithoutFuse.mono _ _ _ _
   | exact laws_likeInts.mono _ _ _
   | exact laws_roll.mono _ _ _
   | exact spec_DrawLitBetween.mono _ _
   | exact spec_FastestWay.mono _ _ _ _
   | exact spec_LitBetween.mono _ _ _ _
   | exact LeO.none _
   | refine LeO.ite ?_ ?_
   | refine LeO.bind ?_ (fun _ => ?_)
  ·intro y0 y1 y2 y3 y4 y5 y6
   unfold laws_FnFuses.j2
   repeat' first
   | (with_reducible exact ih0 _ _ _ _ _ _ _ _ _ _)
   | (with_reducible exact ih1 _ _ _ _ _ _ _ _ _ _ _)
   | (with_reducible exact ih2 _ _ _ _ _ _ _)
   | (with_reducible exact impl_AreFuses.mono _ _ _)
   | (with_reducible exact impl_FastestWay.mono _ _ _ _)
   | (with_reducible exact impl_LitBetween.mono _ _ _ _)
   | (with_reducible exact impl_WithoutFuse.mono _ _ _ _)
   | (with_reducible exact laws_likeInts.mono _ _ _)
   | (with_reducible exact laws_roll.mono _ _ _)
   | (with_reducible exact spec_DrawLitBetween.mono _ _)
   | (with_reducible exact spec_FastestWay.mono _ _ _ _)
   | (with_reducible exact spec_LitBetween.mono _ _ _ _)
   | (with_reducible exact LeO.refl _)
   | (with_reducible exact LeO.none _)
   | (with_reducible refine LeO.ite ?_ ?_)
   | (with_reducible refine LeO.bind ?_ (fun _ => ?_))
   | exact ih0 _ _ _ _ _ _ _ _ _ _
   | exact ih1 _ _ _ _ _ _ _ _ _ _ _
   | exact ih2 _ _ _ _ _ _ _
   | exact impl_AreFuses.mono _ _ _
   | exact impl_FastestWay.mono _ _ _ _
   | exact impl_LitBetween.mono _ _ _ _
   | exact impl_WithoutFuse.mono _ _ _ _
   | exact laws_likeInts.mono _ _ _
   | exact laws_roll.mono _ _ _
   | exact spec_DrawLitBetween.mono _ _
   | exact spec_FastestWay.mono _ _ _ _
   | exact spec_LitBetween.mono _ _ _ _
   | exact LeO.none _
   | refine LeO.ite ?_ ?_
   | refine LeO.bind ?_ (fun _ => ?_)
theorem laws_FnFuses.mono : ∀ a0 k, LeO (laws_FnFuses.f k a0) (laws_FnFuses.f (k + 1) a0) := by
 intro a0 k
 obtain ⟨ih0, ih1, ih2⟩ := laws_FnFuses.mono_l k
 unfold laws_FnFuses.f
 repeat' first
   | (with_reducible exact ih0 _ _ _ _ _ _ _ _ _ _)
   | (with_reducible exact ih1 _ _ _ _ _ _ _ _ _ _ _)
   | (with_reducible exact ih2 _ _ _ _ _ _ _)
   | (with_reducible exact impl_AreFuses.mono _ _ _)
   | (with_reducible exact impl_FastestWay.mono _ _ _ _)
   | (with_reducible exact impl_LitBetween.mono _ _ _ _)
   | (with_reducible exact impl_WithoutFuse.mono _ _ _ _)
   | (with_reducible exact laws_likeInts.mono _ _ _)
   | (with_reducible exact laws_roll.mono _ _ _)
   | (with_reducible exact spec_DrawLitBetween.mono _ _)
   | (with_reducible exact spec_FastestWay.mono _ _ _ _)
   | (with_reducible exact spec_LitBetween.mono _ _ _ _)
   | (with_reducible exact LeO.refl _)
   | (with_reducible exact LeO.none _)
   | (with_reducible refine LeO.ite ?_ ?_)
   | (with_reducible refine LeO.bind ?_ (fun _ => ?_))
   | exact ih0 _ _ _ _ _ _ _ _ _ _
   | exact ih1 _ _ _ _ _ _ _ _ _ _ _
   | exact ih2 _ _ _ _ _ _ _
   | exact impl_AreFuses.mono _ _ _
   | exact impl_FastestWay.mono _ _ _ _
   | exact impl_LitBetween.mono _ _ _ _
   | exact impl_WithoutFuse.mono _ _ _ _
   | exact laws_likeInts.mono _ _ _
   | exact laws_roll.mono _ _ _
   | exact spec_DrawLitBetween.mono _ _
   | exact spec_FastestWay.mono _ _ _ _
   | exact spec_LitBetween.mono _ _ _ _
   | exact LeO.none _
   | refine LeO.ite ?_ ?_
   | refine LeO.bind ?_ (fun _ => ?_)
theorem laws_FnFuses.j0_true (k : Nat) (x0 : List Int) (x3 : Int) (x4 : List (S39)) (x5 : Int) (x6 : Int) (x7 : Int) (x8 : Int) (x12 : List Int) (x14 : List Int) : ¬ laws_FnFuses.j0 k x0 x3 x4 x5 x6 x7 x8 x12 x14 true = some true := by
 cases k with
 | zero => simp [laws_FnFuses.j0]
 | succ k => simp [laws_FnFuses.j0]
set_option maxHeartbeats 8000000 in
set_option maxRecDepth 100000 in
theorem laws_FnFuses.calls (k : Nat) (A0 : Option Addr) (c0 : Nat) (l0 : List Int) (r : Bool) (w : World) (hr0 : Kd.C (Kd.int .u8) w A0 l0.length l0) (hc0 : l0.length ≤ c0) (h : laws_FnFuses.f k l0 = some r) (hr_ : r = true) :
  Calls Try.prog 4 #[.slice A0 l0.length c0] w fun e w' => e = .returned (.bool r) ∧ Below w.heap.size w w' := by
 have HR_ := Aside0.mk hr_
 clear hr_
 have HR0 := Aside0.mk hr0
 have HC0 := Aside0.mk hc0
 clear hr0 hc0
 have HB := Aside0.mk (Below.refl w.heap.size w)
 have H : ((laws_big.f l0).bind fun t507 => (if t507 = true then (some true) else ((spec_DrawLitBetween.f k l0).bind fun bt508 => ((impl_LitBetween.f k bt508.1 bt508.2.1 bt508.2.2).bind fun bt513 => ((spec_LitBetween.f k bt508.1 bt508.2.1 bt508.2.2).bind fun bt516 => ((impl_FastestWay.f k bt508.1 bt508.2.1 bt508.2.2).bind fun bt519 => ((spec_FastestWay.f k bt508.1 bt508.2.1 bt508.2.2).bind fun bt523 => (if bt513.2.2 = bt516.2.2 then (if bt513.1 = bt516.1 then (if bt513.2.1 = bt516.2.1 then (if bt519.2 = bt523.2 then ((laws_likeInts.f k bt519.1 bt523.1).bind fun t527 => (if t527 = true then (if bt519.2 = bt513.2.2 then ((impl_AreFuses.f k bt508.1 bt508.2.1).bind fun t528 => (laws_FnFuses.j0 k l0 bt508.1 bt508.2.1 bt508.2.2 bt513.1 bt513.2.1 bt513.2.2 bt519.1 bt523.1 (t528 != (bt516.2.2 != 1)))) else (laws_FnFuses.j0 k l0 bt508.1 bt508.2.1 bt508.2.2 bt513.1 bt513.2.1 bt513.2.2 bt519.1 bt523.1 true)) else (laws_FnFuses.j0 k l0 bt508.1 bt508.2.1 bt508.2.2 bt513.1 bt513.2.1 bt513.2.2 bt519.1 bt523.1 true))) else (laws_FnFuses.j0 k l0 bt508.1 bt508.2.1 bt508.2.2 bt513.1 bt513.2.1 bt513.2.2 bt519.1 bt523.1 true)) else (laws_FnFuses.j0 k l0 bt508.1 bt508.2.1 bt508.2.2 bt513.1 bt513.2.1 bt513.2.2 bt519.1 bt523.1 true)) else (laws_FnFuses.j0 k l0 bt508.1 bt508.2.1 bt508.2.2 bt513.1 bt513.2.1 bt513.2.2 bt519.1 bt523.1 true)) else (laws_FnFuses.j0 k l0 bt508.1 bt508.2.1 bt508.2.2 bt513.1 bt513.2.1 bt513.2.2 bt519.1 bt523.1 true))))))))) = some r := h
 clear h
 replace H := Option.bind_eq_some_iff.mp H
 obtain ⟨t507, A20, H⟩ := H
 replace H : (if t507 = true then (some true) else ((spec_DrawLitBetween.f k l0).bind fun bt508 => ((impl_LitBetween.f k bt508.1 bt508.2.1 bt508.2.2).bind fun bt513 => ((spec_LitBetween.f k bt508.1 bt508.2.1 bt508.2.2).bind fun bt516 => ((impl_FastestWay.f k bt508.1 bt508.2.1 bt508.2.2).bind fun bt519 => ((spec_FastestWay.f k bt508.1 bt508.2.1 bt508.2.2).bind fun bt523 => (if bt513.2.2 = bt516.2.2 then (if bt513.1 = bt516.1 then (if bt513.2.1 = bt516.2.1 then (if bt519.2 = bt523.2 then ((laws_likeInts.f k bt519.1 bt523.1).bind fun t527 => (if t527 = true then (if bt519.2 = bt513.2.2 then ((impl_AreFuses.f k bt508.1 bt508.2.1).bind fun t528 => (laws_FnFuses.j0 k l0 bt508.1 bt508.2.1 bt508.2.2 bt513.1 bt513.2.1 bt513.2.2 bt519.1 bt523.1 (t528 != (bt516.2.2 != 1)))) else (laws_FnFuses.j0 k l0 bt508.1 bt508.2.1 bt508.2.2 bt513.1 bt513.2.1 bt513.2.2 bt519.1 bt523.1 true)) else (laws_FnFuses.j0 k l0 bt508.1 bt508.2.1 bt508.2.2 bt513.1 bt513.2.1 bt513.2.2 bt519.1 bt523.1 true))) else (laws_FnFuses.j0 k l0 bt508.1 bt508.2.1 bt508.2.2 bt513.1 bt513.2.1 bt513.2.2 bt519.1 bt523.1 true)) else (laws_FnFuses.j0 k l0 bt508.1 bt508.2.1 bt508.2.2 bt513.1 bt513.2.1 bt513.2.2 bt519.1 bt523.1 true)) else (laws_FnFuses.j0 k l0 bt508.1 bt508.2.1 bt508.2.2 bt513.1 bt513.2.1 bt513.2.2 bt519.1 bt523.1 true)) else (laws_FnFuses.j0 k l0 bt508.1 bt508.2.1 bt508.2.2 bt513.1 bt513.2.1 bt513.2.2 bt519.1 bt523.1 true)))))))) = some r := H
 have A2 := Aside0.mk A20
 clear A20
 by_cases c3 : t507 = true
 ·subst c3
  have H1 : (some true) = some r := by rw [if_pos rfl] at H; exact H
  clear H
  have H := H1
  clear H1
  obtain rfl := Option.some.inj H
  go_enter Try.func4, Try.ntmps4
  go_wp2_with (first | ((with_reducible refine gate_callee (f := 6) rfl ?_); refine goesL_ (some 25) rfl rfl Try.func6 (by kernel_rfl) rfl #[.slice A0 l0.length c0] rfl (by (try simp only [List.map_toArray, List.map_cons, List.map_nil]); first | done | rfl | (simp only [List.length_drop, List.length_take]; rfl)) ?_; (with_reducible refine (laws_big.calls _ _ l0 true _ ?side1 ?side2 A2.out).mono ?_); (case side1 => repeat (first | exact HR0.out | (with_reducible refine Kd.C_alloc ?_ _) | (with_reducible refine Kd.C_drewN ?_ _) | (with_reducible refine Kd.C_drew ?_))); (case side2 => exact HC0.out); rintro e w' ⟨rfl, ⟨nd, rfl⟩⟩; refine ⟨_, rfl, ?_⟩))
  go_ret
  exact ⟨by first | rfl | (simp [errW_none, errW_some] <;> rfl) | (simp [*, errW_none, errW_some] <;> rfl), by repeat (first | (with_reducible first | exact HB.out | apply below_alloc | apply pw_below_drewN | apply below_drew1) | exact HB.out)⟩
 ·replace c3 := Bool.eq_false_iff.mpr c3
  subst c3
  have H1 : ((spec_DrawLitBetween.f k l0).bind fun bt508 => ((impl_LitBetween.f k bt508.1 bt508.2.1 bt508.2.2).bind fun bt513 => ((spec_LitBetween.f k bt508.1 bt508.2.1 bt508.2.2).bind fun bt516 => ((impl_FastestWay.f k bt508.1 bt508.2.1 bt508.2.2).bind fun bt519 => ((spec_FastestWay.f k bt508.1 bt508.2.1 bt508.2.2).bind fun bt523 => (if bt513.2.2 = bt516.2.2 then (if bt513.1 = bt516.1 then (if bt513.2.1 = bt516.2.1 then (if bt519.2 = bt523.2 then ((laws_likeInts.f k bt519.1 bt523.1).bind fun t527 => (if t527 = true then (if bt519.2 = bt513.2.2 then ((impl_AreFuses.f k bt508.1 bt508.2.1).bind fun t528 => (laws_FnFuses.j0 k l0 bt508.1 bt508.2.1 bt508.2.2 bt513.1 bt513.2.1 bt513.2.2 bt519.1 bt523.1 (t528 != (bt516.2.2 != 1)))) else (laws_FnFuses.j0 k l0 bt508.1 bt508.2.1 bt508.2.2 bt513.1 bt513.2.1 bt513.2.2 bt519.1 bt523.1 true)) else (laws_FnFuses.j0 k l0 bt508.1 bt508.2.1 bt508.2.2 bt513.1 bt513.2.1 bt513.2.2 bt519.1 bt523.1 true))) else (laws_FnFuses.j0 k l0 bt508.1 bt508.2.1 bt508.2.2 bt513.1 bt513.2.1 bt513.2.2 bt519.1 bt523.1 true)) else (laws_FnFuses.j0 k l0 bt508.1 bt508.2.1 bt508.2.2 bt513.1 bt513.2.1 bt513.2.2 bt519.1 bt523.1 true)) else (laws_FnFuses.j0 k l0 bt508.1 bt508.2.1 bt508.2.2 bt513.1 bt513.2.1 bt513.2.2 bt519.1 bt523.1 true)) else (laws_FnFuses.j0 k l0 bt508.1 bt508.2.1 bt508.2.2 bt513.1 bt513.2.1 bt513.2.2 bt519.1 bt523.1 true))))))) = some r := by rw [if_neg (show ¬ (false = true) by decide)] at H; exact H
  clear H
  have H := H1
  clear H1
  replace H := Option.bind_eq_some_iff.mp H
  obtain ⟨⟨t508, t509, t510⟩, A40, H⟩ := H
  replace H : ((impl_LitBetween.f k t508 t509 t510).bind fun bt513 => ((spec_LitBetween.f k t508 t509 t510).bind fun bt516 => ((impl_FastestWay.f k t508 t509 t510).bind fun bt519 => ((spec_FastestWay.f k t508 t509 t510).bind fun bt523 => (if bt513.2.2 = bt516.2.2 then (if bt513.1 = bt516.1 then (if bt513.2.1 = bt516.2.1 then (if bt519.2 = bt523.2 then ((laws_likeInts.f k bt519.1 bt523.1).bind fun t527 => (if t527 = true then (if bt519.2 = bt513.2.2 then ((impl_AreFuses.f k t508 t509).bind fun t528 => (laws_FnFuses.j0 k l0 t508 t509 t510 bt513.1 bt513.2.1 bt513.2.2 bt519.1 bt523.1 (t528 != (bt516.2.2 != 1)))) else (laws_FnFuses.j0 k l0 t508 t509 t510 bt513.1 bt513.2.1 bt513.2.2 bt519.1 bt523.1 true)) else (laws_FnFuses.j0 k l0 t508 t509 t510 bt513.1 bt513.2.1 bt513.2.2 bt519.1 bt523.1 true))) else (laws_FnFuses.j0 k l0 t508 t509 t510 bt513.1 bt513.2.1 bt513.2.2 bt519.1 bt523.1 true)) else (laws_FnFuses.j0 k l0 t508 t509 t510 bt513.1 bt513.2.1 bt513.2.2 bt519.1 bt523.1 true)) else (laws_FnFuses.j0 k l0 t508 t509 t510 bt513.1 bt513.2.1 bt513.2.2 bt519.1 bt523.1 true)) else (laws_FnFuses.j0 k l0 t508 t509 t510 bt513.1 bt513.2.1 bt513.2.2 bt519.1 bt523.1 true)))))) = some r := H
  have A4 := Aside0.mk A40
  clear A40
  replace H := Option.bind_eq_some_iff.mp H
  obtain ⟨⟨t513, t514, t515⟩, A50, H⟩ := H
  replace H : ((spec_LitBetween.f k t508 t509 t510).bind fun bt516 => ((impl_FastestWay.f k t508 t509 t510).bind fun bt519 => ((spec_FastestWay.f k t508 t509 t510).bind fun bt523 => (if t515 = bt516.2.2 then (if t513 = bt516.1 then (if t514 = bt516.2.1 then (if bt519.2 = bt523.2 then ((laws_likeInts.f k bt519.1 bt523.1).bind fun t527 => (if t527 = true then (if bt519.2 = t515 then ((impl_AreFuses.f k t508 t509).bind fun t528 => (laws_FnFuses.j0 k l0 t508 t509 t510 t513 t514 t515 bt519.1 bt523.1 (t528 != (bt516.2.2 != 1)))) else (laws_FnFuses.j0 k l0 t508 t509 t510 t513 t514 t515 bt519.1 bt523.1 true)) else (laws_FnFuses.j0 k l0 t508 t509 t510 t513 t514 t515 bt519.1 bt523.1 true))) else (laws_FnFuses.j0 k l0 t508 t509 t510 t513 t514 t515 bt519.1 bt523.1 true)) else (laws_FnFuses.j0 k l0 t508 t509 t510 t513 t514 t515 bt519.1 bt523.1 true)) else (laws_FnFuses.j0 k l0 t508 t509 t510 t513 t514 t515 bt519.1 bt523.1 true)) else (laws_FnFuses.j0 k l0 t508 t509 t510 t513 t514 t515 bt519.1 bt523.1 true))))) = some r := H
  have A5 := Aside0.mk A50
  clear A50
  replace H := Option.bind_eq_some_iff.mp H
  obtain ⟨⟨t516, t517, t518⟩, A60, H⟩ := H
  replace H : ((impl_FastestWay.f k t508 t509 t510).bind fun bt519 => ((spec_FastestWay.f k t508 t509 t510).bind fun bt523 => (if t515 = t518 then (if t513 = t516 then (if t514 = t517 then (if bt519.2 = bt523.2 then ((laws_likeInts.f k bt519.1 bt523.1).bind fun t527 => (if t527 = true then (if bt519.2 = t515 then ((impl_AreFuses.f k t508 t509).bind fun t528 => (laws_FnFuses.j0 k l0 t508 t509 t510 t513 t514 t515 bt519.1 bt523.1 (t528 != (t518 != 1)))) else (laws_FnFuses.j0 k l0 t508 t509 t510 t513 t514 t515 bt519.1 bt523.1 true)) else (laws_FnFuses.j0 k l0 t508 t509 t510 t513 t514 t515 bt519.1 bt523.1 true))) else (laws_FnFuses.j0 k l0 t508 t509 t510 t513 t514 t515 bt519.1 bt523.1 true)) else (laws_FnFuses.j0 k l0 t508 t509 t510 t513 t514 t515 bt519.1 bt523.1 true)) else (laws_FnFuses.j0 k l0 t508 t509 t510 t513 t514 t515 bt519.1 bt523.1 true)) else (laws_FnFuses.j0 k l0 t508 t509 t510 t513 t514 t515 bt519.1 bt523.1 true)))) = some r := H
  have A6 := Aside0.mk A60
  clear A60
  replace H := Option.bind_eq_some_iff.mp H
  obtain ⟨⟨t519, t520⟩, A70, H⟩ := H
  replace H : ((spec_FastestWay.f k t508 t509 t510).bind fun bt523 => (if t515 = t518 then (if t513 = t516 then (if t514 = t517 then (if t520 = bt523.2 then ((laws_likeInts.f k t519 bt523.1).bind fun t527 => (if t527 = true then (if t520 = t515 then ((impl_AreFuses.f k t508 t509).bind fun t528 => (laws_FnFuses.j0 k l0 t508 t509 t510 t513 t514 t515 t519 bt523.1 (t528 != (t518 != 1)))) else (laws_FnFuses.j0 k l0 t508 t509 t510 t513 t514 t515 t519 bt523.1 true)) else (laws_FnFuses.j0 k l0 t508 t509 t510 t513 t514 t515 t519 bt523.1 true))) else (laws_FnFuses.j0 k l0 t508 t509 t510 t513 t514 t515 t519 bt523.1 true)) else (laws_FnFuses.j0 k l0 t508 t509 t510 t513 t514 t515 t519 bt523.1 true)) else (laws_FnFuses.j0 k l0 t508 t509 t510 t513 t514 t515 t519 bt523.1 true)) else (laws_FnFuses.j0 k l0 t508 t509 t510 t513 t514 t515 t519 bt523.1 true))) = some r := H
  have A7 := Aside0.mk A70
  clear A70
  replace H := Option.bind_eq_some_iff.mp H
  obtain ⟨⟨t523, t524⟩, A80, H⟩ := H
  replace H : (if t515 = t518 then (if t513 = t516 then (if t514 = t517 then (if t520 = t524 then ((laws_likeInts.f k t519 t523).bind fun t527 => (if t527 = true then (if t520 = t515 then ((impl_AreFuses.f k t508 t509).bind fun t528 => (laws_FnFuses.j0 k l0 t508 t509 t510 t513 t514 t515 t519 t523 (t528 != (t518 != 1)))) else (laws_FnFuses.j0 k l0 t508 t509 t510 t513 t514 t515 t519 t523 true)) else (laws_FnFuses.j0 k l0 t508 t509 t510 t513 t514 t515 t519 t523 true))) else (laws_FnFuses.j0 k l0 t508 t509 t510 t513 t514 t515 t519 t523 true)) else (laws_FnFuses.j0 k l0 t508 t509 t510 t513 t514 t515 t519 t523 true)) else (laws_FnFuses.j0 k l0 t508 t509 t510 t513 t514 t515 t519 t523 true)) else (laws_FnFuses.j0 k l0 t508 t509 t510 t513 t514 t515 t519 t523 true)) = some r := H
  have A8 := Aside0.mk A80
  clear A80
  have HC9 := Aside0.mk H
  clear H
  go_enter Try.func4, Try.ntmps4
  go_upto_region 8 with (first | ((with_reducible refine gate_callee (f := 6) rfl ?_); refine goesL_ (some 25) rfl rfl Try.func6 (by kernel_rfl) rfl #[.slice A0 l0.length c0] rfl (by (try simp only [List.map_toArray, List.map_cons, List.map_nil]); first | done | rfl | (simp only [List.length_drop, List.length_take]; rfl)) ?_; (with_reducible refine (laws_big.calls _ _ l0 false _ ?side1 ?side2 A2.out).mono ?_); (case side1 => repeat (first | exact HR0.out | (with_reducible refine Kd.C_alloc ?_ _) | (with_reducible refine Kd.C_drewN ?_ _) | (with_reducible refine Kd.C_drew ?_))); (case side2 => exact HC0.out); rintro e w' ⟨rfl, ⟨nd, rfl⟩⟩; refine ⟨_, rfl, ?_⟩) | ((with_reducible refine gate_callee (f := 16) rfl ?_); refine goesL_ (some 28) rfl rfl Try.func16 (by kernel_rfl) rfl #[.slice A0 l0.length c0] rfl (by (try simp only [List.map_toArray, List.map_cons, List.map_nil]); first | done | rfl | (simp only [List.length_drop, List.length_take]; rfl)) ?_; (with_reducible refine (spec_DrawLitBetween.calls k _ _ l0 t508 t509 t510 _ ?side1 ?side2 A4.out).mono ?_); (case side1 => repeat (first | exact HR0.out | (with_reducible refine Kd.C_alloc ?_ _) | (with_reducible refine Kd.C_drewN ?_ _) | (with_reducible refine Kd.C_drew ?_))); (case side2 => exact HC0.out); rintro e w10 ⟨v511, rfl, ho0, hb⟩; refine ⟨_, rfl, ?_⟩; have n0_ := Aside0.mk (Kd.R_lower ho0 (below_size (by repeat (first | (with_reducible first | exact HB.out | apply below_alloc | apply pw_below_drewN | apply below_drew1) | exact HB.out)))); have n1_ := Aside0.mk (below_step (by repeat (first | (with_reducible first | exact HB.out | apply below_alloc | apply pw_below_drewN | apply below_drew1) | exact HB.out)) hb); clear HB; have HO512 := n0_; have HB := n1_; clear n0_ n1_; (try clear hb); (try clear hb2); (try clear hk); (try clear hi); (try clear ho0); obtain ⟨Ao11, co11, eo11⟩ := Kd.R_slice HO512.out; subst eo11) | ((with_reducible refine gate_callee (f := 13) rfl ?_); refine goesL_ (some 36) rfl rfl Try.func13 (by kernel_rfl) rfl #[.int .i64 t508, .slice Ao11 t509.length co11, .int .i64 t510] rfl (by (try simp only [List.map_toArray, List.map_cons, List.map_nil]); first | done | rfl | (simp only [List.length_drop, List.length_take]; rfl)) ?_; (with_reducible refine (impl_LitBetween.calls k t508 _ _ t509 t510 t513 t514 t515 _ ?side1 ?side2 A5.out).mono ?_); (case side1 => repeat (first | exact (Kd.R_reads' HO512.out).2.2 | (with_reducible refine Kd.C_alloc ?_ _) | (with_reducible refine Kd.C_drewN ?_ _) | (with_reducible refine Kd.C_drew ?_))); (case side2 => exact (Kd.R_reads' HO512.out).2.1); rintro e w12 ⟨rfl, hb⟩; refine ⟨_, rfl, ?_⟩; have n0_ := Aside0.mk (Kd.R_below (by (with_reducible repeat (first | apply Kd.R_alloc | apply Kd.R_drewN | apply Kd.R_drew)); exact HO512.out) hb); have n1_ := Aside0.mk (below_step (by repeat (first | (with_reducible first | exact HB.out | apply below_alloc | apply pw_below_drewN | apply below_drew1) | exact HB.out)) hb); clear HO512; clear HB; have HO512 := n0_; have HB := n1_; clear n0_ n1_; (try clear hb); (try clear hb2); (try clear hk); (try clear hi)) | ((with_reducible refine gate_callee (f := 17) rfl ?_); refine goesL_ (some 44) rfl rfl Try.func17 (by kernel_rfl) rfl #[.int .i64 t508, .slice Ao11 t509.length co11, .int .i64 t510] rfl (by (try simp only [List.map_toArray, List.map_cons, List.map_nil]); first | done | rfl | (simp only [List.length_drop, List.length_take]; rfl)) ?_; (with_reducible refine (spec_LitBetween.calls k t508 _ _ t509 t510 t516 t517 t518 _ ?side1 ?side2 A6.out).mono ?_); (case side1 => repeat (first | exact (Kd.R_reads' HO512.out).2.2 | (with_reducible refine Kd.C_alloc ?_ _) | (with_reducible refine Kd.C_drewN ?_ _) | (with_reducible refine Kd.C_drew ?_))); (case side2 => exact (Kd.R_reads' HO512.out).2.1); rintro e w13 ⟨rfl, hb⟩; refine ⟨_, rfl, ?_⟩; have n0_ := Aside0.mk (Kd.R_below (by (with_reducible repeat (first | apply Kd.R_alloc | apply Kd.R_drewN | apply Kd.R_drew)); exact HO512.out) hb); have n1_ := Aside0.mk (below_step (by repeat (first | (with_reducible first | exact HB.out | apply below_alloc | apply pw_below_drewN | apply below_drew1) | exact HB.out)) hb); clear HO512; clear HB; have HO512 := n0_; have HB := n1_; clear n0_ n1_; (try clear hb); (try clear hb2); (try clear hk); (try clear hi)) | ((with_reducible refine gate_callee (f := 18) rfl ?_); refine goesL_ (some 52) rfl rfl Try.func18 (by kernel_rfl) rfl #[.int .i64 t508, .slice Ao11 t509.length co11, .int .i64 t510] rfl (by (try simp only [List.map_toArray, List.map_cons, List.map_nil]); first | done | rfl | (simp only [List.length_drop, List.length_take]; rfl)) ?_; (with_reducible refine (impl_FastestWay.calls k t508 _ _ t509 t510 t519 t520 _ ?side1 ?side2 A7.out).mono ?_); (case side1 => repeat (first | exact (Kd.R_reads' HO512.out).2.2 | (with_reducible refine Kd.C_alloc ?_ _) | (with_reducible refine Kd.C_drewN ?_ _) | (with_reducible refine Kd.C_drew ?_))); (case side2 => exact (Kd.R_reads' HO512.out).2.1); rintro e w14 ⟨v521, rfl, ho0, hb⟩; refine ⟨_, rfl, ?_⟩; have n0_ := Aside0.mk (Kd.R_below (by (with_reducible repeat (first | apply Kd.R_alloc | apply Kd.R_drewN | apply Kd.R_drew)); exact HO512.out) hb); have n1_ := Aside0.mk (Kd.R_lower ho0 (below_size (by repeat (first | (with_reducible first | exact HB.out | apply below_alloc | apply pw_below_drewN | apply below_drew1) | exact HB.out)))); have n2_ := Aside0.mk (below_step (by repeat (first | (with_reducible first | exact HB.out | apply below_alloc | apply pw_below_drewN | apply below_drew1) | exact HB.out)) hb); clear HO512; clear HB; have HO512 := n0_; have HO522 := n1_; have HB := n2_; clear n0_ n1_ n2_; (try clear hb); (try clear hb2); (try clear hk); (try clear hi); (try clear ho0)) | ((with_reducible refine gate_callee (f := 19) rfl ?_); refine goesL_ (some 59) rfl rfl Try.func19 (by kernel_rfl) rfl #[.int .i64 t508, .slice Ao11 t509.length co11, .int .i64 t510] rfl (by (try simp only [List.map_toArray, List.map_cons, List.map_nil]); first | done | rfl | (simp only [List.length_drop, List.length_take]; rfl)) ?_; (with_reducible refine (spec_FastestWay.calls k t508 _ _ t509 t510 t523 t524 _ ?side1 ?side2 A8.out).mono ?_); (case side1 => repeat (first | exact (Kd.R_reads' HO512.out).2.2 | (with_reducible refine Kd.C_alloc ?_ _) | (with_reducible refine Kd.C_drewN ?_ _) | (with_reducible refine Kd.C_drew ?_))); (case side2 => exact (Kd.R_reads' HO512.out).2.1); rintro e w15 ⟨v525, rfl, ho0, hb⟩; refine ⟨_, rfl, ?_⟩; have n0_ := Aside0.mk (Kd.R_below (by (with_reducible repeat (first | apply Kd.R_alloc | apply Kd.R_drewN | apply Kd.R_drew)); exact HO512.out) hb); have n1_ := Aside0.mk (Kd.R_elder' (by (with_reducible repeat (first | apply Kd.R_alloc | apply Kd.R_drewN | apply Kd.R_drew)); exact HO522.out) (Kd.R_base ho0) hb); have n2_ := Aside0.mk (Kd.R_lower (Kd.R_new' ho0 (Kd.R_lt (by (with_reducible repeat (first | apply Kd.R_alloc | apply Kd.R_drewN | apply Kd.R_drew)); exact HO522.out))) (below_size (by repeat (first | (with_reducible first | exact HB.out | apply below_alloc | apply pw_below_drewN | apply below_drew1) | exact HB.out)))); have n3_ := Aside0.mk (below_step (by repeat (first | (with_reducible first | exact HB.out | apply below_alloc | apply pw_below_drewN | apply below_drew1) | exact HB.out)) hb); clear HO512; clear HO522; clear HB; have HO512 := n0_; have HO522 := n1_; have HO526 := n2_; have HB := n3_; clear n0_ n1_ n2_ n3_; (try clear hb); (try clear hb2); (try clear hk); (try clear hi); (try clear ho0)))
  (try simp only [Act.put, List.setIfInBounds_toArray, List.set_cons_zero, List.set_cons_succ])
  go_cut [98] (fun v98 wc => ∃ (kq : Nat) (x98_8 : Bool), v98 = .bool x98_8 ∧ Aside0 (laws_FnFuses.j0 kq l0 t508 t509 t510 t513 t514 t515 t519 t523 x98_8 = some r) ∧ Aside0 (kq ≤ k) ∧ Aside0 (Kd.R k39 39 wc w.heap.size (fun _ => True) (.slice Ao11 t509.length co11) t509) ∧ Aside0 (Kd.R (Kd.int .i64) 2 wc w.heap.size (fun k_ => some k_ ≠ (v525 : Value).ownBlock) v521 t519) ∧ Aside0 (Kd.R (Kd.int .i64) 2 wc w.heap.size (fun k_ => some k_ ≠ (v521 : Value).ownBlock) v525 t523) ∧ Aside0 (Below w.heap.size w wc))
  case first => as_aux_lemma =>
   have H := HC9.out
   clear HC9
   by_cases c16 : t515 = t518
   ·rw [if_pos c16] at H
    have c16b0 : (t515 == t518) = true := beq_iff_eq.mpr c16
    have c16b1 : (t515 != t518) = false := bne_eq_false_iff_eq.mpr c16
    clear c16
    (first | rw [c16b0] | (simp only [i64_w, i32_w]; rw [c16b0]) | skip)
    by_cases c17 : t513 = t516
    ·rw [if_pos c17] at H
     have c17b0 : (t513 == t516) = true := beq_iff_eq.mpr c17
     have c17b1 : (t513 != t516) = false := bne_eq_false_iff_eq.mpr c17
     clear c17
     by_cases c18 : t514 = t517
     ·rw [if_pos c18] at H
      have c18b0 : (t514 == t517) = true := beq_iff_eq.mpr c18
      have c18b1 : (t514 != t517) = false := bne_eq_false_iff_eq.mpr c18
      clear c18
      by_cases c19 : t520 = t524
      ·rw [if_pos c19] at H
       have c19b0 : (t520 == t524) = true := beq_iff_eq.mpr c19
       have c19b1 : (t520 != t524) = false := bne_eq_false_iff_eq.mpr c19
       clear c19
       replace H := Option.bind_eq_some_iff.mp H
       obtain ⟨t527, A200, H⟩ := H
       replace H : (if t527 = true then (if t520 = t515 then ((impl_AreFuses.f k t508 t509).bind fun t528 => (laws_FnFuses.j0 k l0 t508 t509 t510 t513 t514 t515 t519 t523 (t528 != (t518 != 1)))) else (laws_FnFuses.j0 k l0 t508 t509 t510 t513 t514 t515 t519 t523 true)) else (laws_FnFuses.j0 k l0 t508 t509 t510 t513 t514 t515 t519 t523 true)) = some r := H
       have A20 := Aside0.mk A200
       clear A200
       by_cases c21 : t527 = true
       ·subst c21
        have H1 : (if t520 = t515 then ((impl_AreFuses.f k t508 t509).bind fun t528 => (laws_FnFuses.j0 k l0 t508 t509 t510 t513 t514 t515 t519 t523 (t528 != (t518 != 1)))) else (laws_FnFuses.j0 k l0 t508 t509 t510 t513 t514 t515 t519 t523 true)) = some r := by rw [if_pos rfl] at H; exact H
        clear H
        have H := H1
        clear H1
        by_cases c22 : t520 = t515
        ·rw [if_pos c22] at H
         have c22b0 : (t520 == t515) = true := beq_iff_eq.mpr c22
         have c22b1 : (t520 != t515) = false := bne_eq_false_iff_eq.mpr c22
         clear c22
         replace H := Option.bind_eq_some_iff.mp H
         obtain ⟨t528, A230, H⟩ := H
         replace H : (laws_FnFuses.j0 k l0 t508 t509 t510 t513 t514 t515 t519 t523 (t528 != (t518 != 1))) = some r := H
         have A23 := Aside0.mk A230
         clear A230
         have H' := Aside0.mk H
         clear H
         obtain ⟨Ao24, co24, eo24⟩ := Kd.R_slice HO522.out
         subst eo24
         obtain ⟨Ao25, co25, eo25⟩ := Kd.R_slice HO526.out
         subst eo25
         go_wp2_with (first | (go_at_call 12; (with_reducible refine (laws_likeInts.calls k _ _ t519 _ _ t523 true _ ?side1 ?side2 ?side3 ?side4 A20.out).mono ?_); (case side1 => repeat (first | exact (Kd.R_reads' HO522.out).2.2 | (with_reducible refine Kd.C_alloc ?_ _) | (with_reducible refine Kd.C_drewN ?_ _) | (with_reducible refine Kd.C_drew ?_))); (case side2 => exact (Kd.R_reads' HO522.out).2.1); (case side3 => repeat (first | exact (Kd.R_reads' HO526.out).2.2 | (with_reducible refine Kd.C_alloc ?_ _) | (with_reducible refine Kd.C_drewN ?_ _) | (with_reducible refine Kd.C_drew ?_))); (case side4 => exact (Kd.R_reads' HO526.out).2.1); rintro e w' ⟨rfl, ⟨nd, rfl⟩⟩) | (go_at_call 20; (with_reducible refine (impl_AreFuses.calls k t508 _ _ t509 t528 _ ?side1 ?side2 A23.out).mono ?_); (case side1 => repeat (first | exact (Kd.R_reads' HO512.out).2.2 | (with_reducible refine Kd.C_alloc ?_ _) | (with_reducible refine Kd.C_drewN ?_ _) | (with_reducible refine Kd.C_drew ?_))); (case side2 => exact (Kd.R_reads' HO512.out).2.1); rintro e w26 ⟨rfl, hb⟩; have n0_ := Aside0.mk (Kd.R_below (by (with_reducible repeat (first | apply Kd.R_alloc | apply Kd.R_drewN | apply Kd.R_drew)); exact HO512.out) hb); have n1_ := Aside0.mk (Kd.R_below (by (with_reducible repeat (first | apply Kd.R_alloc | apply Kd.R_drewN | apply Kd.R_drew)); exact HO522.out) hb); have n2_ := Aside0.mk (Kd.R_below (by (with_reducible repeat (first | apply Kd.R_alloc | apply Kd.R_drewN | apply Kd.R_drew)); exact HO526.out) hb); have n3_ := Aside0.mk (below_step (by repeat (first | (with_reducible first | exact HB.out | apply below_alloc | apply pw_below_drewN | apply below_drew1) | exact HB.out)) hb); clear HO512; clear HO522; clear HO526; clear HB; have HO512 := n0_; have HO522 := n1_; have HO526 := n2_; have HB := n3_; clear n0_ n1_ n2_ n3_; (try clear hb); (try clear hb2); (try clear hk); (try clear hi)))
         go_meet
         case rel => exact ⟨_, ((t528 != (t518 != 1))), (by first | rfl | (simp; done) | (simp [*]; done)), H', ⟨by first | omega | exact Nat.le_refl _⟩, ⟨by (with_reducible repeat (first | apply Kd.R_alloc | apply Kd.R_drewN | apply Kd.R_drew)); exact HO512.out⟩, ⟨by (with_reducible repeat (first | apply Kd.R_alloc | apply Kd.R_drewN | apply Kd.R_drew)); exact Kd.R_mono HO522.out (fun _ hk => hk.2)⟩, ⟨by (with_reducible repeat (first | apply Kd.R_alloc | apply Kd.R_drewN | apply Kd.R_drew)); exact Kd.R_mono HO526.out (fun _ hk => hk.2)⟩, ⟨by repeat (first | (with_reducible first | exact HB.out | apply below_alloc | apply pw_below_drewN | apply below_drew1) | exact HB.out)⟩⟩
        ·rw [if_neg c22] at H
         have c22b0 : (t520 == t515) = false := beq_eq_false_iff_ne.mpr c22
         have c22b1 : (t520 != t515) = true := bne_iff_ne.mpr c22
         exact absurd (H.trans (congrArg some HR_.out)) (laws_FnFuses.j0_true _ _ _ _ _ _ _ _ _ _)
       ·replace c21 := Bool.eq_false_iff.mpr c21
        subst c21
        have H1 : (laws_FnFuses.j0 k l0 t508 t509 t510 t513 t514 t515 t519 t523 true) = some r := by rw [if_neg (show ¬ (false = true) by decide)] at H; exact H
        clear H
        have H := H1
        clear H1
        exact absurd (H.trans (congrArg some HR_.out)) (laws_FnFuses.j0_true _ _ _ _ _ _ _ _ _ _)
      ·rw [if_neg c19] at H
       have c19b0 : (t520 == t524) = false := beq_eq_false_iff_ne.mpr c19
       have c19b1 : (t520 != t524) = true := bne_iff_ne.mpr c19
       exact absurd (H.trans (congrArg some HR_.out)) (laws_FnFuses.j0_true _ _ _ _ _ _ _ _ _ _)
     ·rw [if_neg c18] at H
      have c18b0 : (t514 == t517) = false := beq_eq_false_iff_ne.mpr c18
      have c18b1 : (t514 != t517) = true := bne_iff_ne.mpr c18
      exact absurd (H.trans (congrArg some HR_.out)) (laws_FnFuses.j0_true _ _ _ _ _ _ _ _ _ _)
    ·rw [if_neg c17] at H
     have c17b0 : (t513 == t516) = false := beq_eq_false_iff_ne.mpr c17
     have c17b1 : (t513 != t516) = true := bne_iff_ne.mpr c17
     exact absurd (H.trans (congrArg some HR_.out)) (laws_FnFuses.j0_true _ _ _ _ _ _ _ _ _ _)
   ·rw [if_neg c16] at H
    have c16b0 : (t515 == t518) = false := beq_eq_false_iff_ne.mpr c16
    have c16b1 : (t515 != t518) = true := bne_iff_ne.mpr c16
    (first | rw [c16b0] | (simp only [i64_w, i32_w]; rw [c16b0]) | skip)
    exact absurd (H.trans (congrArg some HR_.out)) (laws_FnFuses.j0_true _ _ _ _ _ _ _ _ _ _)
  case rest => as_aux_lemma =>
   clear HC9
   try clear c1
   try clear c2
   try clear p2
   try clear c3
   try clear c4
   try clear c6
   try clear c13
   try clear c16
   try clear c16b0
   try clear c16b1
   try clear c17
   try clear c17b0
   try clear c17b1
   try clear c18
   try clear c18b0
   try clear c18b1
   try clear c19
   try clear c19b0
   try clear c19b1
   try clear c21
   try clear c22
   try clear c22b0
   try clear c22b1
   obtain ⟨kq, x98_8, rfl, HA, HJ8, HO_4, HO_12, HO_14, HB⟩ := hcut
   cases kq with
   | zero => exact absurd HA.out (by simp [laws_FnFuses.j0])
   | succ kj8 =>
    have H := HA.out
    clear HA
    simp only [laws_FnFuses.j0] at H
    by_cases c31 : x98_8 = true
    ·subst c31
     have H1 : (some false) = some r := by rw [if_pos rfl] at H; exact H
     clear H
     have H := H1
     clear H1
     exact absurd ((Option.some.inj H).trans HR_.out) (by decide)
    ·replace c31 := Bool.eq_false_iff.mpr c31
     subst c31
     have H1 : (if t515 = 0 then (laws_FnFuses.l0 kj8 l0 t508 t509 t510 t513 t514 t519 t523 0 0 0) else (some true)) = some r := by rw [if_neg (show ¬ (false = true) by decide)] at H; exact H
     clear H
     have H := H1
     clear H1
     by_cases c32 : t515 = 0
     ·rw [if_pos c32] at H
      have c32b0 : (t515 == 0) = true := beq_iff_eq.mpr c32
      have c32b1 : (t515 != 0) = false := bne_eq_false_iff_eq.mpr c32
      clear c32
      have H' := Aside0.mk H
      clear H
      go_wp2
      go_loopg [16, 17, 18] kj8 (fun kq v16 v17 v18 w' => ∃ (x16_2 : Int) (x17_2 : Int) (x18_2 : Int), v16 = .int .i64 x16_2 ∧ v17 = .int .i64 x17_2 ∧ v18 = .int .i64 x18_2 ∧ Aside0 (laws_FnFuses.l0 kq l0 t508 t509 t510 t513 t514 t519 t523 x16_2 x17_2 x18_2 = some r) ∧ Aside0 (kq ≤ kj8) ∧ Aside0 (Kd.R k39 39 w' w.heap.size (fun _ => True) (.slice Ao11 t509.length co11) t509) ∧ Aside0 (Kd.R (Kd.int .i64) 2 w' w.heap.size (fun k_ => some k_ ≠ (v525 : Value).ownBlock) v521 t519) ∧ Aside0 (Kd.R (Kd.int .i64) 2 w' w.heap.size (fun k_ => some k_ ≠ (v521 : Value).ownBlock) v525 t523) ∧ Aside0 (Below w.heap.size w w'))
      case atStart => exact ⟨(0), (0), (0), (by first | rfl | (simp; done) | (simp [*]; done)), (by first | rfl | (simp; done) | (simp [*]; done)), (by first | rfl | (simp; done) | (simp [*]; done)), H', ⟨Nat.le_refl _⟩, ⟨by (with_reducible repeat (first | apply Kd.R_alloc | apply Kd.R_drewN | apply Kd.R_drew)); exact HO_4.out⟩, ⟨by (with_reducible repeat (first | apply Kd.R_alloc | apply Kd.R_drewN | apply Kd.R_drew)); exact HO_12.out⟩, ⟨by (with_reducible repeat (first | apply Kd.R_alloc | apply Kd.R_drewN | apply Kd.R_drew)); exact HO_14.out⟩, ⟨by repeat (first | (with_reducible first | exact HB.out | apply below_alloc | apply pw_below_drewN | apply below_drew1) | exact HB.out)⟩⟩
      case round => as_aux_lemma =>
       clear H'
       try clear c1
       try clear c2
       try clear p2
       try clear c3
       try clear c4
       try clear c6
       try clear c13
       try clear c16
       try clear c16b0
       try clear c16b1
       try clear c17
       try clear c17b0
       try clear c17b1
       try clear c18
       try clear c18b0
       try clear c18b1
       try clear c19
       try clear c19b0
       try clear c19b1
       try clear c21
       try clear c22
       try clear c22b0
       try clear c22b1
       try clear c31
       try clear c32
       try clear c32b0
       try clear c32b1
       try clear p2
       obtain ⟨x16_2, x17_2, x18_2, rfl, rfl, rfl, HA, HK2, HO_4, HO_12, HO_14, HB⟩ := hrel
       cases gk with
       | zero => exact absurd HA.out (by simp [laws_FnFuses.l0])
       | succ k2 =>
        have H := HA.out
        clear HA
        simp only [laws_FnFuses.l0] at H
        by_cases c33 : x18_2 < (t519.length : Int)
        ·rw [if_pos c33] at H
         have c33b0 : decide (x18_2 < (t519.length : Int)) = true := decide_eq_true c33
         clear c33
         by_cases c34 : 0 ≤ x18_2
         ·rw [if_pos c34] at H
          have c34b0 : decide (0 ≤ x18_2) = true := decide_eq_true c34
          clear c34
          by_cases c35 : (rd t519 x18_2) < 0
          ·rw [if_pos c35] at H
           have c35b0 : decide ((rd t519 x18_2) < 0) = true := decide_eq_true c35
           clear c35
           obtain rfl := Option.some.inj H
           obtain ⟨Ao36, co36, eo36⟩ := Kd.R_slice HO_12.out
           subst eo36
           have p529 : 0 ≤ (x18_2 : Int) := of_decide_eq_true (by first | (with_reducible assumption) | assumption)
           have q529 : x18_2 < (t519.length : Int) := of_decide_eq_true (by first | (with_reducible assumption) | assumption)
           obtain ⟨ad529, e529, hx529_0⟩ := Kd.at_int (Kd.R_reads' HO_12.out).2.2 x18_2 p529 q529
           cases e529
           replace p529 := eq_true p529
           replace q529 := eq_true q529
           go_wp2
           go_ret
           exact ⟨by first | rfl | (simp [errW_none, errW_some] <;> rfl) | (simp [*, errW_none, errW_some] <;> rfl), by repeat (first | (with_reducible first | exact HB.out | apply below_alloc | apply pw_below_drewN | apply below_drew1) | exact HB.out)⟩
          ·rw [if_neg c35] at H
           have c35b0 : decide ((rd t519 x18_2) < 0) = false := decide_eq_false c35
           clear c35
           by_cases c37 : (rd t519 x18_2) ≥ (t509.length : Int)
           ·rw [if_pos c37] at H
            have c37b0 : decide ((t509.length : Int) ≤ (rd t519 x18_2)) = true := decide_eq_true c37
            clear c37
            obtain rfl := Option.some.inj H
            obtain ⟨Ao38, co38, eo38⟩ := Kd.R_slice HO_12.out
            subst eo38
            have p529 : 0 ≤ (x18_2 : Int) := of_decide_eq_true (by first | (with_reducible assumption) | assumption)
            have q529 : x18_2 < (t519.length : Int) := of_decide_eq_true (by first | (with_reducible assumption) | assumption)
            obtain ⟨ad529, e529, hx529_0⟩ := Kd.at_int (Kd.R_reads' HO_12.out).2.2 x18_2 p529 q529
            cases e529
            replace p529 := eq_true p529
            replace q529 := eq_true q529
            have p530 : 0 ≤ (x18_2 : Int) := of_decide_eq_true (by first | (with_reducible assumption) | assumption)
            have q530 : x18_2 < (t519.length : Int) := of_decide_eq_true (by first | (with_reducible assumption) | assumption)
            obtain ⟨ad530, e530, hx530_0⟩ := Kd.at_int (Kd.R_reads' HO_12.out).2.2 x18_2 p530 q530
            obtain rfl : ad529 = ad530 := (by injection e530)
            replace p530 := eq_true p530
            replace q530 := eq_true q530
            go_wp2
            go_ret
            exact ⟨by first | rfl | (simp [errW_none, errW_some] <;> rfl) | (simp [*, errW_none, errW_some] <;> rfl), by repeat (first | (with_reducible first | exact HB.out | apply below_alloc | apply pw_below_drewN | apply below_drew1) | exact HB.out)⟩
           ·rw [if_neg c37] at H
            have c37b0 : decide ((t509.length : Int) ≤ (rd t519 x18_2)) = false := decide_eq_false c37
            clear c37
            by_cases c39 : 0 ≤ (rd t519 x18_2)
            ·rw [if_pos c39] at H
             have c39b0 : decide (0 ≤ (rd t519 x18_2)) = true := decide_eq_true c39
             clear c39
             by_cases c40 : (rd t519 x18_2) < (t509.length : Int)
             ·rw [if_pos c40] at H
              have c40b0 : decide ((rd t519 x18_2) < (t509.length : Int)) = true := decide_eq_true c40
              clear c40
              by_cases c41 : ((rd_T39 t509 (rd t519 x18_2)).f0) = x16_2
              ·rw [if_pos c41] at H
               have c41b0 : (((rd_T39 t509 (rd t519 x18_2)).f0) == x16_2) = true := beq_iff_eq.mpr c41
               have c41b1 : (((rd_T39 t509 (rd t519 x18_2)).f0) != x16_2) = false := bne_eq_false_iff_eq.mpr c41
               clear c41
               by_cases c42 : x18_2 < (t523.length : Int)
               ·rw [if_pos c42] at H
                have c42b0 : decide (x18_2 < (t523.length : Int)) = true := decide_eq_true c42
                clear c42
                by_cases c43 : 0 ≤ (rd t523 x18_2)
                ·rw [if_pos c43] at H
                 have c43b0 : decide (0 ≤ (rd t523 x18_2)) = true := decide_eq_true c43
                 clear c43
                 by_cases c44 : (rd t523 x18_2) < (t509.length : Int)
                 ·rw [if_pos c44] at H
                  have c44b0 : decide ((rd t523 x18_2) < (t509.length : Int)) = true := decide_eq_true c44
                  clear c44
                  have H' := Aside0.mk H
                  clear H
                  obtain ⟨Ao45, co45, eo45⟩ := Kd.R_slice HO_12.out
                  subst eo45
                  have p529 : 0 ≤ (x18_2 : Int) := of_decide_eq_true (by first | (with_reducible assumption) | assumption)
                  have q529 : x18_2 < (t519.length : Int) := of_decide_eq_true (by first | (with_reducible assumption) | assumption)
                  obtain ⟨ad529, e529, hx529_0⟩ := Kd.at_int (Kd.R_reads' HO_12.out).2.2 x18_2 p529 q529
                  cases e529
                  replace p529 := eq_true p529
                  replace q529 := eq_true q529
                  have p530 : 0 ≤ (x18_2 : Int) := of_decide_eq_true (by first | (with_reducible assumption) | assumption)
                  have q530 : x18_2 < (t519.length : Int) := of_decide_eq_true (by first | (with_reducible assumption) | assumption)
                  obtain ⟨ad530, e530, hx530_0⟩ := Kd.at_int (Kd.R_reads' HO_12.out).2.2 x18_2 p530 q530
                  obtain rfl : ad529 = ad530 := (by injection e530)
                  replace p530 := eq_true p530
                  replace q530 := eq_true q530
                  have p531 : 0 ≤ (x18_2 : Int) := of_decide_eq_true (by first | (with_reducible assumption) | assumption)
                  have q531 : x18_2 < (t519.length : Int) := of_decide_eq_true (by first | (with_reducible assumption) | assumption)
                  obtain ⟨ad531, e531, hx531_0⟩ := Kd.at_int (Kd.R_reads' HO_12.out).2.2 x18_2 p531 q531
                  obtain rfl : ad529 = ad531 := (by injection e531)
                  replace p531 := eq_true p531
                  replace q531 := eq_true q531
                  have p532 : 0 ≤ ((rd t519 x18_2) : Int) := of_decide_eq_true (by first | (with_reducible assumption) | assumption)
                  have q532 : (rd t519 x18_2) < (t509.length : Int) := of_decide_eq_true (by first | (with_reducible assumption) | assumption)
                  obtain ⟨ad532, e532, hx532_0, hx532_1, hx532_2, hx532_3⟩ := at_T39 (Kd.R_reads' HO_4.out).2.2 (rd t519 x18_2) p532 q532
                  cases e532
                  replace p532 := eq_true p532
                  replace q532 := eq_true q532
                  obtain ⟨Ao46, co46, eo46⟩ := Kd.R_slice HO_14.out
                  subst eo46
                  have p533 : 0 ≤ (x18_2 : Int) := of_decide_eq_true (by first | (with_reducible assumption) | assumption)
                  have q533 : x18_2 < (t523.length : Int) := of_decide_eq_true (by first | (with_reducible assumption) | assumption)
                  obtain ⟨ad533, e533, hx533_0⟩ := Kd.at_int (Kd.R_reads' HO_14.out).2.2 x18_2 p533 q533
                  cases e533
                  replace p533 := eq_true p533
                  replace q533 := eq_true q533
                  have p534 : 0 ≤ ((rd t523 x18_2) : Int) := of_decide_eq_true (by first | (with_reducible assumption) | assumption)
                  have q534 : (rd t523 x18_2) < (t509.length : Int) := of_decide_eq_true (by first | (with_reducible assumption) | assumption)
                  obtain ⟨ad534, e534, hx534_0, hx534_1, hx534_2, hx534_3⟩ := at_T39 (Kd.R_reads' HO_4.out).2.2 (rd t523 x18_2) p534 q534
                  obtain rfl : ad532 = ad534 := (by injection e534)
                  replace p534 := eq_true p534
                  replace q534 := eq_true q534
                  have p535 : 0 ≤ (x18_2 : Int) := of_decide_eq_true (by first | (with_reducible assumption) | assumption)
                  have q535 : x18_2 < (t523.length : Int) := of_decide_eq_true (by first | (with_reducible assumption) | assumption)
                  obtain ⟨ad535, e535, hx535_0⟩ := Kd.at_int (Kd.R_reads' HO_14.out).2.2 x18_2 p535 q535
                  obtain rfl : ad533 = ad535 := (by injection e535)
                  replace p535 := eq_true p535
                  replace q535 := eq_true q535
                  have p536 : 0 ≤ ((rd t523 x18_2) : Int) := of_decide_eq_true (by first | (with_reducible assumption) | assumption)
                  have q536 : (rd t523 x18_2) < (t509.length : Int) := of_decide_eq_true (by first | (with_reducible assumption) | assumption)
                  obtain ⟨ad536, e536, hx536_0, hx536_1, hx536_2, hx536_3⟩ := at_T39 (Kd.R_reads' HO_4.out).2.2 (rd t523 x18_2) p536 q536
                  obtain rfl : ad532 = ad536 := (by injection e536)
                  replace p536 := eq_true p536
                  replace q536 := eq_true q536
                  go_wp2
                  go_roundg k2
                  case measure => have := HJ8.out; have := HK2.out; omega
                  case rel => exact ⟨((rd_T39 t509 (rd t523 x18_2)).f1), (wrap64 (x17_2 + ((rd_T39 t509 (rd t523 x18_2)).f2))), (wrap64 (x18_2 + 1)), (by first | rfl | (simp; done) | (simp [*]; done)), (by first | rfl | (simp; done) | (simp [*]; done)), (by first | rfl | (simp; done) | (simp [*]; done)), H', ⟨by have := HJ8.out; have := HK2.out; omega⟩, ⟨by (with_reducible repeat (first | apply Kd.R_alloc | apply Kd.R_drewN | apply Kd.R_drew)); exact HO_4.out⟩, ⟨by (with_reducible repeat (first | apply Kd.R_alloc | apply Kd.R_drewN | apply Kd.R_drew)); exact HO_12.out⟩, ⟨by (with_reducible repeat (first | apply Kd.R_alloc | apply Kd.R_drewN | apply Kd.R_drew)); exact HO_14.out⟩, ⟨by repeat (first | (with_reducible first | exact HB.out | apply below_alloc | apply pw_below_drewN | apply below_drew1) | exact HB.out)⟩⟩
                 ·rw [if_neg c44] at H
                  exact absurd H (by simp)
                ·rw [if_neg c43] at H
                 exact absurd H (by simp)
               ·rw [if_neg c42] at H
                exact absurd H (by simp)
              ·rw [if_neg c41] at H
               have c41b0 : (((rd_T39 t509 (rd t519 x18_2)).f0) == x16_2) = false := beq_eq_false_iff_ne.mpr c41
               have c41b1 : (((rd_T39 t509 (rd t519 x18_2)).f0) != x16_2) = true := bne_iff_ne.mpr c41
               obtain rfl := Option.some.inj H
               obtain ⟨Ao47, co47, eo47⟩ := Kd.R_slice HO_12.out
               subst eo47
               have p529 : 0 ≤ (x18_2 : Int) := of_decide_eq_true (by first | (with_reducible assumption) | assumption)
               have q529 : x18_2 < (t519.length : Int) := of_decide_eq_true (by first | (with_reducible assumption) | assumption)
               obtain ⟨ad529, e529, hx529_0⟩ := Kd.at_int (Kd.R_reads' HO_12.out).2.2 x18_2 p529 q529
               cases e529
               replace p529 := eq_true p529
               replace q529 := eq_true q529
               have p530 : 0 ≤ (x18_2 : Int) := of_decide_eq_true (by first | (with_reducible assumption) | assumption)
               have q530 : x18_2 < (t519.length : Int) := of_decide_eq_true (by first | (with_reducible assumption) | assumption)
               obtain ⟨ad530, e530, hx530_0⟩ := Kd.at_int (Kd.R_reads' HO_12.out).2.2 x18_2 p530 q530
               obtain rfl : ad529 = ad530 := (by injection e530)
               replace p530 := eq_true p530
               replace q530 := eq_true q530
               have p531 : 0 ≤ (x18_2 : Int) := of_decide_eq_true (by first | (with_reducible assumption) | assumption)
               have q531 : x18_2 < (t519.length : Int) := of_decide_eq_true (by first | (with_reducible assumption) | assumption)
               obtain ⟨ad531, e531, hx531_0⟩ := Kd.at_int (Kd.R_reads' HO_12.out).2.2 x18_2 p531 q531
               obtain rfl : ad529 = ad531 := (by injection e531)
               replace p531 := eq_true p531
               replace q531 := eq_true q531
               have p532 : 0 ≤ ((rd t519 x18_2) : Int) := of_decide_eq_true (by first | (with_reducible assumption) | assumption)
               have q532 : (rd t519 x18_2) < (t509.length : Int) := of_decide_eq_true (by first | (with_reducible assumption) | assumption)
               obtain ⟨ad532, e532, hx532_0, hx532_1, hx532_2, hx532_3⟩ := at_T39 (Kd.R_reads' HO_4.out).2.2 (rd t519 x18_2) p532 q532
               cases e532
               replace p532 := eq_true p532
               replace q532 := eq_true q532
               go_wp2
               go_ret
               exact ⟨by first | rfl | (simp [errW_none, errW_some] <;> rfl) | (simp [*, errW_none, errW_some] <;> rfl), by repeat (first | (with_reducible first | exact HB.out | apply below_alloc | apply pw_below_drewN | apply below_drew1) | exact HB.out)⟩
             ·rw [if_neg c40] at H
              exact absurd H (by simp)
            ·rw [if_neg c39] at H
             exact absurd H (by simp)
         ·rw [if_neg c34] at H
          exact absurd H (by simp)
        ·rw [if_neg c33] at H
         have c33b0 : decide (x18_2 < (t519.length : Int)) = false := decide_eq_false c33
         clear c33
         have HC48 := Aside0.mk H
         clear H
         obtain ⟨Ao49, co49, eo49⟩ := Kd.R_slice HO_12.out
         subst eo49
         go_upto_region 20 with (fail)
         go_cut [163] (fun v163 wc => ∃ (kq : Nat) (x163_47 : Bool), v163 = .bool x163_47 ∧ Aside0 (laws_FnFuses.j2 kq l0 t508 t509 t510 t513 t514 x163_47 = some r) ∧ Aside0 (kq ≤ k2) ∧ Aside0 (Kd.R k39 39 wc w.heap.size (fun _ => True) (.slice Ao11 t509.length co11) t509) ∧ Aside0 (Below w.heap.size w wc))
         case first => as_aux_lemma =>
          have H := HC48.out
          clear HC48
          by_cases c50 : x16_2 = t510
          ·rw [if_pos c50] at H
           have c50b0 : (x16_2 == t510) = true := beq_iff_eq.mpr c50
           have c50b1 : (x16_2 != t510) = false := bne_eq_false_iff_eq.mpr c50
           clear c50
           (first | rw [c50b0] | (simp only [i64_w, i32_w]; rw [c50b0]) | skip)
           by_cases c51 : x17_2 = t513
           ·rw [if_pos c51] at H
            have c51b0 : (x17_2 == t513) = true := beq_iff_eq.mpr c51
            have c51b1 : (x17_2 != t513) = false := bne_eq_false_iff_eq.mpr c51
            clear c51
            have H' := Aside0.mk H
            clear H
            go_wp2
            go_meet
            case rel => exact ⟨_, (decide (t513 > t514)), (by first | rfl | (simp; done) | (simp [*]; done)), H', ⟨by have := HJ8.out; have := HK2.out; first | omega | exact Nat.le_refl _⟩, ⟨by (with_reducible repeat (first | apply Kd.R_alloc | apply Kd.R_drewN | apply Kd.R_drew)); exact HO_4.out⟩, ⟨by repeat (first | (with_reducible first | exact HB.out | apply below_alloc | apply pw_below_drewN | apply below_drew1) | exact HB.out)⟩⟩
           ·rw [if_neg c51] at H
            have c51b0 : (x17_2 == t513) = false := beq_eq_false_iff_ne.mpr c51
            have c51b1 : (x17_2 != t513) = true := bne_iff_ne.mpr c51
            have H' := Aside0.mk H
            clear H
            go_wp2
            go_meet
            case rel => exact ⟨_, (true), (by first | rfl | (simp; done) | (simp [*]; done)), H', ⟨by have := HJ8.out; have := HK2.out; first | omega | exact Nat.le_refl _⟩, ⟨by (with_reducible repeat (first | apply Kd.R_alloc | apply Kd.R_drewN | apply Kd.R_drew)); exact HO_4.out⟩, ⟨by repeat (first | (with_reducible first | exact HB.out | apply below_alloc | apply pw_below_drewN | apply below_drew1) | exact HB.out)⟩⟩
          ·rw [if_neg c50] at H
           have c50b0 : (x16_2 == t510) = false := beq_eq_false_iff_ne.mpr c50
           have c50b1 : (x16_2 != t510) = true := bne_iff_ne.mpr c50
           (first | rw [c50b0] | (simp only [i64_w, i32_w]; rw [c50b0]) | skip)
           have H' := Aside0.mk H
           clear H
           go_wp2
           go_meet
           case rel => exact ⟨_, (true), (by first | rfl | (simp; done) | (simp [*]; done)), H', ⟨by have := HJ8.out; have := HK2.out; first | omega | exact Nat.le_refl _⟩, ⟨by (with_reducible repeat (first | apply Kd.R_alloc | apply Kd.R_drewN | apply Kd.R_drew)); exact HO_4.out⟩, ⟨by repeat (first | (with_reducible first | exact HB.out | apply below_alloc | apply pw_below_drewN | apply below_drew1) | exact HB.out)⟩⟩
         case rest => as_aux_lemma =>
          clear HC48
          try clear c1
          try clear c2
          try clear p2
          try clear c3
          try clear c4
          try clear c5
          try clear p5
          try clear q5
          try clear hx5
          try clear c6
          try clear p6
          try clear c13
          try clear c16
          try clear c16b0
          try clear c16b1
          try clear c17
          try clear c17b0
          try clear c17b1
          try clear c18
          try clear c18b0
          try clear c18b1
          try clear c19
          try clear c19b0
          try clear c19b1
          try clear c21
          try clear c22
          try clear c22b0
          try clear c22b1
          try clear c31
          try clear c32
          try clear c32b0
          try clear c32b1
          try clear c33
          try clear c33b0
          try clear c34
          try clear c34b0
          try clear c35
          try clear c35b0
          try clear c37
          try clear c37b0
          try clear c39
          try clear c39b0
          try clear c40
          try clear c40b0
          try clear c41
          try clear c41b0
          try clear c41b1
          try clear c42
          try clear c42b0
          try clear c43
          try clear c43b0
          try clear c44
          try clear c44b0
          try clear c50
          try clear c50b0
          try clear c50b1
          try clear c51
          try clear c51b0
          try clear c51b1
          try clear hx529_0
          try clear hx530_0
          try clear hx531_0
          try clear hx532_0
          try clear hx532_1
          try clear hx532_2
          try clear hx532_3
          try clear hx533_0
          try clear hx534_0
          try clear hx534_1
          try clear hx534_2
          try clear hx534_3
          try clear hx535_0
          try clear hx536_0
          try clear hx536_1
          try clear hx536_2
          try clear hx536_3
          try clear p2
          try clear p529
          try clear p530
          try clear p531
          try clear p532
          try clear p533
          try clear p534
          try clear p535
          try clear p536
          try clear q529
          try clear q530
          try clear q531
          try clear q532
          try clear q533
          try clear q534
          try clear q535
          try clear q536
          obtain ⟨kq, x163_47, rfl, HA, HJ47, HO_4, HB⟩ := hcut
          cases kq with
          | zero => exact absurd HA.out (by simp [laws_FnFuses.j2])
          | succ kj47 =>
           have H := HA.out
           clear HA
           simp only [laws_FnFuses.j2] at H
           by_cases c52 : x163_47 = true
           ·subst c52
            have H1 : (some false) = some r := by rw [if_pos rfl] at H; exact H
            clear H
            have H := H1
            clear H1
            exact absurd ((Option.some.inj H).trans HR_.out) (by decide)
           ·replace c52 := Bool.eq_false_iff.mpr c52
            subst c52
            have H1 : (if (t509.length : Int) = 0 then (some true) else ((laws_roll.f kj47 l0 1001).bind fun bt537 => ((laws_dice_below.f bt537.1 bt537.2.1 bt537.2.2 (t509.length : Int)).bind fun bt541 => ((impl_WithoutFuse.f kj47 t508 t509 bt541.1).bind fun bt544 => ((impl_LitBetween.f kj47 t508 bt544.1 t510).bind fun bt548 => (if bt544.2 = 0 then (if bt548.2.2 = 4 then (some true) else (if bt548.2.2 = 0 then (if bt548.1 ≥ t513 then (some (decide (bt548.2.1 ≥ t514))) else (some false)) else (some false))) else (some false))))))) = some r := by rw [if_neg (show ¬ (false = true) by decide)] at H; exact H
            clear H
            have H := H1
            clear H1
            by_cases c53 : (t509.length : Int) = 0
            ·rw [if_pos c53] at H
             have c53b0 : ((t509.length : Int) == 0) = true := beq_iff_eq.mpr c53
             have c53b1 : ((t509.length : Int) != 0) = false := bne_eq_false_iff_eq.mpr c53
             clear c53
             obtain rfl := Option.some.inj H
             go_wp2
             go_ret
             exact ⟨by first | rfl | (simp [errW_none, errW_some] <;> rfl) | (simp [*, errW_none, errW_some] <;> rfl), by repeat (first | (with_reducible first | exact HB.out | apply below_alloc | apply pw_below_drewN | apply below_drew1) | exact HB.out)⟩
            ·rw [if_neg c53] at H
             have c53b0 : ((t509.length : Int) == 0) = false := beq_eq_false_iff_ne.mpr c53
             have c53b1 : ((t509.length : Int) != 0) = true := bne_iff_ne.mpr c53
             have c53b2 : ¬ (t509 = []) := fun h_ => c53 (by rw [h_]; rfl)
             replace H := Option.bind_eq_some_iff.mp H
             obtain ⟨⟨t537, t538, t539⟩, A540, H⟩ := H
             replace H : ((laws_dice_below.f t537 t538 t539 (t509.length : Int)).bind fun bt541 => ((impl_WithoutFuse.f kj47 t508 t509 bt541.1).bind fun bt544 => ((impl_LitBetween.f kj47 t508 bt544.1 t510).bind fun bt548 => (if bt544.2 = 0 then (if bt548.2.2 = 4 then (some true) else (if bt548.2.2 = 0 then (if bt548.1 ≥ t513 then (some (decide (bt548.2.1 ≥ t514))) else (some false)) else (some false))) else (some false))))) = some r := H
             have A54 := Aside0.mk A540
             clear A540
             replace H := Option.bind_eq_some_iff.mp H
             obtain ⟨⟨t541, t542, t543⟩, A550, H⟩ := H
             replace H : ((impl_WithoutFuse.f kj47 t508 t509 t541).bind fun bt544 => ((impl_LitBetween.f kj47 t508 bt544.1 t510).bind fun bt548 => (if bt544.2 = 0 then (if bt548.2.2 = 4 then (some true) else (if bt548.2.2 = 0 then (if bt548.1 ≥ t513 then (some (decide (bt548.2.1 ≥ t514))) else (some false)) else (some false))) else (some false)))) = some r := H
             have A55 := Aside0.mk A550
             clear A550
             replace H := Option.bind_eq_some_iff.mp H
             obtain ⟨⟨t544, t545⟩, A560, H⟩ := H
             replace H : ((impl_LitBetween.f kj47 t508 t544 t510).bind fun bt548 => (if t545 = 0 then (if bt548.2.2 = 4 then (some true) else (if bt548.2.2 = 0 then (if bt548.1 ≥ t513 then (some (decide (bt548.2.1 ≥ t514))) else (some false)) else (some false))) else (some false))) = some r := H
             have A56 := Aside0.mk A560
             clear A560
             replace H := Option.bind_eq_some_iff.mp H
             obtain ⟨⟨t548, t549, t550⟩, A570, H⟩ := H
             replace H : (if t545 = 0 then (if t550 = 4 then (some true) else (if t550 = 0 then (if t548 ≥ t513 then (some (decide (t549 ≥ t514))) else (some false)) else (some false))) else (some false)) = some r := H
             have A57 := Aside0.mk A570
             clear A570
             by_cases c58 : t545 = 0
             ·rw [if_pos c58] at H
              have c58b0 : (t545 == 0) = true := beq_iff_eq.mpr c58
              have c58b1 : (t545 != 0) = false := bne_eq_false_iff_eq.mpr c58
              clear c58
              by_cases c59 : t550 = 4
              ·rw [if_pos c59] at H
               have c59b0 : (t550 == 4) = true := beq_iff_eq.mpr c59
               have c59b1 : (t550 != 4) = false := bne_eq_false_iff_eq.mpr c59
               clear c59
               obtain rfl := Option.some.inj H
               go_wp2_with (first | ((with_reducible refine gate_callee (f := 21) rfl ?_); refine goesL_ (some 171) rfl rfl Try.func21 (by kernel_rfl) rfl #[.slice A0 l0.length c0, .int .u64 1001] rfl (by (try simp only [List.map_toArray, List.map_cons, List.map_nil]); first | done | rfl | (simp only [List.length_drop, List.length_take]; rfl)) ?_; (with_reducible refine (laws_roll.calls kj47 _ _ l0 1001 t537 t538 t539 w _ ?side1 ?side2 ?side3 A54.out).mono ?_); (case side1 => repeat (first | (with_reducible first | exact HB.out | apply below_alloc | apply pw_below_drewN | apply below_drew1) | exact HB.out)); (case side2 => exact HR0.out); (case side3 => exact HC0.out); rintro e w60 ⟨g540, rfl, hi, hb, hb2⟩; refine ⟨_, rfl, ?_⟩; have n0_ := Aside0.mk (Kd.R_below (by (with_reducible repeat (first | apply Kd.R_alloc | apply Kd.R_drewN | apply Kd.R_drew)); exact HO_4.out) hb2); have n1_ := Aside0.mk (hb); have n2_ := Aside0.mk (hi); clear HO_4; clear HB; have HO_4 := n0_; have HB := n1_; have HI540 := n2_; clear n0_ n1_ n2_; (try clear hb); (try clear hb2); (try clear hk); (try clear hi)) | ((with_reducible refine gate_callee (f := 22) rfl ?_); refine goesL_ (some 174) rfl rfl Try.func22 (by kernel_rfl) rfl #[.pointer (some ⟨g540, 0, none⟩), .int .i64 (t509.length : Int)] rfl (by (try simp only [List.map_toArray, List.map_cons, List.map_nil]); first | done | rfl | (simp only [List.length_drop, List.length_take]; rfl)) ?_; (with_reducible refine (laws_dice_below.calls g540 t537 t538 t539 (t509.length : Int) t541 t542 t543 w _ ?side1 ?side2 A55.out).mono ?_); (case side1 => repeat (first | (with_reducible first | exact HI540.out | apply IsS66.alloc | apply IsS66.drewN | apply IsS66.drew | apply IsS66.set_1 | apply IsS66.set_2) | exact HI540.out)); (case side2 => repeat (first | (with_reducible first | exact HB.out | apply below_alloc | apply pw_below_drewN | apply below_drew1 | refine below_set ?_ (IsS66.ge HI540.out)) | exact HB.out)); rintro e w61 ⟨rfl, hi, hb, hk⟩; refine ⟨_, rfl, ?_⟩; have n0_ := Aside0.mk (Kd.R_mono (Kd.R_keep (IsS66.apart (show IsS66 w _ g540 t537 t538 t539 from by repeat (first | (with_reducible first | exact HI540.out | apply IsS66.alloc | apply IsS66.drewN | apply IsS66.drew | apply IsS66.set_1 | apply IsS66.set_2) | exact HI540.out)) (by (with_reducible repeat (first | apply Kd.R_alloc | apply Kd.R_drewN | apply Kd.R_drew)); exact HO_4.out) (by decide)) hk (fun _ h => h.2)) (fun _ h => h.1)); have n1_ := Aside0.mk (hb); have n2_ := Aside0.mk (hi); clear HO_4; clear HB; clear HI540; have HO_4 := n0_; have HB := n1_; have HI540 := n2_; clear n0_ n1_ n2_; (try clear hb); (try clear hb2); (try clear hk); (try clear hi)) | ((with_reducible refine gate_callee (f := 14) rfl ?_); refine goesL_ (some 175) rfl rfl Try.func14 (by kernel_rfl) rfl #[.int .i64 t508, .slice Ao11 t509.length co11, .int .i64 t541] rfl (by (try simp only [List.map_toArray, List.map_cons, List.map_nil]); first | done | rfl | (simp only [List.length_drop, List.length_take]; rfl)) ?_; (with_reducible refine (impl_WithoutFuse.calls kj47 t508 _ _ t509 t541 t544 t545 _ ?side1 ?side2 A56.out).mono ?_); (case side1 => repeat (first | exact (Kd.R_reads' HO_4.out).2.2 | (with_reducible refine Kd.C_alloc ?_ _) | (with_reducible refine Kd.C_drewN ?_ _) | (with_reducible refine Kd.C_drew ?_))); (case side2 => exact (Kd.R_reads' HO_4.out).2.1); rintro e w62 ⟨v546, rfl, ho0, hb⟩; refine ⟨_, rfl, ?_⟩; have n0_ := Aside0.mk (Kd.R_elder' (by (with_reducible repeat (first | apply Kd.R_alloc | apply Kd.R_drewN | apply Kd.R_drew)); exact HO_4.out) (Kd.R_base ho0) hb); have n1_ := Aside0.mk (Kd.R_lower (Kd.R_new' ho0 (Kd.R_lt (by (with_reducible repeat (first | apply Kd.R_alloc | apply Kd.R_drewN | apply Kd.R_drew)); exact HO_4.out))) (below_size (by repeat (first | (with_reducible first | exact HB.out | apply below_alloc | apply pw_below_drewN | apply below_drew1 | refine below_set ?_ (IsS66.ge HI540.out)) | exact HB.out)))); have n2_ := Aside0.mk (IsS66.below (by repeat (first | (with_reducible first | exact HI540.out | apply IsS66.alloc | apply IsS66.drewN | apply IsS66.drew | apply IsS66.set_1 | apply IsS66.set_2) | exact HI540.out)) hb); have n3_ := Aside0.mk (below_step (by repeat (first | (with_reducible first | exact HB.out | apply below_alloc | apply pw_below_drewN | apply below_drew1 | refine below_set ?_ (IsS66.ge HI540.out)) | exact HB.out)) hb); clear HO_4; clear HI540; clear HB; have HO_4 := n0_; have HO547 := n1_; have HI540 := n2_; have HB := n3_; clear n0_ n1_ n2_ n3_; (try clear hb); (try clear hb2); (try clear hk); (try clear hi); (try clear ho0); obtain ⟨Ao63, co63, eo63⟩ := Kd.R_slice HO547.out; subst eo63) | ((with_reducible refine gate_callee (f := 13) rfl ?_); refine goesL_ (some 182) rfl rfl Try.func13 (by kernel_rfl) rfl #[.int .i64 t508, .slice Ao63 t544.length co63, .int .i64 t510] rfl (by (try simp only [List.map_toArray, List.map_cons, List.map_nil]); first | done | rfl | (simp only [List.length_drop, List.length_take]; rfl)) ?_; (with_reducible refine (impl_LitBetween.calls kj47 t508 _ _ t544 t510 t548 t549 t550 _ ?side1 ?side2 A57.out).mono ?_); (case side1 => repeat (first | exact (Kd.R_reads' HO547.out).2.2 | (with_reducible refine Kd.C_alloc ?_ _) | (with_reducible refine Kd.C_drewN ?_ _) | (with_reducible refine Kd.C_drew ?_))); (case side2 => exact (Kd.R_reads' HO547.out).2.1); rintro e w64 ⟨rfl, hb⟩; refine ⟨_, rfl, ?_⟩; have n0_ := Aside0.mk (Kd.R_below (by (with_reducible repeat (first | apply Kd.R_alloc | apply Kd.R_drewN | apply Kd.R_drew)); exact HO_4.out) hb); have n1_ := Aside0.mk (Kd.R_below (by (with_reducible repeat (first | apply Kd.R_alloc | apply Kd.R_drewN | apply Kd.R_drew)); exact HO547.out) hb); have n2_ := Aside0.mk (IsS66.below (by repeat (first | (with_reducible first | exact HI540.out | apply IsS66.alloc | apply IsS66.drewN | apply IsS66.drew | apply IsS66.set_1 | apply IsS66.set_2) | exact HI540.out)) hb); have n3_ := Aside0.mk (below_step (by repeat (first | (with_reducible first | exact HB.out | apply below_alloc | apply pw_below_drewN | apply below_drew1 | refine below_set ?_ (IsS66.ge HI540.out)) | exact HB.out)) hb); clear HO_4; clear HO547; clear HI540; clear HB; have HO_4 := n0_; have HO547 := n1_; have HI540 := n2_; have HB := n3_; clear n0_ n1_ n2_ n3_; (try clear hb); (try clear hb2); (try clear hk); (try clear hi)))
               go_ret
               exact ⟨by first | rfl | (simp [errW_none, errW_some] <;> rfl) | (simp [*, errW_none, errW_some] <;> rfl), by repeat (first | (with_reducible first | exact HB.out | apply below_alloc | apply pw_below_drewN | apply below_drew1 | refine below_set ?_ (IsS66.ge HI540.out)) | exact HB.out)⟩
              ·rw [if_neg c59] at H
               have c59b0 : (t550 == 4) = false := beq_eq_false_iff_ne.mpr c59
               have c59b1 : (t550 != 4) = true := bne_iff_ne.mpr c59
               by_cases c65 : t550 = 0
               ·rw [if_pos c65] at H
                have c65b0 : (t550 == 0) = true := beq_iff_eq.mpr c65
                have c65b1 : (t550 != 0) = false := bne_eq_false_iff_eq.mpr c65
                clear c65
                by_cases c66 : t548 ≥ t513
                ·rw [if_pos c66] at H
                 have c66b0 : decide (t513 ≤ t548) = true := decide_eq_true c66
                 clear c66
                 obtain rfl := Option.some.inj H
                 go_wp2_with (first | ((with_reducible refine gate_callee (f := 21) rfl ?_); refine goesL_ (some 171) rfl rfl Try.func21 (by kernel_rfl) rfl #[.slice A0 l0.length c0, .int .u64 1001] rfl (by (try simp only [List.map_toArray, List.map_cons, List.map_nil]); first | done | rfl | (simp only [List.length_drop, List.length_take]; rfl)) ?_; (with_reducible refine (laws_roll.calls kj47 _ _ l0 1001 t537 t538 t539 w _ ?side1 ?side2 ?side3 A54.out).mono ?_); (case side1 => repeat (first | (with_reducible first | exact HB.out | apply below_alloc | apply pw_below_drewN | apply below_drew1) | exact HB.out)); (case side2 => exact HR0.out); (case side3 => exact HC0.out); rintro e w67 ⟨g540, rfl, hi, hb, hb2⟩; refine ⟨_, rfl, ?_⟩; have n0_ := Aside0.mk (Kd.R_below (by (with_reducible repeat (first | apply Kd.R_alloc | apply Kd.R_drewN | apply Kd.R_drew)); exact HO_4.out) hb2); have n1_ := Aside0.mk (hb); have n2_ := Aside0.mk (hi); clear HO_4; clear HB; have HO_4 := n0_; have HB := n1_; have HI540 := n2_; clear n0_ n1_ n2_; (try clear hb); (try clear hb2); (try clear hk); (try clear hi)) | ((with_reducible refine gate_callee (f := 22) rfl ?_); refine goesL_ (some 174) rfl rfl Try.func22 (by kernel_rfl) rfl #[.pointer (some ⟨g540, 0, none⟩), .int .i64 (t509.length : Int)] rfl (by (try simp only [List.map_toArray, List.map_cons, List.map_nil]); first | done | rfl | (simp only [List.length_drop, List.length_take]; rfl)) ?_; (with_reducible refine (laws_dice_below.calls g540 t537 t538 t539 (t509.length : Int) t541 t542 t543 w _ ?side1 ?side2 A55.out).mono ?_); (case side1 => repeat (first | (with_reducible first | exact HI540.out | apply IsS66.alloc | apply IsS66.drewN | apply IsS66.drew | apply IsS66.set_1 | apply IsS66.set_2) | exact HI540.out)); (case side2 => repeat (first | (with_reducible first | exact HB.out | apply below_alloc | apply pw_below_drewN | apply below_drew1 | refine below_set ?_ (IsS66.ge HI540.out)) | exact HB.out)); rintro e w68 ⟨rfl, hi, hb, hk⟩; refine ⟨_, rfl, ?_⟩; have n0_ := Aside0.mk (Kd.R_mono (Kd.R_keep (IsS66.apart (show IsS66 w _ g540 t537 t538 t539 from by repeat (first | (with_reducible first | exact HI540.out | apply IsS66.alloc | apply IsS66.drewN | apply IsS66.drew | apply IsS66.set_1 | apply IsS66.set_2) | exact HI540.out)) (by (with_reducible repeat (first | apply Kd.R_alloc | apply Kd.R_drewN | apply Kd.R_drew)); exact HO_4.out) (by decide)) hk (fun _ h => h.2)) (fun _ h => h.1)); have n1_ := Aside0.mk (hb); have n2_ := Aside0.mk (hi); clear HO_4; clear HB; clear HI540; have HO_4 := n0_; have HB := n1_; have HI540 := n2_; clear n0_ n1_ n2_; (try clear hb); (try clear hb2); (try clear hk); (try clear hi)) | ((with_reducible refine gate_callee (f := 14) rfl ?_); refine goesL_ (some 175) rfl rfl Try.func14 (by kernel_rfl) rfl #[.int .i64 t508, .slice Ao11 t509.length co11, .int .i64 t541] rfl (by (try simp only [List.map_toArray, List.map_cons, List.map_nil]); first | done | rfl | (simp only [List.length_drop, List.length_take]; rfl)) ?_; (with_reducible refine (impl_WithoutFuse.calls kj47 t508 _ _ t509 t541 t544 t545 _ ?side1 ?side2 A56.out).mono ?_); (case side1 => repeat (first | exact (Kd.R_reads' HO_4.out).2.2 | (with_reducible refine Kd.C_alloc ?_ _) | (with_reducible refine Kd.C_drewN ?_ _) | (with_reducible refine Kd.C_drew ?_))); (case side2 => exact (Kd.R_reads' HO_4.out).2.1); rintro e w69 ⟨v546, rfl, ho0, hb⟩; refine ⟨_, rfl, ?_⟩; have n0_ := Aside0.mk (Kd.R_elder' (by (with_reducible repeat (first | apply Kd.R_alloc | apply Kd.R_drewN | apply Kd.R_drew)); exact HO_4.out) (Kd.R_base ho0) hb); have n1_ := Aside0.mk (Kd.R_lower (Kd.R_new' ho0 (Kd.R_lt (by (with_reducible repeat (first | apply Kd.R_alloc | apply Kd.R_drewN | apply Kd.R_drew)); exact HO_4.out))) (below_size (by repeat (first | (with_reducible first | exact HB.out | apply below_alloc | apply pw_below_drewN | apply below_drew1 | refine below_set ?_ (IsS66.ge HI540.out)) | exact HB.out)))); have n2_ := Aside0.mk (IsS66.below (by repeat (first | (with_reducible first | exact HI540.out | apply IsS66.alloc | apply IsS66.drewN | apply IsS66.drew | apply IsS66.set_1 | apply IsS66.set_2) | exact HI540.out)) hb); have n3_ := Aside0.mk (below_step (by repeat (first | (with_reducible first | exact HB.out | apply below_alloc | apply pw_below_drewN | apply below_drew1 | refine below_set ?_ (IsS66.ge HI540.out)) | exact HB.out)) hb); clear HO_4; clear HI540; clear HB; have HO_4 := n0_; have HO547 := n1_; have HI540 := n2_; have HB := n3_; clear n0_ n1_ n2_ n3_; (try clear hb); (try clear hb2); (try clear hk); (try clear hi); (try clear ho0); obtain ⟨Ao70, co70, eo70⟩ := Kd.R_slice HO547.out; subst eo70) | ((with_reducible refine gate_callee (f := 13) rfl ?_); refine goesL_ (some 182) rfl rfl Try.func13 (by kernel_rfl) rfl #[.int .i64 t508, .slice Ao70 t544.length co70, .int .i64 t510] rfl (by (try simp only [List.map_toArray, List.map_cons, List.map_nil]); first | done | rfl | (simp only [List.length_drop, List.length_take]; rfl)) ?_; (with_reducible refine (impl_LitBetween.calls kj47 t508 _ _ t544 t510 t548 t549 t550 _ ?side1 ?side2 A57.out).mono ?_); (case side1 => repeat (first | exact (Kd.R_reads' HO547.out).2.2 | (with_reducible refine Kd.C_alloc ?_ _) | (with_reducible refine Kd.C_drewN ?_ _) | (with_reducible refine Kd.C_drew ?_))); (case side2 => exact (Kd.R_reads' HO547.out).2.1); rintro e w71 ⟨rfl, hb⟩; refine ⟨_, rfl, ?_⟩; have n0_ := Aside0.mk (Kd.R_below (by (with_reducible repeat (first | apply Kd.R_alloc | apply Kd.R_drewN | apply Kd.R_drew)); exact HO_4.out) hb); have n1_ := Aside0.mk (Kd.R_below (by (with_reducible repeat (first | apply Kd.R_alloc | apply Kd.R_drewN | apply Kd.R_drew)); exact HO547.out) hb); have n2_ := Aside0.mk (IsS66.below (by repeat (first | (with_reducible first | exact HI540.out | apply IsS66.alloc | apply IsS66.drewN | apply IsS66.drew | apply IsS66.set_1 | apply IsS66.set_2) | exact HI540.out)) hb); have n3_ := Aside0.mk (below_step (by repeat (first | (with_reducible first | exact HB.out | apply below_alloc | apply pw_below_drewN | apply below_drew1 | refine below_set ?_ (IsS66.ge HI540.out)) | exact HB.out)) hb); clear HO_4; clear HO547; clear HI540; clear HB; have HO_4 := n0_; have HO547 := n1_; have HI540 := n2_; have HB := n3_; clear n0_ n1_ n2_ n3_; (try clear hb); (try clear hb2); (try clear hk); (try clear hi)))
                 go_ret
                 exact ⟨by first | rfl | (simp [errW_none, errW_some] <;> rfl) | (simp [*, errW_none, errW_some] <;> rfl), by repeat (first | (with_reducible first | exact HB.out | apply below_alloc | apply pw_below_drewN | apply below_drew1 | refine below_set ?_ (IsS66.ge HI540.out)) | exact HB.out)⟩
                ·rw [if_neg c66] at H
                 have c66b0 : decide (t513 ≤ t548) = false := decide_eq_false c66
                 clear c66
                 exact absurd ((Option.some.inj H).trans HR_.out) (by decide)
               ·rw [if_neg c65] at H
                have c65b0 : (t550 == 0) = false := beq_eq_false_iff_ne.mpr c65
                have c65b1 : (t550 != 0) = true := bne_iff_ne.mpr c65
                exact absurd ((Option.some.inj H).trans HR_.out) (by decide)
             ·rw [if_neg c58] at H
              have c58b0 : (t545 == 0) = false := beq_eq_false_iff_ne.mpr c58
              have c58b1 : (t545 != 0) = true := bne_iff_ne.mpr c58
              exact absurd ((Option.some.inj H).trans HR_.out) (by decide)
     ·rw [if_neg c32] at H
      have c32b0 : (t515 == 0) = false := beq_eq_false_iff_ne.mpr c32
      have c32b1 : (t515 != 0) = true := bne_iff_ne.mpr c32
      obtain rfl := Option.some.inj H
      go_wp2
      go_ret
      exact ⟨by first | rfl | (simp [errW_none, errW_some] <;> rfl) | (simp [*, errW_none, errW_some] <;> rfl), by repeat (first | (with_reducible first | exact HB.out | apply below_alloc | apply pw_below_drewN | apply below_drew1) | exact HB.out)⟩
def laws_FnFuses.Pure : Prop := ∀ (l0 : List Int), l0.length ≤ maxLen → l0.length * 1 ≤ 140737488351232 → (∀ x ∈ l0, (Lit.int .u8 x).wf = true) → ∃ k, laws_FnFuses.f k l0 = some true
theorem laws_FnFuses.walk (P : laws_FnFuses.Pure) (a0 : Option Addr) (len0 cap0 : Nat) (z0 : List Int) (w : World) (w0 : (a0 = none ∧ len0 = 0 ∧ cap0 = 0 ∧ z0 = []) ∨ ∃ x, a0 = some x ∧ len0 ≤ cap0 ∧ cap0 ≤ maxLen ∧ z0.length = cap0 ∧ (∀ i, i < z0.length → w.cell? (x.add i) = some (.int .u8 (z0.getD i 0))) ∧ ∀ n ∈ z0, (Lit.int .u8 n).wf = true) (y0 : len0 * 1 ≤ 140737488351232) :
  Calls Try.prog 4 #[.slice a0 len0 cap0] w fun e w' => e = .returned (.bool true) ∧ Below w.heap.size w w' := by
 obtain ⟨l0, rfl, hr0, hm0, hw0, hc0⟩ := ReadsInt.ofRowC w0
 obtain ⟨k, h⟩ := P l0 hm0 y0 hw0
 refine (laws_FnFuses.calls k _ _ l0 true w (Kd.C_of_reads (d := (0 : Int)) (h1 := fun _ => rfl) hr0) hc0 h rfl).mono ?_
 rintro e w' ⟨rfl, hd⟩
 exact ⟨rfl, hd⟩
end Go.Proofs.Ytlnfjhahnacmiaa.F
namespace Go.Proofs.Ytlnfjhahnacmiaa.F
open Go.RowKit Go.Proofs.YtlnfjhahnacmiaaW.PrintWords Go.Proofs.YtlnfjhahnacmiaaW.PrintLast Go.Proofs.YtlnfjhahnacmiaaW.PrintMore
set_option linter.unusedVariables false
set_option linter.unusedSimpArgs false
def Evt (P : Nat → Prop) : Prop := ∃ K, ∀ k, K ≤ k → P k
theorem Evt.and {P Q : Nat → Prop} (h : Evt P) (h' : Evt Q) : Evt (fun k => P k ∧ Q k) := by
 obtain ⟨K, h⟩ := h
 obtain ⟨K', h'⟩ := h'
 exact ⟨K + K', fun k hk => ⟨h k (by omega), h' k (by omega)⟩⟩
theorem Evt.mono {P Q : Nat → Prop} (h : Evt P) (hq : ∀ k, P k → Q k) : Evt Q := by
 obtain ⟨K, h⟩ := h
 exact ⟨K, fun k hk => hq k (h k hk)⟩
theorem Evt.succ {P : Nat → Prop} (h : Evt (fun k => P (k + 1))) : Evt P := by
 obtain ⟨K, h⟩ := h
 refine ⟨K + 1, fun k hk => ?_⟩
 obtain ⟨m, rfl⟩ : ∃ m, k = m + 1 := ⟨k - 1, by omega⟩
 exact h m (by omega)
theorem w64 {n : Int} (h : -9223372036854775808 ≤ n ∧ n ≤ 9223372036854775807) : wrap64 n = n := by unfold wrap64; omega
def allF (p : Nat → Bool) : Nat → Nat → Bool
 | _, 0 => true
 | i, d + 1 => p i && allF p (i + 1) d
theorem allF_true {p : Nat → Bool} : ∀ (d i : Nat), allF p i d = true ↔ ∀ j, i ≤ j → j < i + d → p j = true
 | 0, i => by simp [allF]; intro j h1 h2; omega
 | d + 1, i => by
  unfold allF
  rw [Bool.and_eq_true, allF_true d (i + 1)]
  constructor
  ·rintro ⟨h1, h2⟩ j h3 h4
   rcases Nat.eq_or_lt_of_le h3 with e | e
   ·exact e ▸ h1
   ·exact h2 j e (by omega)
  ·exact fun h => ⟨h i (Nat.le_refl _) (by omega), fun j h1 h2 => h j (by omega) (by omega)⟩
theorem all_loopF {f : Nat → Nat → Option Bool} {p : Nat → Bool} {e : Bool} (a n : Nat) (hs : ∀ k i, a ≤ i → i < n → f (k + 1) i = if p i = true then f k (i + 1) else some false) (he : ∀ k, f (k + 1) n = some e) :
  ∀ d k i, a ≤ i → n - i = d → i ≤ n → d < k → f k i = some (allF p i d && e) := by
 intro d
 induction d with
 | zero =>
  intro k i ha hd hi hk
  obtain ⟨k, rfl⟩ : ∃ m, k = m + 1 := ⟨k - 1, by omega⟩
  have : i = n := by omega
  subst this
  rw [he]
  rfl
 | succ d ih =>
  intro k i ha hd hi hk
  obtain ⟨k, rfl⟩ : ∃ m, k = m + 1 := ⟨k - 1, by omega⟩
  rw [hs k i ha (by omega)]
  unfold allF
  by_cases hp : p i = true
  ·rw [if_pos hp, ih k (i + 1) (by omega) (by omega) (by omega) (by omega), hp, Bool.true_and]
  ·rw [if_neg hp]
   replace hp := Bool.eq_false_iff.mpr hp
   rw [hp, Bool.false_and, Bool.false_and]
theorem all_loop {f : Nat → Nat → Option Bool} {p : Nat → Bool} {e : Bool} (n : Nat) (hs : ∀ k i, i < n → f (k + 1) i = if p i = true then f k (i + 1) else some false) (he : ∀ k, f (k + 1) n = some e) :
  ∀ d k i, n - i = d → i ≤ n → d < k → f k i = some (allF p i d && e) := fun d k i => all_loopF 0 n (fun k i _ h => hs k i h) he d k i (Nat.zero_le _)
def inB (n lo hi : Int) : Bool := decide (lo ≤ n ∧ n ≤ hi)
theorem inB_true {n lo hi : Int} : inB n lo hi = true ↔ lo ≤ n ∧ n ≤ hi := by unfold inB; exact decide_eq_true_iff
theorem getD_set {α : Type} (xs : List α) (i : Nat) (v z : α) (h : i < xs.length) : (xs.set i v).getD i z = v := by
 rw [List.getD_eq_getElem?_getD, List.getElem?_set_self h]; rfl
end Go.Proofs.Ytlnfjhahnacmiaa.F
namespace Go.Proofs.Ytlnfjhahnacmiaa.F
open Go.RowKit Go.Proofs.YtlnfjhahnacmiaaW.PrintWords Go.Proofs.YtlnfjhahnacmiaaW.PrintLast Go.Proofs.YtlnfjhahnacmiaaW.PrintMore
set_option linter.unusedVariables false
set_option linter.unusedSimpArgs false
theorem In_eq (n lo hi : Int) : spec_l01In.f n lo hi = some (inB n lo hi) := by
 unfold spec_l01In.f inB
 by_cases h : n ≥ lo
 ·rw [if_pos h]; congr 1; simp; omega
 ·rw [if_neg h]; congr 1; simp; omega
theorem Wi_eq (n lo hi : Int) : impl_within.f n lo hi = some (inB n lo hi) := by
 unfold impl_within.f inB
 by_cases h : lo ≤ n
 ·rw [if_pos h]; congr 1; simp; omega
 ·rw [if_neg h]; congr 1; simp; omega
end Go.Proofs.Ytlnfjhahnacmiaa.F
namespace Go.Proofs.Ytlnfjhahnacmiaa.F
open Go.RowKit Go.Proofs.YtlnfjhahnacmiaaW.PrintWords Go.Proofs.YtlnfjhahnacmiaaW.PrintLast Go.Proofs.YtlnfjhahnacmiaaW.PrintMore
set_option linter.unusedVariables false
set_option linter.unusedSimpArgs false
def fu_at (xs : List S39) (i : Nat) : S39 := xs.getD i z39
def fuseAt (n : Int) (xs : List S39) (i : Nat) : Bool := inB (fu_at xs i).f0 0 (wrap64 (n - 1)) && (inB (fu_at xs i).f1 (wrap64 ((fu_at xs i).f0 + 1)) (wrap64 (n - 1)) && (inB (fu_at xs i).f2 0 100000 && inB (fu_at xs i).f3 (fu_at xs i).f2 100000))
def areFuses (n : Int) (xs : List S39) : Bool := allF (fuseAt n xs) 0 xs.length && (inB n 1 10 && decide ((xs.length : Int) ≤ 20))
theorem rd_fuse (xs : List S39) (i : Nat) : rd_T39 xs (i : Int) = fu_at xs i := by unfold rd_T39 fu_at; rw [Int.toNat_natCast]
theorem spec_fuses (n : Int) (xs : List S39) (hx : xs.length ≤ 4000000) (k : Nat) (hk : xs.length < k) : spec_AreFuses.f k n xs = some (areFuses n xs) := by
 refine all_loop (f := fun k i => spec_AreFuses.l0 k n xs (i : Int)) xs.length (fun k i hi => ?_) (fun k => ?_) xs.length k 0 (by omega) (by omega) (by omega)
 ·show spec_AreFuses.l0 (k + 1) n xs i = _
  simp only [spec_AreFuses.l0, In_eq, Option.bind_some]
  rw [if_pos (by omega), if_pos (by omega), w64 (n := (i : Int) + 1) (by omega), rd_fuse]
  unfold fuseAt
  cases inB (fu_at xs i).f0 0 (wrap64 (n - 1)) <;> cases inB (fu_at xs i).f1 (wrap64 ((fu_at xs i).f0 + 1)) (wrap64 (n - 1)) <;> cases inB (fu_at xs i).f2 0 100000 <;> cases inB (fu_at xs i).f3 (fu_at xs i).f2 100000 <;> rfl
 ·show spec_AreFuses.l0 (k + 1) n xs _ = _
  simp only [spec_AreFuses.l0, In_eq, Option.bind_some]
  rw [if_neg (by omega)]
  cases inB n 1 10 <;> rfl
theorem impl_fuses (n : Int) (xs : List S39) (hx : xs.length ≤ 4000000) (k : Nat) (hk : xs.length + 1 < k) : impl_AreFuses.f k n xs = some (areFuses n xs) := by
 obtain ⟨k, rfl⟩ : ∃ m, k = m + 1 := ⟨k - 1, by omega⟩
 unfold impl_AreFuses.f areFuses
 simp only [impl_AreFuses.j0, Wi_eq, Option.bind_some]
 cases h1 : inB n 1 10 with
 | false => rw [if_neg (by decide), if_pos trivial, Bool.false_and, Bool.and_false]
 | true =>
  rw [if_pos rfl, Bool.true_and]
  by_cases h2 : (xs.length : Int) > 20
  ·rw [if_pos (decide_eq_true h2), decide_eq_false (by omega : ¬ ((xs.length : Int) ≤ 20)), Bool.and_false]
  ·rw [if_neg (by simpa using h2), decide_eq_true (by omega : ((xs.length : Int) ≤ 20))]
   refine all_loop (f := fun k i => impl_AreFuses.l0 k n xs (xs.length : Int) (i : Int)) xs.length (fun k i hi => ?_) (fun k => ?_) xs.length k 0 (by omega) (by omega) (by omega)
   ·show impl_AreFuses.l0 (k + 1) n xs (xs.length : Int) i = _
    simp only [impl_AreFuses.l0, Wi_eq, Option.bind_some]
    rw [if_pos (by omega), if_pos (by omega), if_pos (by omega), w64 (n := (i : Int) + 1) (by omega), rd_fuse]
    unfold fuseAt
    cases inB (fu_at xs i).f0 0 (wrap64 (n - 1)) <;> cases inB (fu_at xs i).f1 (wrap64 ((fu_at xs i).f0 + 1)) (wrap64 (n - 1)) <;> cases inB (fu_at xs i).f2 0 100000 <;> cases inB (fu_at xs i).f3 (fu_at xs i).f2 100000 <;> rfl
   ·show impl_AreFuses.l0 (k + 1) n xs (xs.length : Int) _ = _
    simp only [impl_AreFuses.l0]
    rw [if_neg (by omega)]
end Go.Proofs.Ytlnfjhahnacmiaa.F
namespace Go.Proofs.Ytlnfjhahnacmiaa.F
open Go.RowKit Go.Proofs.YtlnfjhahnacmiaaW.PrintWords Go.Proofs.YtlnfjhahnacmiaaW.PrintLast Go.Proofs.YtlnfjhahnacmiaaW.PrintMore
set_option linter.unusedVariables false
set_option linter.unusedSimpArgs false
theorem areFuses_true {n : Int} {xs : List S39} (h : areFuses n xs = true) : ∃ m : Nat, n = (m : Int) ∧ 1 ≤ m ∧ m ≤ 10 ∧ xs.length ≤ 20 ∧ ∀ i, i < xs.length → 0 ≤ (fu_at xs i).f0 ∧ (fu_at xs i).f0 < (fu_at xs i).f1 ∧ (fu_at xs i).f1 < (m : Int) ∧ 0 ≤ (fu_at xs i).f2 ∧ (fu_at xs i).f2 ≤ (fu_at xs i).f3 ∧ (fu_at xs i).f3 ≤ 100000 := by
 unfold areFuses at h
 rw [Bool.and_eq_true, Bool.and_eq_true, allF_true, inB_true, decide_eq_true_iff] at h
 obtain ⟨h1, h2, h3⟩ := h
 refine ⟨n.toNat, by omega, by omega, by omega, by omega, fun i hi => ?_⟩
 have := h1 i (by omega) (by omega)
 unfold fuseAt at this
 rw [Bool.and_eq_true, Bool.and_eq_true, Bool.and_eq_true, inB_true, inB_true, inB_true, inB_true, w64 (by omega)] at this
 obtain ⟨a, b, c, d⟩ := this
 rw [w64 (by omega)] at b
 omega
theorem fu_mem {xs : List S39} {i : Nat} (h : i < xs.length) : fu_at xs i ∈ xs := by
 unfold fu_at
 rw [List.getD_eq_getElem?_getD, List.getElem?_eq_getElem h]
 exact List.getElem_mem _
end Go.Proofs.Ytlnfjhahnacmiaa.F
namespace Go.Proofs.Ytlnfjhahnacmiaa.F
open Go.RowKit Go.Proofs.YtlnfjhahnacmiaaW.PrintWords Go.Proofs.YtlnfjhahnacmiaaW.PrintLast Go.Proofs.YtlnfjhahnacmiaaW.PrintMore
set_option linter.unusedVariables false
set_option linter.unusedSimpArgs false
def StepE (xs : List S39) (E E' : List Int) (v i : Nat) : Prop :=
 (E' = E ∧ ((fu_at xs i).f1 = (v : Int) → rd E (fu_at xs i).f0 < 0 ∨ (0 ≤ rd E (v : Int) ∧ rd E (v : Int) ≤ wrap64 (rd E (fu_at xs i).f0 + (fu_at xs i).f2)))) ∨
 (E' = E.set v (wrap64 (rd E (fu_at xs i).f0 + (fu_at xs i).f2)) ∧ (fu_at xs i).f1 = (v : Int) ∧ 0 ≤ rd E (fu_at xs i).f0 ∧ (rd E (v : Int) < 0 ∨ wrap64 (rd E (fu_at xs i).f0 + (fu_at xs i).f2) < rd E (v : Int)))
theorem rd_set_eq (E : List Int) (v : Nat) (x : Int) (h : v < E.length) : rd (E.set v x) (v : Int) = x := by
 unfold rd
 rw [Int.toNat_natCast, getD_set _ _ _ _ h]
theorem rd_set_ne (E : List Int) (v : Nat) (x u : Int) (h0 : 0 ≤ u) (h : u ≠ (v : Int)) : rd (E.set v x) u = rd E u := by
 unfold rd
 rw [List.getD_eq_getElem?_getD, List.getD_eq_getElem?_getD, List.getElem?_set_ne (by omega)]
def GoodE (xs : List S39) (E : List Int) (u : Int) (n : Nat) : Prop :=
 rd E u ≤ 100000 * u ∧ (∀ j, j < n → (fu_at xs j).f1 = u → 0 ≤ rd E (fu_at xs j).f0 → 0 ≤ rd E u ∧ rd E u ≤ rd E (fu_at xs j).f0 + (fu_at xs j).f2) ∧
  (0 ≤ rd E u → ∃ j, j < n ∧ (fu_at xs j).f1 = u ∧ 0 ≤ rd E (fu_at xs j).f0 ∧ rd E u = rd E (fu_at xs j).f0 + (fu_at xs j).f2)
def FOk (m : Nat) (xs : List S39) : Prop := ∀ i, i < xs.length → 0 ≤ (fu_at xs i).f0 ∧ (fu_at xs i).f0 < (fu_at xs i).f1 ∧ (fu_at xs i).f1 < (m : Int) ∧ 0 ≤ (fu_at xs i).f2 ∧ (fu_at xs i).f2 ≤ 100000
def PE (m : Nat) (xs : List S39) (v : Nat) (E : List Int) : Prop := E.length = m ∧ rd E 0 = 0 ∧ ∀ u : Int, 0 < u → u < (v : Int) → GoodE xs E u xs.length
def QE (m : Nat) (xs : List S39) (v i : Nat) (E : List Int) : Prop := PE m xs v E ∧ GoodE xs E (v : Int) i
theorem good_set {m : Nat} {xs : List S39} (hf : FOk m xs) {E : List Int} {v : Nat} (x : Int) {u : Int} (h0 : 0 ≤ u) (hu : u < (v : Int)) {n : Nat} (hn : n ≤ xs.length) (h : GoodE xs E u n) : GoodE xs (E.set v x) u n := by
 obtain ⟨a, b, c⟩ := h
 have e : ∀ w : Int, 0 ≤ w → w < (v : Int) → rd (E.set v x) w = rd E w := fun w h1 h2 => rd_set_ne E v x w h1 (by omega)
 refine ⟨by rw [e u h0 hu]; exact a, fun j hj h1 h2 => ?_, fun h1 => ?_⟩
 ·have g := hf j (by omega)
  rw [e _ g.1 (by omega)] at h2 ⊢
  rw [e u h0 hu]
  exact b j hj h1 h2
 ·rw [e u h0 hu] at h1 ⊢
  obtain ⟨j, j1, j2, j3, j4⟩ := c h1
  have g := hf j (by omega)
  exact ⟨j, j1, j2, by rw [e _ g.1 (by omega)]; exact j3, by rw [e _ g.1 (by omega)]; exact j4⟩
theorem pe_set {m : Nat} {xs : List S39} (hf : FOk m xs) {E : List Int} {v : Nat} (hv0 : 0 < v) (x : Int) (h : PE m xs v E) : PE m xs v (E.set v x) := by
 obtain ⟨a, b, c⟩ := h
 refine ⟨by rw [List.length_set]; exact a, by rw [rd_set_ne E v x 0 (by omega) (by omega)]; exact b, fun u h1 h2 => good_set hf x (by omega) h2 (Nat.le_refl _) (c u h1 h2)⟩
theorem qe_start {m : Nat} {xs : List S39} (hf : FOk m xs) {E : List Int} {v : Nat} (hv0 : 0 < v) (hv : v < m) (h : PE m xs v E) : QE m xs v 0 (E.set v (-1)) := by
 have e := rd_set_eq E v (-1) (by rw [h.1]; exact hv)
 refine ⟨pe_set hf hv0 _ h, ⟨by rw [e]; omega, fun j hj => absurd hj (by omega), fun h1 => ?_⟩⟩
 rw [e] at h1; omega
theorem qe_end {m : Nat} {xs : List S39} {E : List Int} {v : Nat} (h : QE m xs v xs.length E) : PE m xs (v + 1) E := by
 obtain ⟨⟨a, b, c⟩, d⟩ := h
 refine ⟨a, b, fun u h1 h2 => ?_⟩
 by_cases e : u = (v : Int)
 ·rw [e]; exact d
 ·exact c u h1 (by omega)
theorem qe_step {m : Nat} {xs : List S39} (hf : FOk m xs) (hm : m ≤ 10) {E E' : List Int} {v i : Nat} (hv0 : 0 < v) (hv : v < m) (hi : i < xs.length) (h : QE m xs v i E) (st : StepE xs E E' v i) : QE m xs v (i + 1) E' := by
 have g := hf i hi
 rcases st with ⟨rfl, st⟩ | ⟨rfl, s1, s2, s3⟩
 ·obtain ⟨p, a, b, c⟩ := h
  refine ⟨p, a, fun j hj h1 h2 => ?_, fun h1 => ?_⟩
  ·by_cases e : j = i
   ·subst e
    rcases st h1 with s | s
    ·omega
    ·have hb : rd E' (fu_at xs j).f0 ≤ 1000000 := by
      rcases Int.lt_or_le 0 (fu_at xs j).f0 with z | z
      ·have := (p.2.2 (fu_at xs j).f0 z (by omega)).1
       omega
      ·have z0 : (fu_at xs j).f0 = 0 := by omega
       have := p.2.1
       rw [z0]; omega
     rw [w64 (by omega)] at s
     exact s
   ·exact b j (by omega) h1 h2
  ·obtain ⟨j, j1, j2⟩ := c h1
   exact ⟨j, by omega, j2⟩
 ·obtain ⟨p, a, b, c⟩ := h
  have hb : rd E (fu_at xs i).f0 ≤ 100000 * (fu_at xs i).f0 := by
   rcases Int.lt_or_le 0 (fu_at xs i).f0 with z | z
   ·exact (p.2.2 (fu_at xs i).f0 z (by omega)).1
   ·have z0 : (fu_at xs i).f0 = 0 := by omega
    have := p.2.1
    rw [z0]; omega
  have hw : wrap64 (rd E (fu_at xs i).f0 + (fu_at xs i).f2) = rd E (fu_at xs i).f0 + (fu_at xs i).f2 := w64 (by omega)
  rw [hw] at s3 ⊢
  have e := rd_set_eq E v (rd E (fu_at xs i).f0 + (fu_at xs i).f2) (by rw [p.1]; exact hv)
  have ne : ∀ w : Int, 0 ≤ w → w < (v : Int) → rd (E.set v (rd E (fu_at xs i).f0 + (fu_at xs i).f2)) w = rd E w := fun w h1 h2 => rd_set_ne E v _ w h1 (by omega)
  refine ⟨pe_set hf hv0 _ p, by rw [e]; omega, fun j hj h1 h2 => ?_, fun _ => ⟨i, by omega, s1, ?_, ?_⟩⟩
  ·have gj := hf j (by omega)
   rw [ne _ gj.1 (by omega)] at h2 ⊢
   rw [e]
   by_cases ej : j = i
   ·subst ej; omega
   ·have := b j (by omega) h1 h2
    omega
  ·rw [ne _ g.1 (by omega)]; exact s2
  ·rw [e, ne _ g.1 (by omega)]
end Go.Proofs.Ytlnfjhahnacmiaa.F
namespace Go.Proofs.Ytlnfjhahnacmiaa.F
open Go.RowKit Go.Proofs.YtlnfjhahnacmiaaW.PrintWords Go.Proofs.YtlnfjhahnacmiaaW.PrintLast Go.Proofs.YtlnfjhahnacmiaaW.PrintMore
set_option linter.unusedVariables false
set_option linter.unusedSimpArgs false
def StepL (xs : List S39) (E L L' : List Int) (v i : Nat) : Prop :=
 (L' = L ∧ ((fu_at xs i).f1 = (v : Int) → rd E (fu_at xs i).f0 < 0 ∨ (0 ≤ rd L (v : Int) ∧ rd L (v : Int) ≤ wrap64 (rd L (fu_at xs i).f0 + (fu_at xs i).f3)))) ∨
 (L' = L.set v (wrap64 (rd L (fu_at xs i).f0 + (fu_at xs i).f3)) ∧ (fu_at xs i).f1 = (v : Int) ∧ 0 ≤ rd E (fu_at xs i).f0 ∧ (rd L (v : Int) < 0 ∨ wrap64 (rd L (fu_at xs i).f0 + (fu_at xs i).f3) < rd L (v : Int)))
theorem tstepl {m : Nat} {xs : List S39} (hx : xs.length ≤ 20) (E L : List Int) (hE : E.length = m) (hL : L.length = m) (v i : Nat) (h0 : 0 < v) (hv : v < m) (hi : i < xs.length) (hf : 0 ≤ (fu_at xs i).f0 ∧ (fu_at xs i).f0 < (m : Int)) :
  ∃ E' L' b, 2 ≤ b ∧ b ≤ 3 ∧ E'.length = m ∧ L'.length = m ∧ StepE xs E E' v i ∧ StepL xs E L L' v i ∧ (∀ k, spec_l10Times.l1 (k + b) (m : Int) xs E L (v : Int) (i : Int) = spec_l10Times.l1 k (m : Int) xs E' L' (v : Int) ((i + 1 : Nat) : Int)) ∧ (∀ k, impl_litTimes.l1 (k + b) (m : Int) xs E L (v : Int) xs (xs.length : Int) (i : Int) = impl_litTimes.l1 k (m : Int) xs E' L' (v : Int) xs (xs.length : Int) ((i + 1 : Nat) : Int)) := by
 have g1 : (i : Int) < (xs.length : Int) := by omega
 have g2 : 0 ≤ (i : Int) := by omega
 have hw : wrap64 ((i : Int) + 1) = ((i + 1 : Nat) : Int) := w64 (by omega)
 have v0 : 0 ≤ (v : Int) := by omega
 have vE : (v : Int) < (E.length : Int) := by omega
 have vL : (v : Int) < (L.length : Int) := by omega
 have fE : (fu_at xs i).f0 < (E.length : Int) := by omega
 have fL : (fu_at xs i).f0 < (L.length : Int) := by omega
 have f0 := hf.1
 have et : ((v : Int)).toNat = v := Int.toNat_natCast v
 have lE : ∀ y, (E.set v y).length = m := fun y => by rw [List.length_set]; exact hE
 have lL : ∀ y, (L.set v y).length = m := fun y => by rw [List.length_set]; exact hL
 by_cases c1 : (fu_at xs i).f1 = (v : Int)
 ·by_cases c2 : rd E (fu_at xs i).f0 < 0
  ·refine ⟨E, L, 2, by omega, by omega, hE, hL, .inl ⟨rfl, fun _ => .inl c2⟩, (.inl ⟨rfl, fun _ => .inl c2⟩), fun k => ?_, fun k => ?_⟩
   ·simp only [spec_l10Times.l1, spec_l10Times.j2, rd_fuse, if_pos g1, if_pos g2, if_pos c1, if_pos f0, if_pos fE, decide_eq_true c2, if_true, hw]
   ·simp only [impl_litTimes.l1, impl_litTimes.j2, rd_fuse, if_pos g1, if_pos g2, if_pos c1, if_pos f0, if_pos fE, decide_eq_true c2, if_true, hw]
  ·-- the early time
   by_cases c3 : rd E (v : Int) < 0 ∨ wrap64 (rd E (fu_at xs i).f0 + (fu_at xs i).f2) < rd E (v : Int)
   ·by_cases c4 : rd L (v : Int) < 0 ∨ wrap64 (rd L (fu_at xs i).f0 + (fu_at xs i).f3) < rd L (v : Int)
    ·refine ⟨E.set v (wrap64 (rd E (fu_at xs i).f0 + (fu_at xs i).f2)), L.set v (wrap64 (rd L (fu_at xs i).f0 + (fu_at xs i).f3)), 3, by omega, by omega, lE _, lL _, (.inr ⟨rfl, c1, by omega, c3⟩), (.inr ⟨rfl, c1, by omega, c4⟩), fun k => ?_, fun k => ?_⟩
     ·rcases Classical.em (rd E (v : Int) < 0) with d3 | d3 <;> rcases Classical.em (rd L (v : Int) < 0) with d4 | d4 <;>
       simp only [d3, d4, false_or, true_or] at c3 c4 <;>
       simp only [spec_l10Times.l1, spec_l10Times.j2, spec_l10Times.j3, rd_fuse, if_pos g1, if_pos g2, if_pos c1, if_pos f0, if_pos fE, if_pos fL, if_pos vE, if_pos vL, if_pos v0, decide_eq_false c2, d3, d4, c3, c4, decide_true, if_true, if_false, Bool.false_eq_true, hw, et, Option.bind_some]
     ·rcases Classical.em (rd E (v : Int) < 0) with d3 | d3 <;> rcases Classical.em (rd L (v : Int) < 0) with d4 | d4 <;>
       simp only [d3, d4, false_or, true_or] at c3 c4 <;>
       simp only [impl_litTimes.l1, impl_litTimes.j2, impl_litTimes.j3, rd_fuse, if_pos g1, if_pos g2, if_pos c1, if_pos f0, if_pos fE, if_pos fL, if_pos vE, if_pos vL, if_pos v0, decide_eq_false c2, d3, d4, c3, c4, decide_true, if_true, if_false, Bool.false_eq_true, hw, et, Option.bind_some]
    ·rw [not_or] at c4
     refine ⟨E.set v (wrap64 (rd E (fu_at xs i).f0 + (fu_at xs i).f2)), L, 3, by omega, by omega, lE _, hL, (.inr ⟨rfl, c1, by omega, c3⟩), (.inl ⟨rfl, fun _ => .inr (by omega)⟩), fun k => ?_, fun k => ?_⟩
     ·rcases Classical.em (rd E (v : Int) < 0) with d3 | d3 <;>
       simp only [d3, false_or, true_or] at c3 <;>
       simp only [spec_l10Times.l1, spec_l10Times.j2, spec_l10Times.j3, rd_fuse, if_pos g1, if_pos g2, if_pos c1, if_pos f0, if_pos fE, if_pos fL, if_pos vE, if_pos vL, if_pos v0, decide_eq_false c2, d3, c3, c4.1, c4.2, decide_true, if_true, if_false, Bool.false_eq_true, hw, et, Option.bind_some]
     ·rcases Classical.em (rd E (v : Int) < 0) with d3 | d3 <;>
       simp only [d3, false_or, true_or] at c3 <;>
       simp only [impl_litTimes.l1, impl_litTimes.j2, impl_litTimes.j3, rd_fuse, if_pos g1, if_pos g2, if_pos c1, if_pos f0, if_pos fE, if_pos fL, if_pos vE, if_pos vL, if_pos v0, decide_eq_false c2, d3, c3, c4.1, c4.2, decide_true, if_true, if_false, Bool.false_eq_true, hw, et, Option.bind_some]
   ·rw [not_or] at c3
    by_cases c4 : rd L (v : Int) < 0 ∨ wrap64 (rd L (fu_at xs i).f0 + (fu_at xs i).f3) < rd L (v : Int)
    ·refine ⟨E, L.set v (wrap64 (rd L (fu_at xs i).f0 + (fu_at xs i).f3)), 3, by omega, by omega, hE, lL _, (.inl ⟨rfl, fun _ => .inr (by omega)⟩), (.inr ⟨rfl, c1, by omega, c4⟩), fun k => ?_, fun k => ?_⟩
     ·rcases Classical.em (rd L (v : Int) < 0) with d4 | d4 <;>
       simp only [d4, false_or, true_or] at c4 <;>
       simp only [spec_l10Times.l1, spec_l10Times.j2, spec_l10Times.j3, rd_fuse, if_pos g1, if_pos g2, if_pos c1, if_pos f0, if_pos fE, if_pos fL, if_pos vE, if_pos vL, if_pos v0, decide_eq_false c2, c3.1, c3.2, d4, c4, decide_true, decide_false, if_true, if_false, Bool.false_eq_true, hw, et, Option.bind_some]
     ·rcases Classical.em (rd L (v : Int) < 0) with d4 | d4 <;>
       simp only [d4, false_or, true_or] at c4 <;>
       simp only [impl_litTimes.l1, impl_litTimes.j2, impl_litTimes.j3, rd_fuse, if_pos g1, if_pos g2, if_pos c1, if_pos f0, if_pos fE, if_pos fL, if_pos vE, if_pos vL, if_pos v0, decide_eq_false c2, c3.1, c3.2, d4, c4, decide_true, decide_false, if_true, if_false, Bool.false_eq_true, hw, et, Option.bind_some]
    ·rw [not_or] at c4
     refine ⟨E, L, 3, by omega, by omega, hE, hL, (.inl ⟨rfl, fun _ => .inr (by omega)⟩), (.inl ⟨rfl, fun _ => .inr (by omega)⟩), fun k => ?_, fun k => ?_⟩
     ·simp only [spec_l10Times.l1, spec_l10Times.j2, spec_l10Times.j3, rd_fuse, if_pos g1, if_pos g2, if_pos c1, if_pos f0, if_pos fE, if_pos fL, if_pos vE, if_pos vL, if_pos v0, decide_eq_false c2, c3.1, c3.2, c4.1, c4.2, decide_true, decide_false, if_true, if_false, Bool.false_eq_true, hw, et, Option.bind_some]
     ·simp only [impl_litTimes.l1, impl_litTimes.j2, impl_litTimes.j3, rd_fuse, if_pos g1, if_pos g2, if_pos c1, if_pos f0, if_pos fE, if_pos fL, if_pos vE, if_pos vL, if_pos v0, decide_eq_false c2, c3.1, c3.2, c4.1, c4.2, decide_true, decide_false, if_true, if_false, Bool.false_eq_true, hw, et, Option.bind_some]
 ·refine ⟨E, L, 2, by omega, by omega, hE, hL, .inl ⟨rfl, fun h => absurd h c1⟩, (.inl ⟨rfl, fun h => absurd h c1⟩), fun k => ?_, fun k => ?_⟩
  ·simp only [spec_l10Times.l1, spec_l10Times.j2, rd_fuse, if_pos g1, if_pos g2, if_neg c1, if_true, hw]
  ·simp only [impl_litTimes.l1, impl_litTimes.j2, rd_fuse, if_pos g1, if_pos g2, if_neg c1, if_true, hw]
def GoodL (xs : List S39) (E L : List Int) (u : Int) (n : Nat) : Prop :=
 rd L u ≤ 100000 * u ∧ (∀ j, j < n → (fu_at xs j).f1 = u → 0 ≤ rd E (fu_at xs j).f0 → 0 ≤ rd L u ∧ rd L u ≤ rd L (fu_at xs j).f0 + (fu_at xs j).f3) ∧
  (0 ≤ rd L u → ∃ j, j < n ∧ (fu_at xs j).f1 = u ∧ 0 ≤ rd E (fu_at xs j).f0 ∧ rd L u = rd L (fu_at xs j).f0 + (fu_at xs j).f3)
def FOl (m : Nat) (xs : List S39) : Prop := FOk m xs ∧ ∀ i, i < xs.length → (fu_at xs i).f2 ≤ (fu_at xs i).f3 ∧ (fu_at xs i).f3 ≤ 100000
def PL (m : Nat) (xs : List S39) (v : Nat) (E L : List Int) : Prop := PE m xs v E ∧ L.length = m ∧ rd L 0 = 0 ∧ ∀ u : Int, 0 < u → u < (v : Int) → GoodL xs E L u xs.length
def QL (m : Nat) (xs : List S39) (v i : Nat) (E L : List Int) : Prop := QE m xs v i E ∧ PL m xs v E L ∧ GoodL xs E L (v : Int) i
theorem goodl_set {m : Nat} {xs : List S39} (hf : FOk m xs) {E L : List Int} {v : Nat} (x y : Int) {u : Int} (h0 : 0 ≤ u) (hu : u < (v : Int)) {n : Nat} (hn : n ≤ xs.length) (h : GoodL xs E L u n) : GoodL xs (E.set v x) (L.set v y) u n := by
 obtain ⟨a, b, c⟩ := h
 have e : ∀ w : Int, 0 ≤ w → w < (v : Int) → rd (L.set v y) w = rd L w := fun w h1 h2 => rd_set_ne L v y w h1 (by omega)
 have e' : ∀ w : Int, 0 ≤ w → w < (v : Int) → rd (E.set v x) w = rd E w := fun w h1 h2 => rd_set_ne E v x w h1 (by omega)
 refine ⟨by rw [e u h0 hu]; exact a, fun j hj h1 h2 => ?_, fun h1 => ?_⟩
 ·have g := hf j (by omega)
  rw [e' _ g.1 (by omega)] at h2
  rw [e _ g.1 (by omega), e u h0 hu]
  exact b j hj h1 h2
 ·rw [e u h0 hu] at h1 ⊢
  obtain ⟨j, j1, j2, j3, j4⟩ := c h1
  have g := hf j (by omega)
  exact ⟨j, j1, j2, by rw [e' _ g.1 (by omega)]; exact j3, by rw [e _ g.1 (by omega)]; exact j4⟩
theorem goodl_congr {m : Nat} {xs : List S39} (hf : FOk m xs) {E E' L L' : List Int} {v : Nat} (he : ∀ w : Int, 0 ≤ w → w < (v : Int) → rd E' w = rd E w) (hl : ∀ w : Int, 0 ≤ w → w < (v : Int) → rd L' w = rd L w) {u : Int} (h0 : 0 ≤ u) (hu : u < (v : Int)) {n : Nat} (hn : n ≤ xs.length) (h : GoodL xs E L u n) : GoodL xs E' L' u n := by
 obtain ⟨a, b, c⟩ := h
 refine ⟨by rw [hl u h0 hu]; exact a, fun j hj h1 h2 => ?_, fun h1 => ?_⟩
 ·have g := hf j (by omega)
  rw [he _ g.1 (by omega)] at h2
  rw [hl _ g.1 (by omega), hl u h0 hu]
  exact b j hj h1 h2
 ·rw [hl u h0 hu] at h1 ⊢
  obtain ⟨j, j1, j2, j3, j4⟩ := c h1
  have g := hf j (by omega)
  exact ⟨j, j1, j2, by rw [he _ g.1 (by omega)]; exact j3, by rw [hl _ g.1 (by omega)]; exact j4⟩
theorem pl_pos {m : Nat} {xs : List S39} (hf : FOk m xs) {v : Nat} {E L : List Int} (h : PL m xs v E L) {u : Int} (h0 : 0 ≤ u) (hu : u < (v : Int)) (he : 0 ≤ rd E u) : 0 ≤ rd L u ∧ rd L u ≤ 100000 * u := by
 rcases Int.lt_or_le 0 u with z | z
 ·obtain ⟨j, j1, j2, j3, j4⟩ := (h.1.2.2 u z hu).2.2 he
  have g := h.2.2.2 u z hu
  exact ⟨(g.2.1 j j1 j2 j3).1, g.1⟩
 ·have e : u = 0 := by omega
  subst e
  have := h.2.2.1
  omega
theorem ql_start {m : Nat} {xs : List S39} (hf : FOk m xs) {E L : List Int} {v : Nat} (hv0 : 0 < v) (hv : v < m) (h : PL m xs v E L) : QL m xs v 0 (E.set v (-1)) (L.set v (-1)) := by
 have e := rd_set_eq L v (-1) (by rw [h.2.1]; exact hv)
 have q := qe_start hf hv0 hv h.1
 refine ⟨q, ⟨q.1, by rw [List.length_set]; exact h.2.1, by rw [rd_set_ne L v _ 0 (by omega) (by omega)]; exact h.2.2.1, fun u h1 h2 => goodl_set hf _ _ (by omega) h2 (Nat.le_refl _) (h.2.2.2 u h1 h2)⟩, ⟨by rw [e]; omega, fun j hj => absurd hj (by omega), fun h1 => ?_⟩⟩
 rw [e] at h1; omega
theorem ql_end {m : Nat} {xs : List S39} {E L : List Int} {v : Nat} (h : QL m xs v xs.length E L) : PL m xs (v + 1) E L := by
 obtain ⟨q, ⟨p, a, b, c⟩, d⟩ := h
 refine ⟨qe_end q, a, b, fun u h1 h2 => ?_⟩
 by_cases e : u = (v : Int)
 ·rw [e]; exact d
 ·exact c u h1 (by omega)
theorem ql_step {m : Nat} {xs : List S39} (hf : FOl m xs) (hm : m ≤ 10) {E E' L L' : List Int} {v i : Nat} (hv0 : 0 < v) (hv : v < m) (hi : i < xs.length) (h : QL m xs v i E L) (st : StepE xs E E' v i) (sl : StepL xs E L L' v i) : QL m xs v (i + 1) E' L' := by
 have g := hf.1 i hi
 have g' := hf.2 i hi
 obtain ⟨q, p, a, b, c⟩ := h
 have q' := qe_step hf.1 hm hv0 hv hi q st
 have he : ∀ w : Int, 0 ≤ w → w < (v : Int) → rd E' w = rd E w := fun w h1 h2 => by
  rcases st with ⟨rfl, _⟩ | ⟨rfl, _⟩
  ·rfl
  ·exact rd_set_ne E v _ w h1 (by omega)
 have hl : ∀ w : Int, 0 ≤ w → w < (v : Int) → rd L' w = rd L w := fun w h1 h2 => by
  rcases sl with ⟨rfl, _⟩ | ⟨rfl, _⟩
  ·rfl
  ·exact rd_set_ne L v _ w h1 (by omega)
 have ll : L'.length = m := by
  rcases sl with ⟨rfl, _⟩ | ⟨rfl, _⟩
  ·exact p.2.1
  ·rw [List.length_set]; exact p.2.1
 refine ⟨q', ⟨q'.1, ll, by rw [hl 0 (by omega) (by omega)]; exact p.2.2.1, fun u h1 h2 => goodl_congr hf.1 he hl (by omega) h2 (Nat.le_refl _) (p.2.2.2 u h1 h2)⟩, ?_⟩
 -- node v itself
 have pos : (fu_at xs i).f1 = (v : Int) → 0 ≤ rd E (fu_at xs i).f0 → 0 ≤ rd L (fu_at xs i).f0 ∧ rd L (fu_at xs i).f0 ≤ 100000 * (fu_at xs i).f0 := fun h1 h2 => pl_pos hf.1 p g.1 (by omega) h2
 rcases sl with ⟨rfl, st⟩ | ⟨rfl, s1, s2, s3⟩
 ·refine ⟨a, fun j hj h1 h2 => ?_, fun h1 => ?_⟩
  ·have gj := hf.1 j (by omega)
   rw [he _ gj.1 (by omega)] at h2
   by_cases e : j = i
   ·subst e
    have := pos h1 h2
    rcases st h1 with s | s
    ·omega
    ·rw [w64 (by omega)] at s
     exact s
   ·exact b j (by omega) h1 h2
  ·obtain ⟨j, j1, j2, j3, j4⟩ := c h1
   have gj := hf.1 j (by omega)
   exact ⟨j, by omega, j2, by rw [he _ gj.1 (by omega)]; exact j3, j4⟩
 ·have ps := pos s1 s2
  have hw : wrap64 (rd L (fu_at xs i).f0 + (fu_at xs i).f3) = rd L (fu_at xs i).f0 + (fu_at xs i).f3 := w64 (by omega)
  rw [hw] at s3 hl ⊢
  have e := rd_set_eq L v (rd L (fu_at xs i).f0 + (fu_at xs i).f3) (by rw [p.2.1]; exact hv)
  clear hw
  refine ⟨by rw [e]; omega, fun j hj h1 h2 => ?_, fun _ => ⟨i, by omega, s1, ?_, ?_⟩⟩
  ·have gj := hf.1 j (by omega)
   rw [he _ gj.1 (by omega)] at h2
   rw [hl _ gj.1 (by omega), e]
   by_cases ej : j = i
   ·subst ej; omega
   ·have := b j (by omega) h1 h2
    omega
  ·rw [he _ g.1 (by omega)]; exact s2
  ·rw [e, hl _ g.1 (by omega)]
theorem timesl_in {m : Nat} {xs : List S39} (hx : xs.length ≤ 20) (hm : m ≤ 10) (hf : FOl m xs) (v : Nat) (h0 : 0 < v) (hv : v < m)
  (hnext : ∀ E L : List Int, E.length = m → L.length = m → PL m xs (v + 1) E L → ∃ E' L' : List Int, E'.length = m ∧ L'.length = m ∧ PL m xs m E' L' ∧ Evt (fun k => spec_l10Times.l0 k (m : Int) xs E L ((v + 1 : Nat) : Int) = some (E', L')) ∧ Evt (fun k => impl_litTimes.l0 k (m : Int) xs E L ((v + 1 : Nat) : Int) = some (E', L'))) :
  ∀ (d i : Nat) (E L : List Int), xs.length - i = d → i ≤ xs.length → E.length = m → L.length = m → QL m xs v i E L → ∃ E' L' : List Int, E'.length = m ∧ L'.length = m ∧ PL m xs m E' L' ∧ Evt (fun k => spec_l10Times.l1 k (m : Int) xs E L (v : Int) (i : Int) = some (E', L')) ∧ Evt (fun k => impl_litTimes.l1 k (m : Int) xs E L (v : Int) xs (xs.length : Int) (i : Int) = some (E', L')) := by
 intro d
 induction d with
 | zero =>
  intro i E L hd hi hE hL hq
  have e : i = xs.length := by omega
  subst e
  obtain ⟨E', L', e1, e2, e3, ⟨K, hs⟩, ⟨K', ht⟩⟩ := hnext E L hE hL (ql_end hq)
  refine ⟨E', L', e1, e2, e3, ⟨K + 1, fun k hk => ?_⟩, ⟨K' + 1, fun k hk => ?_⟩⟩
  ·obtain ⟨k, rfl⟩ : ∃ m, k = m + 1 := ⟨k - 1, by omega⟩
   show spec_l10Times.l1 (k + 1) (m : Int) xs E L (v : Int) (xs.length : Int) = _
   simp only [spec_l10Times.l1]
   rw [if_neg (by omega), w64 (by omega)]
   exact hs k (by omega)
  ·obtain ⟨k, rfl⟩ : ∃ m, k = m + 1 := ⟨k - 1, by omega⟩
   show impl_litTimes.l1 (k + 1) (m : Int) xs E L (v : Int) xs (xs.length : Int) (xs.length : Int) = _
   simp only [impl_litTimes.l1]
   rw [if_neg (by omega), w64 (by omega)]
   exact ht k (by omega)
 | succ d ih =>
  intro i E L hd hi hE hL hq
  have g := hf.1 i (by omega)
  obtain ⟨E1, L1, b, b2, b3, l1, l2, l3, l4, f1, f2⟩ := tstepl hx E L hE hL v i h0 hv (by omega) ⟨g.1, by omega⟩
  obtain ⟨E', L', e1, e2, e3, ⟨K, hs⟩, ⟨K', ht⟩⟩ := ih (i + 1) E1 L1 (by omega) (by omega) l1 l2 (ql_step hf hm h0 hv (by omega) hq l3 l4)
  refine ⟨E', L', e1, e2, e3, ⟨K + b, fun k hk => ?_⟩, ⟨K' + b, fun k hk => ?_⟩⟩
  ·obtain ⟨k, rfl⟩ : ∃ m, k = m + b := ⟨k - b, by omega⟩
   exact (f1 k).trans (hs k (by omega))
  ·obtain ⟨k, rfl⟩ : ∃ m, k = m + b := ⟨k - b, by omega⟩
   exact (f2 k).trans (ht k (by omega))
theorem timesl_out {m : Nat} {xs : List S39} (hx : xs.length ≤ 20) (hm : m ≤ 10) (hf : FOl m xs) :
  ∀ (d v : Nat) (E L : List Int), m - v = d → 0 < v → v ≤ m → E.length = m → L.length = m → PL m xs v E L → ∃ E' L' : List Int, E'.length = m ∧ L'.length = m ∧ PL m xs m E' L' ∧ Evt (fun k => spec_l10Times.l0 k (m : Int) xs E L (v : Int) = some (E', L')) ∧ Evt (fun k => impl_litTimes.l0 k (m : Int) xs E L (v : Int) = some (E', L')) := by
 intro d
 induction d with
 | zero =>
  intro v E L hd hv hvm hE hL hp
  have e : v = m := by omega
  subst e
  refine ⟨E, L, hE, hL, hp, ⟨1, fun k hk => ?_⟩, ⟨1, fun k hk => ?_⟩⟩
  ·obtain ⟨k, rfl⟩ : ∃ m, k = m + 1 := ⟨k - 1, by omega⟩
   show spec_l10Times.l0 (k + 1) (v : Int) xs E L (v : Int) = _
   simp only [spec_l10Times.l0]
   rw [if_neg (by omega)]
  ·obtain ⟨k, rfl⟩ : ∃ m, k = m + 1 := ⟨k - 1, by omega⟩
   show impl_litTimes.l0 (k + 1) (v : Int) xs E L (v : Int) = _
   simp only [impl_litTimes.l0]
   rw [if_neg (by omega)]
 | succ d ih =>
  intro v E L hd hv hvm hE hL hp
  obtain ⟨E', L', e1, e2, e3, ⟨K, hs⟩, ⟨K', ht⟩⟩ := timesl_in hx hm hf v hv (by omega) (fun E L a b c => ih (v + 1) E L (by omega) (by omega) (by omega) a b c) xs.length 0 (E.set v (-1)) (L.set v (-1)) (by omega) (by omega) (by rw [List.length_set]; exact hE) (by rw [List.length_set]; exact hL) (ql_start hf.1 hv (by omega) hp)
  refine ⟨E', L', e1, e2, e3, ⟨K + 1, fun k hk => ?_⟩, ⟨K' + 1, fun k hk => ?_⟩⟩
  ·obtain ⟨k, rfl⟩ : ∃ m, k = m + 1 := ⟨k - 1, by omega⟩
   show spec_l10Times.l0 (k + 1) (m : Int) xs E L (v : Int) = _
   simp only [spec_l10Times.l0]
   rw [if_pos (by omega), if_pos (by omega), if_pos (by omega), if_pos (by omega), Int.toNat_natCast]
   exact hs k (by omega)
  ·obtain ⟨k, rfl⟩ : ∃ m, k = m + 1 := ⟨k - 1, by omega⟩
   show impl_litTimes.l0 (k + 1) (m : Int) xs E L (v : Int) = _
   simp only [impl_litTimes.l0]
   rw [if_pos (by omega), if_pos (by omega), if_pos (by omega), if_pos (by omega), Int.toNat_natCast]
   exact ht k (by omega)
theorem timesl_is {n : Int} {xs : List S39} (h : areFuses n xs = true) : ∃ (m : Nat) (E L : List Int), n = (m : Int) ∧ 1 ≤ m ∧ m ≤ 10 ∧ xs.length ≤ 20 ∧ FOl m xs ∧ E.length = m ∧ L.length = m ∧ PL m xs m E L ∧ Evt (fun k => spec_l10Times.f k n xs = some (E, L)) ∧ Evt (fun k => impl_litTimes.f k n xs = some (E, L)) := by
 obtain ⟨m, rfl, h1, h2, h3, h4⟩ := areFuses_true h
 have hf : FOl m xs := ⟨fun i hi => by have := h4 i hi; omega, fun i hi => by have := h4 i hi; omega⟩
 obtain ⟨E, L, e1, e2, e3, ⟨K, hs⟩, ⟨K', ht⟩⟩ := timesl_out h3 h2 hf (m - 1) 1 (List.replicate m 0) (List.replicate m 0) (by omega) (by omega) (by omega) (by simp) (by simp) ⟨⟨by simp, by cases m <;> rfl, fun u h1 h2 => absurd h2 (by omega)⟩, by simp, by cases m <;> rfl, fun u h1 h2 => absurd h2 (by omega)⟩
 refine ⟨m, E, L, rfl, h1, h2, h3, hf, e1, e2, e3, ⟨K, fun k hk => ?_⟩, ⟨K', fun k hk => ?_⟩⟩
 ·show spec_l10Times.f k (m : Int) xs = _
  unfold spec_l10Times.f
  rw [if_pos (by omega), if_pos (by omega), Int.toNat_natCast]
  exact hs k hk
 ·show impl_litTimes.f k (m : Int) xs = _
  unfold impl_litTimes.f
  rw [if_pos (by omega), if_pos (by omega), Int.toNat_natCast]
  exact ht k hk
end Go.Proofs.Ytlnfjhahnacmiaa.F
namespace Go.Proofs.Ytlnfjhahnacmiaa.F
open Go.RowKit Go.Proofs.YtlnfjhahnacmiaaW.PrintWords Go.Proofs.YtlnfjhahnacmiaaW.PrintLast Go.Proofs.YtlnfjhahnacmiaaW.PrintMore
set_option linter.unusedVariables false
set_option linter.unusedSimpArgs false
def cdo (E : List Int) (m : Nat) (a : Int) : Int := if inB a 0 ((m : Int) - 1) = true then (if rd E a < 0 then 4 else 0) else 2
theorem spec_code {m : Nat} {xs : List S39} (h : areFuses (m : Int) xs = true) (h1 : 1 ≤ m) (h2 : m ≤ 10) (hx : xs.length ≤ 20) {E L : List Int} (hE : E.length = m) {K : Nat} (hs : ∀ k, K ≤ k → spec_l10Times.f k (m : Int) xs = some (E, L)) (a : Int) (k : Nat) (hk : K + 30 ≤ k) : spec_l10Code.f k (m : Int) xs a = some (cdo E m a) := by
 have hw : wrap64 ((m : Int) - 1) = (m : Int) - 1 := w64 (by omega)
 unfold spec_l10Code.f cdo
 rw [spec_fuses _ xs (by omega) k (by omega), h]
 simp only [Option.bind_some, In_eq, hw, if_true]
 cases g : inB a 0 ((m : Int) - 1) with
 | false => rfl
 | true =>
  rw [inB_true] at g
  simp only [if_true]
  rw [hs k (by omega)]
  simp only [Option.bind_some]
  rw [if_pos (by omega), if_pos (by omega)]
  by_cases c : rd E a < 0
  ·rw [if_pos c, if_pos c]
  ·rw [if_neg c, if_neg c]
theorem impl_code1 {m : Nat} {xs : List S39} (h : areFuses (m : Int) xs = true) (h1 : 1 ≤ m) (h2 : m ≤ 10) (hx : xs.length ≤ 20) {E L : List Int} (hE : E.length = m) {K : Nat} (ht : ∀ k, K ≤ k → impl_litTimes.f k (m : Int) xs = some (E, L)) (a : Int) (k : Nat) (hk : K + 30 ≤ k) : impl_nodeAsked.f k (m : Int) xs [a] = some (cdo E m a) := by
 have hw : wrap64 ((m : Int) - 1) = (m : Int) - 1 := w64 (by omega)
 have w1 : wrap64 (0 + 1) = 1 := w64 (by omega)
 have r0 : rd [a] 0 = a := rfl
 obtain ⟨k, rfl⟩ : ∃ m, k = m + 6 := ⟨k - 6, by omega⟩
 unfold impl_nodeAsked.f cdo
 rw [impl_fuses _ xs (by omega) (k + 6) (by omega), h]
 have l1 : ([a] : List Int).length = 1 := rfl
 simp only [Option.bind_some, if_true, impl_nodeAsked.l0, Wi_eq, hw, l1, w1, r0]
 rw [if_pos (by omega), if_pos (by omega), if_pos (by omega)]
 cases g : inB a 0 ((m : Int) - 1) with
 | false => rfl
 | true =>
  rw [inB_true] at g
  simp only [if_true]
  rw [if_neg (by omega), ht (k + 4) (by omega)]
  simp only [Option.bind_some, impl_nodeAsked.l1, r0, w1, l1]
  rw [if_pos (by omega), if_pos (by omega), if_pos (by omega), if_pos (by omega), if_pos (by omega)]
  by_cases c : rd E a < 0
  ·rw [if_pos c, if_pos c]
  ·rw [if_neg c, if_neg c, if_neg (by omega)]
theorem cdo_in {E : List Int} {m : Nat} {a : Int} (h : cdo E m a = 0) : 0 ≤ a ∧ a < (m : Int) := by
 unfold cdo at h
 by_cases g : inB a 0 ((m : Int) - 1) = true
 ·rw [inB_true] at g; omega
 ·rw [if_neg g] at h; omega
theorem cdo_cases (E : List Int) (m : Nat) (a : Int) : cdo E m a = 0 ∨ cdo E m a = 2 ∨ cdo E m a = 4 := by
 unfold cdo
 split
 ·split
  ·exact .inr (.inr rfl)
  ·exact .inl rfl
 ·exact .inr (.inl rfl)
end Go.Proofs.Ytlnfjhahnacmiaa.F
namespace Go.Proofs.Ytlnfjhahnacmiaa.F
open Go.RowKit Go.Proofs.YtlnfjhahnacmiaaW.PrintWords Go.Proofs.YtlnfjhahnacmiaaW.PrintLast Go.Proofs.YtlnfjhahnacmiaaW.PrintMore
attribute [local go_sem] max2_int min2_int max_two min_two max_three min_three max_four min_four   -- for this text's walks alone
set_option linter.unusedVariables false
set_option linter.unusedSimpArgs false
def spec_l10Without.f (l0 : List (S39)) (a1 : Int) : Option ((List (S39))) := (some (([] : List (S39)) : List (S39))).bind fun y313 => (if 0 ≤ a1 then (if a1 ≤ (l0.length : Int) then ((some (l0.take (a1 : Int).toNat : List (S39))).bind fun y316 => (if y313.length + y316.length < 4398046511104 then ((some (y313 ++ y316 : List (S39))).bind fun y320 => (if 0 ≤ (wrap64 (a1 + 1)) then (if (wrap64 (a1 + 1)) ≤ (l0.length : Int) then ((some (l0.drop ((wrap64 (a1 + 1)) : Int).toNat : List (S39))).bind fun y323 => (if y320.length + y323.length < 4398046511104 then (some (y320 ++ y323)) else (none))) else (none)) else (none))) else (none))) else (none)) else (none))
def spec_l10Without.T1 : Bool × List (List Nat × List Nat) := (true, [([], []), ([], []), ([], []), ([1, 2], [1, 2]), ([0, 3], [0, 3]), ([], []), ([], []), ([6], [6]), ([5, 7], [5, 7]), ([4, 8, 4], [4, 8]), ([9, 9, 0, 1, 2, 3, 4, 5, 6, 7, 8, 9], [9])])
def spec_l10Without.B1 : List Nat := [0, 0, 0, 6, 15, 0, 0, 64, 224, 511, 1023]
theorem spec_l10Without.tab1 : rtab .any (opsOf Try.f39 1) = spec_l10Without.T1 := by kernel_rfl
theorem spec_l10Without.bits1 : waitsOk spec_l10Without.T1.2 spec_l10Without.B1 = true := by kernel_rfl
set_option maxHeartbeats 8000000 in
set_option maxRecDepth 100000 in
theorem spec_l10Without.calls (A0 : Option Addr) (c0 : Nat) (l0 : List (S39)) (a1 : Int) (r : List (S39)) (w : World) (hr0 : Kd.C k39 w A0 l0.length l0) (hc0 : l0.length ≤ c0) (h : spec_l10Without.f l0 a1 = some r) :
  Calls Try.prog 39 #[.slice A0 l0.length c0, .int .i64 a1] w fun e w' => ∃ v0_ : Value, e = .returned (v0_) ∧ Kd.R k39 39 w' w.heap.size (fun _ => True) v0_ r ∧ Below w.heap.size w w' := by
 have HR0 := Aside0.mk hr0
 have HC0 := Aside0.mk hc0
 clear hr0 hc0
 have HB := Aside0.mk (Below.refl w.heap.size w)
 have H : ((some (([] : List (S39)) : List (S39))).bind fun y313 => (if 0 ≤ a1 then (if a1 ≤ (l0.length : Int) then ((some (l0.take (a1 : Int).toNat : List (S39))).bind fun y316 => (if y313.length + y316.length < 4398046511104 then ((some (y313 ++ y316 : List (S39))).bind fun y320 => (if 0 ≤ (wrap64 (a1 + 1)) then (if (wrap64 (a1 + 1)) ≤ (l0.length : Int) then ((some (l0.drop ((wrap64 (a1 + 1)) : Int).toNat : List (S39))).bind fun y323 => (if y320.length + y323.length < 4398046511104 then (some (y320 ++ y323)) else (none))) else (none)) else (none))) else (none))) else (none)) else (none))) = some r := h
 clear h
 obtain ⟨y313, hy313⟩ : ∃ y_ : List (S39), y_ = (([] : List (S39))) := ⟨_, rfl⟩
 replace H : (if 0 ≤ a1 then (if a1 ≤ (l0.length : Int) then ((some (l0.take (a1 : Int).toNat : List (S39))).bind fun y316 => (if y313.length + y316.length < 4398046511104 then ((some (y313 ++ y316 : List (S39))).bind fun y320 => (if 0 ≤ (wrap64 (a1 + 1)) then (if (wrap64 (a1 + 1)) ≤ (l0.length : Int) then ((some (l0.drop ((wrap64 (a1 + 1)) : Int).toNat : List (S39))).bind fun y323 => (if y320.length + y323.length < 4398046511104 then (some (y320 ++ y323)) else (none))) else (none)) else (none))) else (none))) else (none)) else (none)) = some r := by first | (rw [hy313]; with_reducible exact H) | (have H2_ := (Option.bind_some _ _).symm.trans H; rw [hy313]; with_reducible exact H2_) | (have H2_ := (Option.bind_some _ _).symm.trans H; with_reducible exact H2_) | with_reducible exact H | (rw [hy313]; exact H) | exact H
 have Ny313 := Aside0.mk hy313
 clear hy313
 by_cases c3 : 0 ≤ a1
 ·rw [if_pos c3] at H
  have c3b0 := eq_true c3
  have c3b1 : decide (0 ≤ a1) = true := decide_eq_true c3
  clear c3
  by_cases c4 : a1 ≤ (l0.length : Int)
  ·rw [if_pos c4] at H
   have c4b0 := eq_true c4
   have c4b1 : decide (a1 ≤ (l0.length : Int)) = true := decide_eq_true c4
   clear c4
   obtain ⟨y316, hy316⟩ : ∃ y_ : List (S39), y_ = (l0.take (a1 : Int).toNat) := ⟨_, rfl⟩
   replace H : (if y313.length + y316.length < 4398046511104 then ((some (y313 ++ y316 : List (S39))).bind fun y320 => (if 0 ≤ (wrap64 (a1 + 1)) then (if (wrap64 (a1 + 1)) ≤ (l0.length : Int) then ((some (l0.drop ((wrap64 (a1 + 1)) : Int).toNat : List (S39))).bind fun y323 => (if y320.length + y323.length < 4398046511104 then (some (y320 ++ y323)) else (none))) else (none)) else (none))) else (none)) = some r := by first | (rw [hy316]; with_reducible exact H) | (have H2_ := (Option.bind_some _ _).symm.trans H; rw [hy316]; with_reducible exact H2_) | (have H2_ := (Option.bind_some _ _).symm.trans H; with_reducible exact H2_) | with_reducible exact H | (rw [hy316]; exact H) | exact H
   have Ny316 := Aside0.mk hy316
   clear hy316
   by_cases c5 : y313.length + y316.length < 4398046511104
   ·rw [if_pos c5] at H
    have LMc5 := Aside0.mk c5
    clear c5
    obtain ⟨y320, hy320⟩ : ∃ y_ : List (S39), y_ = (y313 ++ y316) := ⟨_, rfl⟩
    replace H : (if 0 ≤ (wrap64 (a1 + 1)) then (if (wrap64 (a1 + 1)) ≤ (l0.length : Int) then ((some (l0.drop ((wrap64 (a1 + 1)) : Int).toNat : List (S39))).bind fun y323 => (if y320.length + y323.length < 4398046511104 then (some (y320 ++ y323)) else (none))) else (none)) else (none)) = some r := by first | (rw [hy320]; with_reducible exact H) | (have H2_ := (Option.bind_some _ _).symm.trans H; rw [hy320]; with_reducible exact H2_) | (have H2_ := (Option.bind_some _ _).symm.trans H; with_reducible exact H2_) | with_reducible exact H | (rw [hy320]; exact H) | exact H
    have Ny320 := Aside0.mk hy320
    clear hy320
    obtain ⟨ji6, hji6⟩ : ∃ j_ : Int, (wrap64 (a1 + 1)) = j_ := ⟨_, rfl⟩
    replace H : (if 0 ≤ (ji6) then (if (ji6) ≤ (l0.length : Int) then ((some (l0.drop ((ji6) : Int).toNat : List (S39))).bind fun y323 => (if y320.length + y323.length < 4398046511104 then (some (y320 ++ y323)) else (none))) else (none)) else (none)) = some r := by first | (rw [hji6] at H; exact H) | (simp only [hji6] at H ⊢; exact H)
    have hji6w : (IntKind.i64.wrap (a1 + 1)) = ji6 := (i64_w _).trans hji6
    by_cases c7 : 0 ≤ (ji6)
    ·rw [if_pos c7] at H
     have c7b0 := eq_true c7
     have c7b1 : decide (0 ≤ (ji6)) = true := decide_eq_true c7
     clear c7
     by_cases c8 : (ji6) ≤ (l0.length : Int)
     ·rw [if_pos c8] at H
      have c8b0 := eq_true c8
      have c8b1 : decide ((ji6) ≤ (l0.length : Int)) = true := decide_eq_true c8
      clear c8
      obtain ⟨y323, hy323⟩ : ∃ y_ : List (S39), y_ = (l0.drop ((ji6) : Int).toNat) := ⟨_, rfl⟩
      replace H : (if y320.length + y323.length < 4398046511104 then (some (y320 ++ y323)) else (none)) = some r := by first | (rw [hy323]; with_reducible exact H) | (have H2_ := (Option.bind_some _ _).symm.trans H; rw [hy323]; with_reducible exact H2_) | (have H2_ := (Option.bind_some _ _).symm.trans H; with_reducible exact H2_) | with_reducible exact H | (rw [hy323]; exact H) | exact H
      have Ny323 := Aside0.mk hy323
      clear hy323
      by_cases c9 : y320.length + y323.length < 4398046511104
      ·rw [if_pos c9] at H
       have LMc9 := Aside0.mk c9
       clear c9
       obtain ⟨y327, hy327⟩ : ∃ y_ : List (S39), y_ = (y320 ++ y323) := ⟨_, rfl⟩
       replace H : (some y327) = some r := by first | (rw [hy327]; with_reducible exact H) | (have H2_ := (Option.bind_some _ _).symm.trans H; rw [hy327]; with_reducible exact H2_) | (have H2_ := (Option.bind_some _ _).symm.trans H; with_reducible exact H2_) | with_reducible exact H | (rw [hy327]; exact H) | exact H
       have Ny327 := Aside0.mk hy327
       clear hy327
       obtain rfl := Option.some.inj H
       go_enter Try.func39, Try.ntmps39
       try go_wp2
       have n0_ := Aside0.mk (below_drew1 HB.out)
       clear HB
       have HB := n0_
       clear n0_
       have q11 : (a1 : Int) ≤ ((l0.length : Int) : Int) := of_decide_eq_true (by first | (with_reducible assumption) | assumption)
       obtain ⟨i011, hi011, _, hsz11, _⟩ := info_parts info39
       have hroom11 : l0.length ≤ c0 := HC0.out
       have hC11 : Kd.C k39 _ A0 l0.length l0 := HR0.out
       have hcut11 := cut_to (P := Try.prog) 24 39 .i64 Try.underlying24 hi011 A0 l0.length c0 a1 (of_decide_eq_true (by first | (with_reducible assumption) | assumption)) q11 hroom11
       have hr11 := Kd.C_take (m := (a1 : Int).toNat) hC11 (by omega)
       have hy11 : y316.length = (a1 : Int).toNat := (by rw [Ny316.out, List.length_take]; omega)
       rw [← Ny316.out] at hr11
       rw [← hy11] at hcut11
       have HR319 := Aside0.mk hr11
       have HC319 := Aside0.mk (show y316.length ≤ c0 from by omega)
       clear hr11 hC11 hroom11 hi011 hsz11
       have KY11 := Aside0.mk hy11
       clear hy11
       replace q11 := eq_true q11
       have q12 : ((ji6) : Int) ≤ ((l0.length : Int) : Int) := of_decide_eq_true (by first | (with_reducible assumption) | assumption)
       obtain ⟨i012, hi012, _, hsz12, _⟩ := info_parts info39
       have hroom12 : l0.length ≤ c0 := HC0.out
       have hC12 : Kd.C k39 _ A0 l0.length l0 := HR0.out
       have q012 : (0 : Int) ≤ ((ji6) : Int) := of_decide_eq_true (by first | (with_reducible assumption) | assumption)
       have hcut12 := cut_from (P := Try.prog) 24 39 .i64 Try.underlying24 hi012 4 hsz12 A0 l0.length c0 (ji6) q012 q12
       have hr12 := Kd.C_drop (m := ((ji6) : Int).toNat) (c := c0) hC12 (by omega) hroom12
       obtain ⟨A12, hA12⟩ : ∃ A1, A1 = (if c0 = ((ji6) : Int).toNat then A0 else (A0 : Option Addr).map (·.add (((ji6) : Int).toNat * 4))) := ⟨_, rfl⟩
       obtain ⟨c12, hc12⟩ : ∃ c1, c1 = c0 - ((ji6) : Int).toNat := ⟨_, rfl⟩
       have hy12 : y323.length = l0.length - ((ji6) : Int).toNat := (by rw [Ny323.out, List.length_drop] <;> omega)
       rw [show (l0).drop ((ji6) : Int).toNat = y323 from Ny323.out.symm] at hr12
       replace hr12 : Kd.C k39 _ A12 y323.length y323 := (by rw [hA12]; exact hr12)
       rw [← hy12, ← hA12, ← hc12] at hcut12
       have HR326 := Aside0.mk hr12
       have HC326 := Aside0.mk (show y323.length ≤ c12 from by rw [hy12, hc12]; exact Nat.sub_le_sub_right hroom12 _)
       clear hr12 hC12 hroom12 hi012 hsz12 hc12
       have KY12 := Aside0.mk hy12
       have KA12 := Aside0.mk hA12
       clear hy12 hA12
       replace q12 := eq_true q12
       refine start_ (n := 11) (S := fun w' => True) (ds := []) #[false, false, false, false, false, false, false, false, false, false, false] (by kernel_rfl) rfl rfl trivial (fun hHeld => ?_); refine with_tabW spec_l10Without.tab1 spec_l10Without.bits1 (fun HT_ HW_ => ?_)
       generalize w.drew = w10 at HB HR319 HR326 hHeld ⊢
       refine pure_ (i := 1) (N := some 6) (v := ?_) (a' := ?_) #[false, true, false, false, false, false, false, false, false, false, false] rfl rfl (any_of HT_.out (by kernel_rfl)) (fun _ _ _ h => h) (Or.inl ⟨by rfl, ?_⟩) ?_ ?_
       rotate_left
       ·intro w'
        go_simp
        with_reducible rfl
       rotate_left
       ·simp only [Act.put, List.setIfInBounds_toArray, List.set_cons_zero, List.set_cons_succ, i64_w, i32_w]
        rfl
       refine pure_ (i := 2) (N := some 7) (v := ?_) (a' := ?_) #[false, true, true, false, false, false, false, false, false, false, false] rfl rfl (any_of HT_.out (by kernel_rfl)) (fun _ _ _ h => h) (Or.inl ⟨by rfl, ?_⟩) ?_ ?_
       rotate_left
       ·intro w'
        go_simp
        with_reducible rfl
       rotate_left
       ·simp only [Act.put, List.setIfInBounds_toArray, List.set_cons_zero, List.set_cons_succ, i64_w, i32_w]
        rfl
       refine pure_ (i := 3) (N := some 8) (v := ?_) (a' := ?_) #[false, true, true, true, false, false, false, false, false, false, false] rfl rfl (any_of HT_.out (by kernel_rfl)) (fun _ _ _ h => h) (Or.inl ⟨by rfl, ?_⟩) ?_ ?_
       rotate_left
       ·intro w'
        go_simp
        with_reducible rfl
       rotate_left
       ·simp only [Act.put, List.setIfInBounds_toArray, List.set_cons_zero, List.set_cons_succ, i64_w, i32_w]
        rfl
       refine pure_ (i := 5) (N := some 10) (v := ?_) (a' := ?_) #[false, true, true, true, false, true, false, false, false, false, false] rfl rfl (any_of HT_.out (by kernel_rfl)) (fun _ _ _ h => h) (Or.inl ⟨by rfl, ?_⟩) ?_ ?_
       rotate_left
       ·intro w'
        go_simp
        with_reducible rfl
       rotate_left
       ·simp only [Act.put, List.setIfInBounds_toArray, List.set_cons_zero, List.set_cons_succ, i64_w, i32_w]
        rfl
       refine pure_ (i := 6) (N := some 11) (v := ?_) (a' := ?_) #[false, true, true, true, false, true, true, false, false, false, false] rfl rfl (any_of HT_.out (by kernel_rfl)) (fun _ _ _ h => h) (Or.inl ⟨by rfl, ?_⟩) ?_ ?_
       rotate_left
       ·intro w'
        go_simp
        with_reducible rfl
       rotate_left
       ·simp only [Act.put, List.setIfInBounds_toArray, List.set_cons_zero, List.set_cons_succ, i64_w, i32_w]
        rfl
       refine pure_ (i := 7) (N := some 12) (v := ?_) (a' := ?_) #[false, true, true, true, false, true, true, true, false, false, false] rfl rfl (any_of HT_.out (by kernel_rfl)) (fun _ _ _ h => h) (Or.inl ⟨by rfl, ?_⟩) ?_ ?_
       rotate_left
       ·intro w'
        go_simp
        with_reducible rfl
       rotate_left
       ·simp only [Act.put, List.setIfInBounds_toArray, List.set_cons_zero, List.set_cons_succ, i64_w, i32_w]
        rfl
       refine pure_ (i := 8) (N := some 13) (v := ?_) (a' := ?_) #[false, true, true, true, false, true, true, true, true, false, false] rfl rfl (any_of HT_.out (by kernel_rfl)) (fun _ _ _ h => h) (Or.inl ⟨by rfl, ?_⟩) ?_ ?_
       rotate_left
       ·intro w'
        go_simp
        with_reducible rfl
       rotate_left
       ·simp only [Act.put, List.setIfInBounds_toArray, List.set_cons_zero, List.set_cons_succ, i64_w, i32_w]
        rfl
       refine one_ (i := 0) (N := some 5) #[true, true, true, true, false, true, true, true, true, false, false] rfl rfl (one_of HT_.out (by kernel_rfl)) (by decide) (fun K hK => ?_)
       refine Kd.R_lit_step k39 _ 39 ?hg (N := 5) ?hd (xs := ([] : List (S39))) (inner := []) (ok := fun _ => True) (okp := fun _ => True) ?hr ?hp (fun _ hk => hk) trivial (Below.refl _ _) (Nat.le_refl _) (by simp) ?_; (case hd => rfl); (case hg => rfl); (case hr => first | (go_simp; done) | (go_simp; rfl)); (case hp => exact (Reps.none _ _))
       intro v314 w13 ho14 hb hg_ hnew_
       clear hg_ hnew_
       (first | rw [← Ny313.out] at ho14 | (simp only [Int.reduceToNat] at ho14; rw [← Ny313.out] at ho14))
       have n0_ := Aside0.mk (Kd.R_lower ho14 (below_size (by repeat (first | (with_reducible first | exact HB.out | apply below_alloc | apply pw_below_drewN | apply below_drew1) | exact HB.out))))
       have n1_ := Aside0.mk (below_step (by repeat (first | (with_reducible first | exact HB.out | apply below_alloc | apply pw_below_drewN | apply below_drew1) | exact HB.out)) hb)
       clear HB
       have HO315 := n0_
       have HB := n1_
       clear n0_ n1_
       clear hb ho14
       refine hK.out _ _ trivial (fun hHeld => ?_)
       clear hK K
       refine norm_ (a' := ?_) ?_ ?_
       rotate_left
       ·show Act.put _ (some 5) _ = _
        simp only [Act.put, List.setIfInBounds_toArray, List.set_cons_zero, List.set_cons_succ, i64_w, i32_w]
        rfl
       refine one_ (i := 4) (N := some 9) #[true, true, true, true, true, true, true, true, true, false, false] rfl rfl (one_of HT_.out (by kernel_rfl)) (by decide) (fun K hK => ?_)
       refine Kd.R_append_rows_step k39 (w0 := w) w.heap.size (by rfl) (.tmp 5) (.tmp 8) 24 39 (.agg #[(.int .i64 0), (.int .i64 0), (.int .i64 0), (.int .i64 0)]) 32 rfl Try.underlying24 info39 rfl (by decide) (by omega) v314 y313 y316 _ _ _ (fun _ => True) (fun _ => False) rfl rfl ?aO ?aR (fun _ _ h => h) (fun _ h => h.elim) ?aF ?aB ?aS ?aL ?_
       (case aR => repeat (first | exact (Kd.C_below HR319.out HB.out) | (with_reducible refine Kd.C_alloc ?_ _) | (with_reducible refine Kd.C_drewN ?_ _) | (with_reducible refine Kd.C_drew ?_)))
       (case aB => exact (by repeat (first | (with_reducible first | exact HB.out | apply below_alloc | apply pw_below_drewN | apply below_drew1) | exact HB.out)))
       (case aF => exact (fun _ _ => trivial))
       (case aO => exact (by (with_reducible repeat (first | apply Kd.R_alloc | apply Kd.R_drewN | apply Kd.R_drew)); exact HO315.out))
       (case aS => exact (below_size (by repeat (first | (with_reducible first | exact HB.out | apply below_alloc | apply pw_below_drewN | apply below_drew1) | exact HB.out))))
       (case aL => have := LMc5.out; omega)
       intro v321 w15 ho hb hg hat
       rw [← Ny320.out] at ho
       have n0_ := Aside0.mk (hb)
       have n1_ := Aside0.mk (ho)
       clear HB
       clear HO315
       have HB := n0_
       have HO322 := n1_
       clear n0_ n1_
       clear ho hb hg hat
       refine hK.out _ _ trivial (fun hHeld => ?_)
       clear hK K
       refine norm_ (a' := ?_) ?_ ?_
       rotate_left
       ·show Act.put _ (some 9) _ = _
        simp only [Act.put, List.setIfInBounds_toArray, List.set_cons_zero, List.set_cons_succ, i64_w, i32_w]
        rfl
       refine one_ (i := 9) (N := some 14) #[true, true, true, true, true, true, true, true, true, true, false] rfl rfl (one_of HT_.out (by kernel_rfl)) (by decide) (fun K hK => ?_)
       refine Kd.R_append_rows_step k39 (w0 := w) w.heap.size (by rfl) (.tmp 9) (.tmp 13) 24 39 (.agg #[(.int .i64 0), (.int .i64 0), (.int .i64 0), (.int .i64 0)]) 32 rfl Try.underlying24 info39 rfl (by decide) (by omega) v321 y320 y323 _ _ _ (fun _ => True) (fun _ => False) rfl rfl ?aO ?aR (fun _ _ h => h) (fun _ h => h.elim) ?aF ?aB ?aS ?aL ?_
       (case aR => repeat (first | exact (Kd.C_below HR326.out HB.out) | (with_reducible refine Kd.C_alloc ?_ _) | (with_reducible refine Kd.C_drewN ?_ _) | (with_reducible refine Kd.C_drew ?_)))
       (case aB => exact (by repeat (first | (with_reducible first | exact HB.out | apply below_alloc | apply pw_below_drewN | apply below_drew1) | exact HB.out)))
       (case aF => exact (fun _ _ => trivial))
       (case aO => exact (by (with_reducible repeat (first | apply Kd.R_alloc | apply Kd.R_drewN | apply Kd.R_drew)); exact HO322.out))
       (case aS => exact (below_size (by repeat (first | (with_reducible first | exact HB.out | apply below_alloc | apply pw_below_drewN | apply below_drew1) | exact HB.out))))
       (case aL => have := LMc9.out; omega)
       intro v328 w16 ho hb hg hat
       rw [← Ny327.out] at ho
       have n0_ := Aside0.mk (hb)
       have n1_ := Aside0.mk (ho)
       clear HB
       clear HO322
       have HB := n0_
       have HO329 := n1_
       clear n0_ n1_
       clear ho hb hg hat
       refine hK.out _ _ trivial (fun hHeld => ?_)
       clear hK K
       refine norm_ (a' := ?_) ?_ ?_
       rotate_left
       ·show Act.put _ (some 14) _ = _
        simp only [Act.put, List.setIfInBounds_toArray, List.set_cons_zero, List.set_cons_succ, i64_w, i32_w]
        rfl
       refine pure_ (i := 10) (N := some 4) (v := ?_) (a' := ?_) #[true, true, true, true, true, true, true, true, true, true, true] rfl rfl (any_of HT_.out (by kernel_rfl)) (fun _ _ _ h => h) (Or.inl ⟨by rfl, ?_⟩) ?_ ?_
       rotate_left
       ·intro w'
        go_simp
        with_reducible rfl
       rotate_left
       ·simp only [Act.put, List.setIfInBounds_toArray, List.set_cons_zero, List.set_cons_succ, i64_w, i32_w]
        rfl
       refine done_ (done_of HT_.out (by kernel_rfl)) ?_
       try go_wp2
       go_ret
       exact ⟨_, by first | rfl | (simp [errW_none, errW_some] <;> rfl) | (simp only [← hji6]; first | rfl | (simp [errW_none, errW_some] <;> rfl)) | (simp [*, errW_none, errW_some] <;> rfl), by (with_reducible repeat (first | apply Kd.R_alloc | apply Kd.R_drewN | apply Kd.R_drew)); exact HO329.out, by repeat (first | (with_reducible first | exact HB.out | apply below_alloc | apply pw_below_drewN | apply below_drew1) | exact HB.out)⟩
      ·rw [if_neg c9] at H
       exact absurd H (by simp)
     ·rw [if_neg c8] at H
      exact absurd H (by simp)
    ·rw [if_neg c7] at H
     exact absurd H (by simp)
   ·rw [if_neg c5] at H
    exact absurd H (by simp)
  ·rw [if_neg c4] at H
   exact absurd H (by simp)
 ·rw [if_neg c3] at H
  exact absurd H (by simp)
end Go.Proofs.Ytlnfjhahnacmiaa.F
namespace Go.Proofs.Ytlnfjhahnacmiaa.F
open Go.RowKit Go.Proofs.YtlnfjhahnacmiaaW.PrintWords Go.Proofs.YtlnfjhahnacmiaaW.PrintLast Go.Proofs.YtlnfjhahnacmiaaW.PrintMore
set_option linter.unusedVariables false
set_option linter.unusedSimpArgs false
def without (xs : List S39) (n : Nat) : List S39 := xs.take n ++ xs.drop (n + 1)
theorem without_len (xs : List S39) (n : Nat) (h : n < xs.length) : (without xs n).length = xs.length - 1 := by
 unfold without
 rw [List.length_append, List.length_take, List.length_drop]; omega
theorem impl_without (xs : List S39) (n : Nat) (hx : xs.length ≤ 4000000) (h : n < xs.length) : impl_withoutFuse.f xs (n : Int) = some (without xs n) := by
 unfold impl_withoutFuse.f
 have e : wrap64 ((n : Int) + 1) = ((n + 1 : Nat) : Int) := by rw [w64 (by omega)]; rfl
 simp only [Option.bind_some, List.nil_append, List.length_nil, e, Int.toNat_natCast]
 have h1 := List.length_take_le n xs
 have h2 := List.length_take_le' n xs
 have h3 : (xs.drop (n + 1)).length = xs.length - (n + 1) := List.length_drop
 rw [if_pos (by omega), if_pos (by omega), if_pos (by omega), if_pos (by omega), if_pos (by omega), if_pos (by omega)]
 rfl
end Go.Proofs.Ytlnfjhahnacmiaa.F
namespace Go.Proofs.Ytlnfjhahnacmiaa.F
open Go.RowKit Go.Proofs.YtlnfjhahnacmiaaW.PrintWords Go.Proofs.YtlnfjhahnacmiaaW.PrintLast Go.Proofs.YtlnfjhahnacmiaaW.PrintMore
attribute [local go_sem] max2_int min2_int max_two min_two max_three min_three max_four min_four   -- for this text's walks alone
set_option linter.unusedVariables false
set_option linter.unusedSimpArgs false
def laws_hasInt.l0 : Nat → List Int → Int → Int → Option (Bool)
 | 0, _, _, _ => none
 | k + 1, x0, x1, x5 => if x5 < (x0.length : Int) then (if 0 ≤ x5 then (if (rd x0 x5) = x1 then (some true) else (laws_hasInt.l0 k x0 x1 (wrap64 (x5 + 1)))) else (none)) else (some false)
def laws_hasInt.f (k : Nat) (l0 : List Int) (a1 : Int) : Option (Bool) := laws_hasInt.l0 k l0 a1 0
theorem laws_hasInt.mono_l : ∀ k, (∀ y0 y1 y2, LeO (laws_hasInt.l0 k y0 y1 y2) (laws_hasInt.l0 (k + 1) y0 y1 y2))
 | 0 => fun _ _ _ r h => by simp [laws_hasInt.l0] at h
 | k + 1 => by
  have ih0 := laws_hasInt.mono_l k
  ·intro y0 y1 y2
   unfold laws_hasInt.l0
   repeat' first
   | (with_reducible exact ih0 _ _ _)
   | (with_reducible exact LeO.refl _)
   | (with_reducible exact LeO.none _)
   | (with_reducible refine LeO.ite ?_ ?_)
   | (with_reducible refine LeO.bind ?_ (fun _ => ?_))
   | exact ih0 _ _ _
   | exact LeO.none _
   | refine LeO.ite ?_ ?_
   | refine LeO.bind ?_ (fun _ => ?_)
theorem laws_hasInt.mono : ∀ a0 a1 k, LeO (laws_hasInt.f k a0 a1) (laws_hasInt.f (k + 1) a0 a1) := by
 intro a0 a1 k
 have ih0 := laws_hasInt.mono_l k
 unfold laws_hasInt.f
 repeat' first
   | (with_reducible exact ih0 _ _ _)
   | (with_reducible exact LeO.refl _)
   | (with_reducible exact LeO.none _)
   | (with_reducible refine LeO.ite ?_ ?_)
   | (with_reducible refine LeO.bind ?_ (fun _ => ?_))
   | exact ih0 _ _ _
   | exact LeO.none _
   | refine LeO.ite ?_ ?_
   | refine LeO.bind ?_ (fun _ => ?_)
set_option maxHeartbeats 8000000 in
set_option maxRecDepth 100000 in
theorem laws_hasInt.calls (k : Nat) (A0 : Option Addr) (c0 : Nat) (l0 : List Int) (a1 : Int) (r : Bool) (w : World) (hr0 : Kd.C (Kd.int .i64) w A0 l0.length l0) (hc0 : l0.length ≤ c0) (h : laws_hasInt.f k l0 a1 = some r) :
  Calls Try.prog 15 #[.slice A0 l0.length c0, .int .i64 a1] w fun e w' => e = .returned (.bool r) ∧ Drawn0 w w' := by
 have HR0 := Aside0.mk hr0
 have HC0 := Aside0.mk hc0
 clear hr0 hc0
 have H : (laws_hasInt.l0 k l0 a1 0) = some r := h
 clear h
 have H' := Aside0.mk H
 clear H
 go_enter Try.func15, Try.ntmps15
 go_wp2
 go_loopg [5] k (fun kq v5 w' => ∃ (x5_1 : Int), v5 = .int .i64 x5_1 ∧ Aside0 (laws_hasInt.l0 kq l0 a1 x5_1 = some r) ∧ Aside0 (kq ≤ k) ∧ Drawn0 w w')
 case atStart => exact ⟨(0), (by first | rfl | (simp; done) | (simp [*]; done)), H', ⟨Nat.le_refl _⟩, by repeat (first | exact Drawn0.refl _ | apply Drawn0.step)⟩
 case round =>
  clear H'
  try clear c1
  try clear p2
  obtain ⟨x5_1, rfl, HA, HK1, ⟨m1, rfl⟩⟩ := hrel
  cases gk with
  | zero => exact absurd HA.out (by simp [laws_hasInt.l0])
  | succ k1 =>
   have H := HA.out
   clear HA
   simp only [laws_hasInt.l0] at H
   by_cases c3 : x5_1 < (l0.length : Int)
   ·rw [if_pos c3] at H
    have c3b0 : decide (x5_1 < (l0.length : Int)) = true := decide_eq_true c3
    clear c3
    by_cases c4 : 0 ≤ x5_1
    ·rw [if_pos c4] at H
     have c4b0 : decide (0 ≤ x5_1) = true := decide_eq_true c4
     clear c4
     by_cases c5 : (rd l0 x5_1) = a1
     ·rw [if_pos c5] at H
      have c5b0 : ((rd l0 x5_1) == a1) = true := beq_iff_eq.mpr c5
      have c5b1 : ((rd l0 x5_1) != a1) = false := bne_eq_false_iff_eq.mpr c5
      clear c5
      obtain rfl := Option.some.inj H
      have p406 : 0 ≤ (x5_1 : Int) := of_decide_eq_true (by first | (with_reducible assumption) | assumption)
      have q406 : x5_1 < (l0.length : Int) := of_decide_eq_true (by first | (with_reducible assumption) | assumption)
      obtain ⟨ad406, e406, hx406_0⟩ := Kd.at_int HR0.out x5_1 p406 q406
      cases e406
      replace p406 := eq_true p406
      replace q406 := eq_true q406
      go_wp2
      go_ret
      exact ⟨by first | rfl | (simp; done) | (simp [*]; done), by repeat (first | exact Drawn0.refl _ | apply Drawn0.step)⟩
     ·rw [if_neg c5] at H
      have c5b0 : ((rd l0 x5_1) == a1) = false := beq_eq_false_iff_ne.mpr c5
      have c5b1 : ((rd l0 x5_1) != a1) = true := bne_iff_ne.mpr c5
      have H' := Aside0.mk H
      clear H
      have p406 : 0 ≤ (x5_1 : Int) := of_decide_eq_true (by first | (with_reducible assumption) | assumption)
      have q406 : x5_1 < (l0.length : Int) := of_decide_eq_true (by first | (with_reducible assumption) | assumption)
      obtain ⟨ad406, e406, hx406_0⟩ := Kd.at_int HR0.out x5_1 p406 q406
      cases e406
      replace p406 := eq_true p406
      replace q406 := eq_true q406
      go_wp2
      go_roundg k1
      case measure => have := HK1.out; omega
      case rel => exact ⟨(wrap64 (x5_1 + 1)), (by first | rfl | (simp; done) | (simp [*]; done)), H', ⟨by have := HK1.out; omega⟩, by repeat (first | exact Drawn0.refl _ | apply Drawn0.step)⟩
    ·rw [if_neg c4] at H
     exact absurd H (by simp)
   ·rw [if_neg c3] at H
    have c3b0 : decide (x5_1 < (l0.length : Int)) = false := decide_eq_false c3
    clear c3
    obtain rfl := Option.some.inj H
    go_wp2
    go_ret
    exact ⟨by first | rfl | (simp; done) | (simp [*]; done), by repeat (first | exact Drawn0.refl _ | apply Drawn0.step)⟩
end Go.Proofs.Ytlnfjhahnacmiaa.F
namespace Go.Proofs.Ytlnfjhahnacmiaa.F
open Go.RowKit Go.Proofs.YtlnfjhahnacmiaaW.PrintWords Go.Proofs.YtlnfjhahnacmiaaW.PrintLast Go.Proofs.YtlnfjhahnacmiaaW.PrintMore
set_option linter.unusedVariables false
set_option linter.unusedSimpArgs false
theorem impl_between {m : Nat} {xs : List S39} (h : areFuses (m : Int) xs = true) (h1 : 1 ≤ m) (h2 : m ≤ 10) (hx : xs.length ≤ 20) {E L : List Int} (hE : E.length = m) (hL : L.length = m) {K : Nat} (ht : ∀ k, K ≤ k → impl_litTimes.f k (m : Int) xs = some (E, L)) (a : Int) (k : Nat) (hk : K + 40 ≤ k) : impl_LitBetween.f k (m : Int) xs a = some (if cdo E m a = 0 then (rd E a, rd L a, 0) else (0, 0, cdo E m a)) := by
 unfold impl_LitBetween.f
 rw [impl_code1 h h1 h2 hx hE ht a k (by omega)]
 simp only [Option.bind_some]
 by_cases c : cdo E m a = 0
 ·have ha := cdo_in c
  rw [if_pos c, if_pos c, ht k (by omega)]
  simp only [Option.bind_some]
  rw [if_pos (by omega), if_pos (by omega), if_pos (by omega)]
 ·rw [if_neg c, if_neg c]
theorem spec_between {m : Nat} {xs : List S39} (h : areFuses (m : Int) xs = true) (h1 : 1 ≤ m) (h2 : m ≤ 10) (hx : xs.length ≤ 20) {E L : List Int} (hE : E.length = m) (hL : L.length = m) {K : Nat} (hs : ∀ k, K ≤ k → spec_l10Times.f k (m : Int) xs = some (E, L)) (a : Int) (k : Nat) (hk : K + 40 ≤ k) : spec_LitBetween.f k (m : Int) xs a = some (if cdo E m a = 0 then (rd E a, rd L a, 0) else (0, 0, cdo E m a)) := by
 unfold spec_LitBetween.f
 rw [spec_code h h1 h2 hx hE hs a k (by omega)]
 simp only [Option.bind_some]
 by_cases c : cdo E m a = 0
 ·have ha := cdo_in c
  rw [if_pos c, if_pos c, hs k (by omega)]
  simp only [Option.bind_some]
  rw [if_pos (by omega), if_pos (by omega), if_pos (by omega)]
 ·rw [if_neg c, if_neg c]
theorem cdo_at {E : List Int} {m : Nat} {a : Int} (h : 0 ≤ a ∧ a < (m : Int)) : cdo E m a = if rd E a < 0 then 4 else 0 := by
 unfold cdo
 rw [if_pos (inB_true.2 (by omega))]
theorem like_ints (X : List Int) (hX : X.length ≤ 4000000) (k : Nat) (hk : X.length < k) : laws_likeInts.f k X X = some true := by
 have loop : ∀ d i k, X.length - i = d → i ≤ X.length → d < k → laws_likeInts.l0 k X X (i : Int) = some true := by
  intro d
  induction d with
  | zero =>
   intro i k hd hi hk
   obtain ⟨k, rfl⟩ : ∃ m, k = m + 1 := ⟨k - 1, by omega⟩
   simp only [laws_likeInts.l0]
   rw [if_neg (by omega)]
  | succ d ih =>
   intro i k hd hi hk
   obtain ⟨k, rfl⟩ : ∃ m, k = m + 1 := ⟨k - 1, by omega⟩
   simp only [laws_likeInts.l0]
   rw [if_pos (by omega), if_pos (by omega), if_pos (by omega), if_pos trivial, w64 (by omega)]
   exact ih (i + 1) k (by omega) (by omega) (by omega)
 unfold laws_likeInts.f
 rw [if_pos rfl]
 exact loop X.length 0 k (by omega) (by omega) hk
theorem fuse_mem_iff (n : Int) (xs : List S39) : allF (fuseAt n xs) 0 xs.length = true ↔ ∀ y ∈ xs, (inB y.f0 0 (wrap64 (n - 1)) && (inB y.f1 (wrap64 (y.f0 + 1)) (wrap64 (n - 1)) && (inB y.f2 0 100000 && inB y.f3 y.f2 100000))) = true := by
 rw [allF_true]
 constructor
 ·intro h y hy
  obtain ⟨i, hi, rfl⟩ := List.getElem_of_mem hy
  have := h i (Nat.zero_le _) (by omega)
  unfold fuseAt fu_at at this
  rw [List.getD_eq_getElem?_getD, List.getElem?_eq_getElem hi] at this
  exact this
 ·intro h i _ hi
  exact h (fu_at xs i) (fu_mem (by omega))
theorem areFuses_without {n : Int} {xs : List S39} (h : areFuses n xs = true) (i : Nat) (hi : i < xs.length) : areFuses n (without xs i) = true := by
 unfold areFuses at h ⊢
 rw [Bool.and_eq_true, Bool.and_eq_true, decide_eq_true_iff, fuse_mem_iff] at h
 rw [Bool.and_eq_true, Bool.and_eq_true, decide_eq_true_iff, fuse_mem_iff]
 refine ⟨fun y hy => h.1 y ?_, h.2.1, by rw [without_len xs i hi]; omega⟩
 unfold without at hy
 rcases List.mem_append.1 hy with g | g
 ·exact List.mem_of_mem_take g
 ·exact List.mem_of_mem_drop g
end Go.Proofs.Ytlnfjhahnacmiaa.F
namespace Go.Proofs.Ytlnfjhahnacmiaa.F
open Go.RowKit Go.Proofs.YtlnfjhahnacmiaaW.PrintWords Go.Proofs.YtlnfjhahnacmiaaW.PrintLast Go.Proofs.YtlnfjhahnacmiaaW.PrintMore
set_option linter.unusedVariables false
set_option linter.unusedSimpArgs false
theorem mem_at {xs : List S39} {f : S39} (h : f ∈ xs) : ∃ j, j < xs.length ∧ fu_at xs j = f := by
 obtain ⟨j, hj, e⟩ := List.getElem_of_mem h
 refine ⟨j, hj, ?_⟩
 unfold fu_at
 rw [List.getD_eq_getElem?_getD, List.getElem?_eq_getElem hj]
 exact e
theorem without_sub {xs : List S39} {i : Nat} {f : S39} (h : f ∈ without xs i) : f ∈ xs := by
 unfold without at h
 rcases List.mem_append.1 h with g | g
 ·exact List.mem_of_mem_take g
 ·exact List.mem_of_mem_drop g
theorem el_le {m : Nat} {xs : List S39} (hf : FOl m xs) {E L : List Int} (h : PL m xs m E L) : ∀ (d : Nat) (u : Int), u < (d : Int) → 0 ≤ u → u < (m : Int) → 0 ≤ rd E u → rd E u ≤ rd L u := by
 intro d
 induction d with
 | zero => intro u h1 h2; omega
 | succ d ih =>
  intro u h1 h2 h3 h4
  rcases Int.lt_or_le 0 u with z | z
  ·have gl := h.2.2.2 u z h3
   have ge := h.1.2.2 u z h3
   have hp := pl_pos hf.1 h h2 h3 h4
   obtain ⟨j, j1, j2, j3, j4⟩ := gl.2.2 hp.1
   have g := hf.1 j j1
   have g' := hf.2 j j1
   have i1 := ih (fu_at xs j).f0 (by omega) g.1 (by omega) j3
   have i2 := ge.2.1 j j1 j2 j3
   omega
  ·have e : u = 0 := by omega
   subst e
   have a := h.2.2.1
   have b := h.1.2.1
   omega
theorem less_late {m : Nat} {xs ys : List S39} (hf : FOl m xs) (hg : FOl m ys) (sub : ∀ f ∈ ys, f ∈ xs) {E L E' L' : List Int} (h : PL m xs m E L) (h' : PL m ys m E' L') : ∀ (d : Nat) (u : Int), u < (d : Int) → 0 ≤ u → u < (m : Int) → 0 ≤ rd E' u → 0 ≤ rd E u ∧ rd E u ≤ rd E' u ∧ rd L u ≤ rd L' u := by
 intro d
 induction d with
 | zero => intro u h1 h2; omega
 | succ d ih =>
  intro u h1 h2 h3 h4
  rcases Int.lt_or_le 0 u with z | z
  ·have hp := pl_pos hg.1 h' h2 h3 h4
   obtain ⟨j, j1, j2, j3, j4⟩ := (h'.1.2.2 u z h3).2.2 h4
   obtain ⟨i, i1, i2, i3, i4⟩ := (h'.2.2.2 u z h3).2.2 hp.1
   have g := hg.1 j j1
   have g2 := hg.1 i i1
   have a := ih (fu_at ys j).f0 (by omega) g.1 (by omega) j3
   have b := ih (fu_at ys i).f0 (by omega) g2.1 (by omega) i3
   obtain ⟨j', k1, k2⟩ := mem_at (sub _ (fu_mem j1))
   obtain ⟨i', l1, l2⟩ := mem_at (sub _ (fu_mem i1))
   have c := (h.1.2.2 u z h3).2.1 j' k1 (by rw [k2]; exact j2) (by rw [k2]; exact a.1)
   have e := (h.2.2.2 u z h3).2.1 i' l1 (by rw [l2]; exact i2) (by rw [l2]; exact b.1)
   rw [k2] at c
   rw [l2] at e
   omega
  ·have e : u = 0 := by omega
   subst e
   have a := h.2.2.1
   have b := h.1.2.1
   have a' := h'.2.2.1
   have b' := h'.1.2.1
   omega
theorem fol_without {m : Nat} {xs : List S39} (hf : FOl m xs) (i : Nat) : FOl m (without xs i) := by
 have key : ∀ j, j < (without xs i).length → ∃ n, n < xs.length ∧ fu_at xs n = fu_at (without xs i) j := fun j hj => mem_at (without_sub (fu_mem hj))
 refine ⟨fun j hj => ?_, fun j hj => ?_⟩
 ·obtain ⟨n, n1, n2⟩ := key j hj
  rw [← n2]; exact hf.1 n n1
 ·obtain ⟨n, n1, n2⟩ := key j hj
  rw [← n2]; exact hf.2 n n1
theorem times_m {m : Nat} {xs : List S39} (h : areFuses (m : Int) xs = true) : ∃ (E L : List Int), 1 ≤ m ∧ m ≤ 10 ∧ xs.length ≤ 20 ∧ FOl m xs ∧ E.length = m ∧ L.length = m ∧ PL m xs m E L ∧ Evt (fun k => spec_l10Times.f k (m : Int) xs = some (E, L)) ∧ Evt (fun k => impl_litTimes.f k (m : Int) xs = some (E, L)) := by
 obtain ⟨m', E, L, e, r⟩ := timesl_is h
 have e' : m' = m := by omega
 subst e'
 exact ⟨E, L, r⟩
end Go.Proofs.Ytlnfjhahnacmiaa.F
namespace Go.Proofs.Ytlnfjhahnacmiaa.F
open Go.RowKit Go.Proofs.YtlnfjhahnacmiaaW.PrintWords Go.Proofs.YtlnfjhahnacmiaaW.PrintLast Go.Proofs.YtlnfjhahnacmiaaW.PrintMore
set_option linter.unusedVariables false
set_option linter.unusedSimpArgs false
def GoodD (m : Nat) (xs : List S39) (t : Int) (D : List Int) (u : Int) (n : Nat) : Prop :=
 rd D u ≤ 100000 * ((m : Int) - u) ∧ (∀ j, j < n → (fu_at xs j).f0 = u → 0 ≤ rd D (fu_at xs j).f1 → 0 ≤ rd D u ∧ rd D u ≤ (fu_at xs j).f2 + rd D (fu_at xs j).f1) ∧
  (0 ≤ rd D u → ∃ j, j < n ∧ (fu_at xs j).f0 = u ∧ 0 ≤ rd D (fu_at xs j).f1 ∧ rd D u = (fu_at xs j).f2 + rd D (fu_at xs j).f1)
def PD (m : Nat) (xs : List S39) (t : Int) (v : Int) (D : List Int) : Prop := D.length = m ∧ (v < t → rd D t = 0) ∧ ∀ u : Int, v < u → u < (m : Int) → u ≠ t → GoodD m xs t D u xs.length
theorem goodD_set {m : Nat} {xs : List S39} (hf : FOk m xs) {t : Int} {D : List Int} {v : Nat} (x : Int) {u : Int} (hu : (v : Int) < u) {n : Nat} (hn : n ≤ xs.length) (h : GoodD m xs t D u n) : GoodD m xs t (D.set v x) u n := by
 obtain ⟨a, b, c⟩ := h
 have e : ∀ w : Int, (v : Int) < w → rd (D.set v x) w = rd D w := fun w h1 => rd_set_ne D v x w (by omega) (by omega)
 refine ⟨by rw [e u hu]; exact a, fun j hj h1 h2 => ?_, fun h1 => ?_⟩
 ·have g := hf j (by omega)
  rw [e _ (by omega)] at h2
  rw [e u hu, e (fu_at xs j).f1 (by omega)]
  exact b j hj h1 h2
 ·rw [e u hu] at h1 ⊢
  obtain ⟨j, j1, j2, j3, j4⟩ := c h1
  have g := hf j (by omega)
  exact ⟨j, j1, j2, by rw [e _ (by omega)]; exact j3, by rw [e _ (by omega)]; exact j4⟩
theorem pd_set {m : Nat} {xs : List S39} (hf : FOk m xs) {t : Int} {D : List Int} {v : Nat} (x : Int) (h : PD m xs t (v : Int) D) : PD m xs t (v : Int) (D.set v x) := by
 obtain ⟨a, b, c⟩ := h
 exact ⟨by rw [List.length_set]; exact a, fun h1 => by rw [rd_set_ne D v x t (by omega) (by omega)]; exact b h1, fun u h1 h2 h3 => goodD_set hf x h1 (Nat.le_refl _) (c u h1 h2 h3)⟩
theorem pd_bound {m : Nat} {xs : List S39} {t : Int} {D : List Int} {v : Int} (h : PD m xs t v D) {u : Int} (h1 : v < u) (h2 : u < (m : Int)) : rd D u ≤ 100000 * ((m : Int) - u) := by
 by_cases e : u = t
 ·rw [e, h.2.1 (by omega)]; omega
 ·exact (h.2.2 u h1 h2 e).1
theorem table_in {m : Nat} (hm : m ≤ 10) {xs : List S39} (hx : xs.length ≤ 20) (hf : FOk m xs) (t : Int) (v : Nat) (hv : v < m) (hvt : (v : Int) ≠ t) : ∀ (d i : Nat) (D : List Int), xs.length - i = d → i ≤ xs.length → PD m xs t (v : Int) D → GoodD m xs t D (v : Int) i →
  ∃ (D' : List Int) (c : Nat), PD m xs t ((v : Int) - 1) D' ∧ ∀ k, impl_FastestWay.l1 (k + c) xs t D (v : Int) xs (xs.length : Int) (i : Int) = impl_FastestWay.l0 k xs t D' ((v : Int) - 1) := by
 intro d
 induction d with
 | zero =>
  intro i D hd hi hp hg
  have e : i = xs.length := by omega
  subst e
  refine ⟨D, 1, ⟨hp.1, fun h => ?_, fun u h1 h2 h3 => ?_⟩, fun k => ?_⟩
  ·exact hp.2.1 (by omega)
  ·by_cases e : u = (v : Int)
   ·rw [e]; exact hg
   ·exact hp.2.2 u (by omega) h2 h3
  ·simp only [impl_FastestWay.l1]
   rw [if_neg (by omega), w64 (by omega)]
 | succ d ih =>
  intro i D hd hi hp hg
  have g := hf i (by omega)
  have hl := hp.1
  have hw : ∀ _ : Unit, wrap64 ((i : Int) + 1) = ((i + 1 : Nat) : Int) := fun _ => w64 (by omega)
  have g1 : (i : Int) < (xs.length : Int) := by omega
  have g2 : 0 ≤ (i : Int) := by omega
  by_cases c1 : (fu_at xs i).f0 = (v : Int)
  ·have hb := pd_bound hp (u := (fu_at xs i).f1) (by omega) g.2.2.1
   by_cases c2 : rd D (fu_at xs i).f1 ≥ 0
   ·have hs : ∀ _ : Unit, wrap64 ((fu_at xs i).f2 + rd D (fu_at xs i).f1) = (fu_at xs i).f2 + rd D (fu_at xs i).f1 := fun _ => w64 (by omega)
    by_cases c3 : rd D (v : Int) < 0 ∨ (fu_at xs i).f2 + rd D (fu_at xs i).f1 < rd D (v : Int)
    ·-- a better one
     have e := rd_set_eq D v ((fu_at xs i).f2 + rd D (fu_at xs i).f1) (by omega)
     have ne : ∀ w : Int, (v : Int) < w → rd (D.set v ((fu_at xs i).f2 + rd D (fu_at xs i).f1)) w = rd D w := fun w h1 => rd_set_ne D v _ w (by omega) (by omega)
     obtain ⟨D', c, p1, p2⟩ := ih (i + 1) (D.set v ((fu_at xs i).f2 + rd D (fu_at xs i).f1)) (by omega) (by omega) (pd_set hf _ hp) (by
      refine ⟨by rw [e]; omega, fun j hj h1 h2 => ?_, fun _ => ⟨i, by omega, c1, by rw [ne _ (by omega)]; exact c2, by rw [e, ne _ (by omega)]⟩⟩
      have gj := hf j (by omega)
      rw [ne (fu_at xs j).f1 (by omega)] at h2 ⊢
      rw [e]
      by_cases ej : j = i
      ·subst ej; omega
      ·have := hg.2.1 j (by omega) h1 h2
       omega)
     refine ⟨D', c + 2, p1, fun k => ?_⟩
     rw [← p2 k, show k + (c + 2) = (k + c) + 2 by omega]
     have a1 : 0 ≤ (fu_at xs i).f1 := by omega
     have a2 : (fu_at xs i).f1 < (D.length : Int) := by omega
     have a3 : 0 ≤ (v : Int) := by omega
     have a4 : (v : Int) < (D.length : Int) := by omega
     rcases Classical.em (rd D (v : Int) < 0) with d3 | d3
     ·simp only [impl_FastestWay.l1, impl_FastestWay.j2, rd_fuse, if_pos g1, if_pos g2, if_pos c1, if_pos a1, if_pos a2, if_pos a3, if_pos a4, decide_eq_true c2, d3, hs (), if_true, hw (), Int.toNat_natCast]
     ·simp only [d3, false_or] at c3
      simp only [impl_FastestWay.l1, impl_FastestWay.j2, rd_fuse, if_pos g1, if_pos g2, if_pos c1, if_pos a1, if_pos a2, if_pos a3, if_pos a4, decide_eq_true c2, d3, c3, hs (), if_true, if_false, hw (), Int.toNat_natCast]
    ·rw [not_or] at c3
     obtain ⟨D', c, p1, p2⟩ := ih (i + 1) D (by omega) (by omega) hp (by
      obtain ⟨a, b, c⟩ := hg
      refine ⟨a, fun j hj h1 h2 => ?_, fun h1 => ?_⟩
      ·by_cases ej : j = i
       ·subst ej; omega
       ·exact b j (by omega) h1 h2
      ·obtain ⟨j, j1, j2⟩ := c h1
       exact ⟨j, by omega, j2⟩)
     refine ⟨D', c + 2, p1, fun k => ?_⟩
     rw [← p2 k, show k + (c + 2) = (k + c) + 2 by omega]
     have a1 : 0 ≤ (fu_at xs i).f1 := by omega
     have a2 : (fu_at xs i).f1 < (D.length : Int) := by omega
     have a3 : 0 ≤ (v : Int) := by omega
     have a4 : (v : Int) < (D.length : Int) := by omega
     simp only [impl_FastestWay.l1, impl_FastestWay.j2, rd_fuse, if_pos g1, if_pos g2, if_pos c1, if_pos a1, if_pos a2, if_pos a3, if_pos a4, decide_eq_true c2, c3.1, c3.2, hs (), if_true, if_false, hw ()]
   ·obtain ⟨D', c, p1, p2⟩ := ih (i + 1) D (by omega) (by omega) hp (by
     obtain ⟨a, b, c⟩ := hg
     refine ⟨a, fun j hj h1 h2 => ?_, fun h1 => ?_⟩
     ·by_cases ej : j = i
      ·subst ej; exact absurd h2 c2
      ·exact b j (by omega) h1 h2
     ·obtain ⟨j, j1, j2⟩ := c h1
      exact ⟨j, by omega, j2⟩)
    refine ⟨D', c + 2, p1, fun k => ?_⟩
    rw [← p2 k, show k + (c + 2) = (k + c) + 2 by omega]
    have a1 : 0 ≤ (fu_at xs i).f1 := by omega
    have a2 : (fu_at xs i).f1 < (D.length : Int) := by omega
    simp only [impl_FastestWay.l1, impl_FastestWay.j2, rd_fuse, if_pos g1, if_pos g2, if_pos c1, if_pos a1, if_pos a2, decide_eq_false c2, Bool.false_eq_true, if_false, hw ()]
  ·obtain ⟨D', c, p1, p2⟩ := ih (i + 1) D (by omega) (by omega) hp (by
    obtain ⟨a, b, c⟩ := hg
    refine ⟨a, fun j hj h1 h2 => ?_, fun h1 => ?_⟩
    ·by_cases ej : j = i
     ·subst ej; exact absurd h1 c1
     ·exact b j (by omega) h1 h2
    ·obtain ⟨j, j1, j2⟩ := c h1
     exact ⟨j, by omega, j2⟩)
   refine ⟨D', c + 2, p1, fun k => ?_⟩
   rw [← p2 k, show k + (c + 2) = (k + c) + 2 by omega]
   simp only [impl_FastestWay.l1, impl_FastestWay.j2, rd_fuse, if_pos g1, if_pos g2, if_neg c1, Bool.false_eq_true, if_false, hw ()]
theorem table_out {m : Nat} (hm : m ≤ 10) {xs : List S39} (hx : xs.length ≤ 20) (hf : FOk m xs) (t : Int) : ∀ (n : Nat) (D : List Int), n ≤ m → PD m xs t ((n : Int) - 1) D →
  ∃ (D' : List Int) (c : Nat), PD m xs t (-1) D' ∧ ∀ k, impl_FastestWay.l0 (k + c) xs t D ((n : Int) - 1) = impl_FastestWay.l2 k xs t D' ([] : List Int) 0 := by
 intro n
 induction n with
 | zero =>
  intro D hn hp
  refine ⟨D, 1, hp, fun k => ?_⟩
  simp only [impl_FastestWay.l0]
  rw [if_neg (by omega)]
 | succ v ih =>
  intro D hn hp
  have ev : ((v + 1 : Nat) : Int) - 1 = (v : Int) := by omega
  rw [ev] at hp ⊢
  have hl := hp.1
  by_cases c : (v : Int) = t
  ·-- the target
   obtain ⟨D', k0, p1, p2⟩ := ih ((D.set v (-1)).set v 0) (by omega) (by
    have q := pd_set hf 0 (pd_set hf (-1) hp)
    refine ⟨q.1, fun h => ?_, fun u h1 h2 h3 => q.2.2 u (by omega) h2 h3⟩
    rw [← c]
    exact rd_set_eq _ v 0 (by rw [List.length_set]; omega))
   refine ⟨D', k0 + 1, p1, fun k => ?_⟩
   rw [← p2 k, show k + (k0 + 1) = (k + k0) + 1 by omega]
   simp only [impl_FastestWay.l0, Option.bind_some, Int.toNat_natCast]
   rw [if_pos (by omega), if_pos (by omega), if_pos (by omega), if_pos c, w64 (by omega)]
  ·obtain ⟨D1, k1, q1, q2⟩ := table_in hm hx hf t v (by omega) c xs.length 0 (D.set v (-1)) (by omega) (by omega) (pd_set hf _ hp) (by
    have e := rd_set_eq D v (-1) (by omega)
    exact ⟨by rw [e]; omega, fun j hj => absurd hj (by omega), fun h => by rw [e] at h; omega⟩)
   obtain ⟨D', k0, p1, p2⟩ := ih D1 (by omega) q1
   refine ⟨D', k0 + k1 + 1, p1, fun k => ?_⟩
   rw [← p2 k, ← q2 (k + k0), show k + (k0 + k1 + 1) = (k + k0 + k1) + 1 by omega]
   simp only [impl_FastestWay.l0, Option.bind_some, Int.toNat_natCast]
   rw [if_pos (by omega), if_pos (by omega), if_pos (by omega), if_neg c]
   rfl
theorem behind {m : Nat} {xs : List S39} (hf : FOk m xs) {t : Int} {D : List Int} (h : PD m xs t (-1) D) : ∀ (d : Nat) (u : Int), (m : Int) - u ≤ (d : Int) → t < u → 0 ≤ u → u < (m : Int) → rd D u < 0
 | 0, u, hd, _, _, hu => absurd hu (by omega)
 | d + 1, u, hd, ht, h0, hu => by
  rcases Int.lt_or_le (rd D u) 0 with z | z
  ·exact z
  ·obtain ⟨j, j1, j2, j3, j4⟩ := (h.2.2 u (by omega) hu (by omega)).2.2 z
   have g := hf j (by omega)
   have := behind hf h d (fu_at xs j).f1 (by omega) (by omega) (by omega) g.2.2.1
   omega
theorem way_none {m : Nat} (hm : m ≤ 10) {xs : List S39} (hx : xs.length ≤ 20) (hf : FOk m xs) {t : Int} (ht : 0 ≤ t ∧ t < (m : Int)) {D : List Int} (h : PD m xs t (-1) D) : ∀ (d : Nat) (u T : Int), (m : Int) - u ≤ (d : Int) → 0 ≤ u → u < (m : Int) → 0 ≤ T → T ≤ 100000000 → (rd D u < 0 ∨ T < rd D u) → Evt (fun k => spec_l10Way.f k xs u t T = some ([], false))
 | 0, u, T, hd, h0, hu, _, _, _ => absurd hu (by omega)
 | d + 1, u, T, hd, h0, hu, hT0, hT1, hD => by
  have hut : u ≠ t := fun e => by
   have := h.2.1 (by omega)
   rw [e] at hD; omega
  have loop : ∀ (n i : Nat), xs.length - i = n → i ≤ xs.length → Evt (fun k => spec_l10Way.l0 k xs u t T (i : Int) = some ([], false)) := by
   intro n
   induction n with
   | zero =>
    intro i hn hi
    refine ⟨1, fun k hk => ?_⟩
    show spec_l10Way.l0 k xs u t T (i : Int) = _
    obtain ⟨k, rfl⟩ : ∃ m, k = m + 1 := ⟨k - 1, by omega⟩
    simp only [spec_l10Way.l0]
    rw [if_neg (by omega)]
   | succ n ih =>
    intro i hn hi
    have g := hf i (by omega)
    have hw : ∀ _ : Unit, wrap64 ((i : Int) + 1) = ((i + 1 : Nat) : Int) := fun _ => w64 (by omega)
    have g1 : (i : Int) < (xs.length : Int) := by omega
    have g2 : 0 ≤ (i : Int) := by omega
    obtain ⟨K, hK⟩ := ih (i + 1) (by omega) (by omega)
    by_cases c1 : (fu_at xs i).f0 = u
    ·by_cases c2 : (fu_at xs i).f1 > t
     ·refine ⟨K + 2, fun k hk => ?_⟩
      show spec_l10Way.l0 k xs u t T (i : Int) = _
      obtain ⟨k, rfl⟩ : ∃ m, k = m + 2 := ⟨k - 2, by omega⟩
      simp only [spec_l10Way.l0, spec_l10Way.j1, rd_fuse, if_pos g1, if_pos g2, if_pos c1, if_pos c2, if_true, hw ()]
      exact hK k (by omega)
     ·by_cases c3 : (fu_at xs i).f2 > T
      ·refine ⟨K + 2, fun k hk => ?_⟩
       show spec_l10Way.l0 k xs u t T (i : Int) = _
       obtain ⟨k, rfl⟩ : ∃ m, k = m + 2 := ⟨k - 2, by omega⟩
       simp only [spec_l10Way.l0, spec_l10Way.j1, rd_fuse, if_pos g1, if_pos g2, if_pos c1, if_neg c2, decide_eq_true c3, if_true, hw ()]
       exact hK k (by omega)
      ·have gd := h.2.2 u (by omega) hu hut
       obtain ⟨K', hK'⟩ := way_none hm hx hf ht h d (fu_at xs i).f1 (T - (fu_at xs i).f2) (by omega) (by omega) (by omega) (by omega) (by omega) (by
        rcases Int.lt_or_le (rd D (fu_at xs i).f1) 0 with z | z
        ·exact .inl z
        ·have := gd.2.1 i (by omega) c1 z
         omega)
       refine ⟨K + K' + 2, fun k hk => ?_⟩
       show spec_l10Way.l0 k xs u t T (i : Int) = _
       obtain ⟨k, rfl⟩ : ∃ m, k = m + 2 := ⟨k - 2, by omega⟩
       have hs : wrap64 (T - (fu_at xs i).f2) = T - (fu_at xs i).f2 := w64 (by omega)
       simp only [spec_l10Way.l0, spec_l10Way.j1, rd_fuse, if_pos g1, if_pos g2, if_pos c1, if_neg c2, decide_eq_false c3, Bool.false_eq_true, if_false, hw (), hs]
       rw [show spec_l10Way.f k xs (fu_at xs i).f1 t (T - (fu_at xs i).f2) = _ from hK' k (by omega)]
       simp only [Option.bind_some, Bool.false_eq_true, if_false]
       exact hK k (by omega)
    ·refine ⟨K + 2, fun k hk => ?_⟩
     show spec_l10Way.l0 k xs u t T (i : Int) = _
     obtain ⟨k, rfl⟩ : ∃ m, k = m + 2 := ⟨k - 2, by omega⟩
     simp only [spec_l10Way.l0, spec_l10Way.j1, rd_fuse, if_pos g1, if_pos g2, if_neg c1, if_true, hw ()]
     exact hK k (by omega)
  obtain ⟨K, hK⟩ := loop xs.length 0 (by omega) (by omega)
  refine ⟨K + 1, fun k hk => ?_⟩
  show spec_l10Way.f k xs u t T = _
  obtain ⟨k, rfl⟩ : ∃ m, k = m + 1 := ⟨k - 1, by omega⟩
  simp only [spec_l10Way.f]
  rw [if_neg hut]
  exact hK k (by omega)
def PathOk (xs : List S39) : Int → Int → List Int → Int → Prop
 | u, t, [], s => 0 ≤ s ∧ u = t ∧ s = 0
 | u, t, x :: p, s => 0 ≤ s ∧ ∃ j : Nat, x = (j : Int) ∧ j < xs.length ∧ (fu_at xs j).f0 = u ∧ PathOk xs (fu_at xs j).f1 t p (s - (fu_at xs j).f2)
theorem way_some {m : Nat} (hm : m ≤ 10) {xs : List S39} (hx : xs.length ≤ 20) (hf : FOk m xs) {t : Int} (ht : 0 ≤ t ∧ t < (m : Int)) {D : List Int} (h : PD m xs t (-1) D) : ∀ (d : Nat) (u : Int), (m : Int) - u ≤ (d : Int) → d ≤ 100 → 0 ≤ u → u < (m : Int) → 0 ≤ rd D u →
  ∃ p : List Int, p.length ≤ d ∧ Evt (fun k => spec_l10Way.f k xs u t (rd D u) = some (p, true)) ∧ Evt (fun k => ∀ X : List Int, X.length + d ≤ 1000 → impl_FastestWay.l2 k xs t D X u = some (X ++ p, 0)) ∧ PathOk xs u t p (rd D u)
 | 0, u, hd, hd1, h0, hu, _ => absurd hu (by omega)
 | d + 1, u, hd, hd1, h0, hu, hD => by
  have hl := h.1
  by_cases hut : u = t
  ·have e0 : rd D u = 0 := by rw [hut]; exact h.2.1 (by omega)
   refine ⟨[], by simp, ⟨1, fun k hk => ?_⟩, ⟨1, fun k hk => ?_⟩, ⟨hD, hut, e0⟩⟩
   ·show spec_l10Way.f k xs u t (rd D u) = _
    obtain ⟨k, rfl⟩ : ∃ m, k = m + 1 := ⟨k - 1, by omega⟩
    simp only [spec_l10Way.f]
    rw [if_pos hut, e0]
    rfl
   ·intro X hX
    obtain ⟨k, rfl⟩ : ∃ m, k = m + 1 := ⟨k - 1, by omega⟩
    simp only [impl_FastestWay.l2]
    rw [if_pos hut, List.append_nil]
  ·have gd := h.2.2 u (by omega) hu hut
   have hbd := pd_bound h (u := u) (by omega) hu
   have loop : ∀ (n i : Nat), xs.length - i = n → i ≤ xs.length → (∃ j, i ≤ j ∧ j < xs.length ∧ (fu_at xs j).f0 = u ∧ 0 ≤ rd D (fu_at xs j).f1 ∧ rd D u = (fu_at xs j).f2 + rd D (fu_at xs j).f1) →
     ∃ p : List Int, p.length ≤ d + 1 ∧ Evt (fun k => spec_l10Way.l0 k xs u t (rd D u) (i : Int) = some (p, true)) ∧ Evt (fun k => ∀ X : List Int, X.length + (d + 1) ≤ 1000 → impl_FastestWay.l3 k xs t D X u xs (xs.length : Int) (i : Int) = some (X ++ p, 0)) ∧ PathOk xs u t p (rd D u) := by
    intro n
    induction n with
    | zero =>
     intro i hn hi ⟨j, j1, j2, _⟩
     exact absurd j2 (by omega)
    | succ n ih =>
     intro i hn hi hj
     have g := hf i (by omega)
     have hw : ∀ _ : Unit, wrap64 ((i : Int) + 1) = ((i + 1 : Nat) : Int) := fun _ => w64 (by omega)
     have g1 : (i : Int) < (xs.length : Int) := by omega
     have g2 : 0 ≤ (i : Int) := by omega
     have a1 : 0 ≤ (fu_at xs i).f1 := by omega
     have a2 : (fu_at xs i).f1 < (D.length : Int) := by omega
     have a4 : u < (D.length : Int) := by omega
     by_cases hit : (fu_at xs i).f0 = u ∧ 0 ≤ rd D (fu_at xs i).f1 ∧ rd D u = (fu_at xs i).f2 + rd D (fu_at xs i).f1
     ·obtain ⟨c1, c2, c3⟩ := hit
      have c4 : ¬ (fu_at xs i).f1 > t := fun z => by
       have := behind hf h m (fu_at xs i).f1 (by omega) z (by omega) g.2.2.1
       omega
      have c5 : ¬ (fu_at xs i).f2 > rd D u := by omega
      obtain ⟨p, p0, ⟨K, hK⟩, ⟨K', hK'⟩, pk⟩ := way_some hm hx hf ht h d (fu_at xs i).f1 (by omega) (by omega) (by omega) g.2.2.1 c2
      refine ⟨(i : Int) :: p, by rw [List.length_cons]; omega, ⟨K + 2, fun k hk => ?_⟩, ⟨K' + 1, fun k hk => ?_⟩, ⟨hD, i, rfl, by omega, c1, by rw [show rd D u - (fu_at xs i).f2 = rd D (fu_at xs i).f1 by omega]; exact pk⟩⟩
      ·show spec_l10Way.l0 k xs u t (rd D u) (i : Int) = _
       obtain ⟨k, rfl⟩ : ∃ m, k = m + 2 := ⟨k - 2, by omega⟩
       have hs : wrap64 (rd D u - (fu_at xs i).f2) = rd D (fu_at xs i).f1 := by rw [w64 (by omega)]; omega
       simp only [spec_l10Way.l0, spec_l10Way.j1, rd_fuse, if_pos g1, if_pos g2, if_pos c1, if_neg c4, decide_eq_false c5, Bool.false_eq_true, if_false, hs]
       rw [show spec_l10Way.f k xs (fu_at xs i).f1 t (rd D (fu_at xs i).f1) = _ from hK k (by omega)]
       simp only [Option.bind_some, if_true]
       rw [if_pos (by show ([(i : Int)] : List Int).length + _ < _; simp only [List.length_cons, List.length_nil]; omega)]
       rfl
      ·intro X hX
       obtain ⟨k, rfl⟩ : ∃ m, k = m + 1 := ⟨k - 1, by omega⟩
       have hs : wrap64 ((fu_at xs i).f2 + rd D (fu_at xs i).f1) = rd D u := by rw [w64 (by omega)]; omega
       have e := hK' k (by omega) (X ++ [(i : Int)]) (by rw [List.length_append, List.length_singleton]; omega)
       simp only [impl_FastestWay.l3, rd_fuse, if_pos g1, if_pos g2, if_pos c1, if_pos a1, if_pos a2, if_pos (show rd D (fu_at xs i).f1 ≥ 0 from c2), if_pos h0, if_pos a4, hs, if_true]
       rw [if_pos (by omega), e, List.append_assoc]
       rfl
     ·obtain ⟨p, p0, ⟨K, hK⟩, ⟨K', hK'⟩, pk⟩ := ih (i + 1) (by omega) (by omega) (by
       obtain ⟨j, j1, j2, j3, j4, j5⟩ := hj
       refine ⟨j, ?_, j2, j3, j4, j5⟩
       rcases Nat.eq_or_lt_of_le j1 with e | e
       ·subst e; exact absurd ⟨j3, j4, j5⟩ hit
       ·exact e)
      by_cases c1 : (fu_at xs i).f0 = u
      ·refine ⟨p, p0, ?_, ?_, pk⟩
       ·by_cases c2 : (fu_at xs i).f1 > t
        ·refine ⟨K + 2, fun k hk => ?_⟩
         show spec_l10Way.l0 k xs u t (rd D u) (i : Int) = _
         obtain ⟨k, rfl⟩ : ∃ m, k = m + 2 := ⟨k - 2, by omega⟩
         simp only [spec_l10Way.l0, spec_l10Way.j1, rd_fuse, if_pos g1, if_pos g2, if_pos c1, if_pos c2, if_true, hw ()]
         exact hK k (by omega)
        ·by_cases c3 : (fu_at xs i).f2 > rd D u
         ·refine ⟨K + 2, fun k hk => ?_⟩
          show spec_l10Way.l0 k xs u t (rd D u) (i : Int) = _
          obtain ⟨k, rfl⟩ : ∃ m, k = m + 2 := ⟨k - 2, by omega⟩
          simp only [spec_l10Way.l0, spec_l10Way.j1, rd_fuse, if_pos g1, if_pos g2, if_pos c1, if_neg c2, decide_eq_true c3, if_true, hw ()]
          exact hK k (by omega)
         ·obtain ⟨K2, hK2⟩ := way_none hm hx hf ht h m (fu_at xs i).f1 (rd D u - (fu_at xs i).f2) (by omega) (by omega) g.2.2.1 (by omega) (by omega) (by
           rcases Int.lt_or_le (rd D (fu_at xs i).f1) 0 with z | z
           ·exact .inl z
           ·have := gd.2.1 i (by omega) c1 z
            have : ¬ rd D u = (fu_at xs i).f2 + rd D (fu_at xs i).f1 := fun e => hit ⟨c1, z, e⟩
            omega)
          refine ⟨K + K2 + 2, fun k hk => ?_⟩
          show spec_l10Way.l0 k xs u t (rd D u) (i : Int) = _
          obtain ⟨k, rfl⟩ : ∃ m, k = m + 2 := ⟨k - 2, by omega⟩
          have hs : wrap64 (rd D u - (fu_at xs i).f2) = rd D u - (fu_at xs i).f2 := w64 (by omega)
          simp only [spec_l10Way.l0, spec_l10Way.j1, rd_fuse, if_pos g1, if_pos g2, if_pos c1, if_neg c2, decide_eq_false c3, Bool.false_eq_true, if_false, hw (), hs]
          rw [show spec_l10Way.f k xs (fu_at xs i).f1 t (rd D u - (fu_at xs i).f2) = _ from hK2 k (by omega)]
          simp only [Option.bind_some, Bool.false_eq_true, if_false]
          exact hK k (by omega)
       ·refine ⟨K' + 1, fun k hk => ?_⟩
        intro X hX
        obtain ⟨k, rfl⟩ : ∃ m, k = m + 1 := ⟨k - 1, by omega⟩
        by_cases c2 : rd D (fu_at xs i).f1 ≥ 0
        ·have hb1 := pd_bound h (u := (fu_at xs i).f1) (by omega) g.2.2.1
         have hs : wrap64 ((fu_at xs i).f2 + rd D (fu_at xs i).f1) = (fu_at xs i).f2 + rd D (fu_at xs i).f1 := w64 (by omega)
         have c3 : ¬ (fu_at xs i).f2 + rd D (fu_at xs i).f1 = rd D u := fun e => hit ⟨c1, c2, e.symm⟩
         simp only [impl_FastestWay.l3, rd_fuse, if_pos g1, if_pos g2, if_pos c1, if_pos a1, if_pos a2, if_pos c2, if_pos h0, if_pos a4, hs, if_neg c3, hw ()]
         exact hK' k (by omega) X hX
        ·simp only [impl_FastestWay.l3, rd_fuse, if_pos g1, if_pos g2, if_pos c1, if_pos a1, if_pos a2, if_neg c2, hw ()]
         exact hK' k (by omega) X hX
      ·refine ⟨p, p0, ⟨K + 2, fun k hk => ?_⟩, ⟨K' + 1, fun k hk => ?_⟩, pk⟩
       ·show spec_l10Way.l0 k xs u t (rd D u) (i : Int) = _
        obtain ⟨k, rfl⟩ : ∃ m, k = m + 2 := ⟨k - 2, by omega⟩
        simp only [spec_l10Way.l0, spec_l10Way.j1, rd_fuse, if_pos g1, if_pos g2, if_neg c1, if_true, hw ()]
        exact hK k (by omega)
       ·intro X hX
        obtain ⟨k, rfl⟩ : ∃ m, k = m + 1 := ⟨k - 1, by omega⟩
        simp only [impl_FastestWay.l3, rd_fuse, if_pos g1, if_pos g2, if_neg c1, hw ()]
        exact hK' k (by omega) X hX
   obtain ⟨j, j1, j2⟩ := gd.2.2 hD
   obtain ⟨p, p0, ⟨K, hK⟩, ⟨K', hK'⟩, pk⟩ := loop xs.length 0 (by omega) (by omega) ⟨j, by omega, j1, j2⟩
   refine ⟨p, p0, ⟨K + 1, fun k hk => ?_⟩, ⟨K' + 1, fun k hk => ?_⟩, pk⟩
   ·show spec_l10Way.f k xs u t (rd D u) = _
    obtain ⟨k, rfl⟩ : ∃ m, k = m + 1 := ⟨k - 1, by omega⟩
    simp only [spec_l10Way.f]
    rw [if_neg hut]
    exact hK k (by omega)
   ·intro X hX
    obtain ⟨k, rfl⟩ : ∃ m, k = m + 1 := ⟨k - 1, by omega⟩
    simp only [impl_FastestWay.l2]
    rw [if_neg hut]
    exact hK' k (by omega) X hX
theorem table_le {m : Nat} {xs : List S39} (hf : FOk m xs) {t : Int} {D E : List Int} (h : PD m xs t (-1) D) (hE : PE m xs m E) : ∀ (d : Nat) (v : Int), v ≤ (d : Int) → 0 ≤ v → v ≤ t → v < (m : Int) → 0 ≤ rd E v → 0 ≤ rd D v → 0 ≤ rd D 0 ∧ rd D 0 ≤ rd E v + rd D v
 | 0, v, hd, h0, _, _, _, hD => by
  have e : v = 0 := by omega
  have := hE.2.1
  subst e
  omega
 | d + 1, v, hd, h0, hvt, hvm, hEv, hD => by
  by_cases e : v = 0
  ·have := hE.2.1
   subst e
   omega
  ·obtain ⟨j, j1, j2, j3, j4⟩ := (hE.2.2 v (by omega) (by omega)).2.2 hEv
   have g := hf j (by omega)
   have := (h.2.2 (fu_at xs j).f0 (by omega) (by omega) (by omega)).2.1 j j1 rfl (by rw [j2]; exact hD)
   rw [j2] at this
   have := table_le hf h hE d (fu_at xs j).f0 (by omega) g.1 (by omega) (by omega) j3 this.1
   omega
theorem times_le {m : Nat} {xs : List S39} (hf : FOk m xs) {t : Int} {D E : List Int} (h : PD m xs t (-1) D) (hE : PE m xs m E) : ∀ (d : Nat) (v : Int), (m : Int) - v ≤ (d : Int) → 0 ≤ v → v < (m : Int) → 0 ≤ rd E v → 0 ≤ rd D v → 0 ≤ t → rd E t ≤ rd E v + rd D v
 | 0, v, hd, h0, hv, _, _, _ => absurd hv (by omega)
 | d + 1, v, hd, h0, hvm, hEv, hD, ht => by
  by_cases e : v = t
  ·rw [e]
   have := h.2.1 (by omega)
   omega
  ·obtain ⟨j, j1, j2, j3, j4⟩ := (h.2.2 v (by omega) hvm e).2.2 hD
   have g := hf j (by omega)
   have := (hE.2.2 (fu_at xs j).f1 (by omega) (by omega)).2.1 j j1 rfl (by rw [j2]; exact hEv)
   rw [j2] at this
   have := times_le hf h hE d (fu_at xs j).f1 (by omega) (by omega) (by omega) this.1 j3 ht
   omega
end Go.Proofs.Ytlnfjhahnacmiaa.F
namespace Go.Proofs.Ytlnfjhahnacmiaa.F
open Go.RowKit Go.Proofs.YtlnfjhahnacmiaaW.PrintWords Go.Proofs.YtlnfjhahnacmiaaW.PrintLast Go.Proofs.YtlnfjhahnacmiaaW.PrintMore
set_option linter.unusedVariables false
set_option linter.unusedSimpArgs false
def Code (c : List Int) : Prop := c.length ≤ 4096 ∧ ∀ x ∈ c, 0 ≤ x ∧ x ≤ 255
def St (c : List Int) (a s : Int) : Prop := 0 ≤ a ∧ a ≤ (c.length : Int) ∧ 0 ≤ s ∧ s < 2147483647
theorem rd_code {c : List Int} (hc : Code c) (i : Int) : 0 ≤ rd c i ∧ rd c i ≤ 255 := by
 unfold rd
 rw [List.getD_eq_getElem?_getD]
 cases h : c[i.toNat]? with
 | none => exact ⟨Int.le_refl _, by decide⟩
 | some x => exact hc.2 x (List.mem_of_getElem? h)
theorem tmod_nn {a b : Int} (ha : 0 ≤ a) (hb : 0 < b) : 0 ≤ Int.tmod a b ∧ Int.tmod a b < b := by
 rw [Int.tmod_eq_emod_of_nonneg ha]
 exact ⟨Int.emod_nonneg _ (by omega), Int.emod_lt_of_pos _ hb⟩
theorem next_ok {c : List Int} (hc : Code c) {a s : Int} (h : St c a s) (n : Int) (hn : n ≤ 4611686018427387904) : ∃ r a' s', spec_l01Next.f c a s n = some (r, a', s') ∧ St c a' s' ∧ 0 ≤ r ∧ (r < n ∨ (n ≤ 1 ∧ r = 0)) := by
 obtain ⟨h1, h2, h3, h4⟩ := h
 have hl := hc.1
 unfold spec_l01Next.f
 by_cases c1 : n ≤ 1
 ·rw [if_pos c1]
  exact ⟨0, a, s, rfl, ⟨h1, h2, h3, h4⟩, Int.le_refl _, .inr ⟨c1, rfl⟩⟩
 ·have hs := tmod_nn (a := s * 48271 + 29) (b := 2147483647) (by omega) (by omega)
  rw [if_neg c1, w64 (n := s * 48271) (by omega), w64 (n := s * 48271 + 29) (by omega)]
  generalize Int.tmod (s * 48271 + 29) 2147483647 = z at hs ⊢
  have hd : Int.tdiv z 31 = z / 31 := Int.tdiv_eq_ediv_of_nonneg hs.1
  rw [hd]
  have n0 : ¬ n = 0 := by omega
  by_cases c2 : a < (c.length : Int)
  ·have hr := rd_code hc a
   have p := tmod_nn (a := z / 31 + rd c a) (b := n) (by omega) (by omega)
   have q := tmod_nn (a := rd c a) (b := n) (by omega) (by omega)
   simp only [if_neg n0]
   rw [if_pos c2, if_pos h1, w64 (n := a + 1) (by omega), w64 (n := z / 31) (by omega), w64 (n := rd c a) (by omega), w64 (n := z / 31 + rd c a) (by omega), w64 (n := a + 1 - 1) (by omega), show a + 1 - 1 = a by omega, w64 (n := rd c a) (by omega)]
   by_cases c3 : n ≤ 256
   ·rw [if_pos c3]
    by_cases c4 : Int.tmod (a + 1) 2 = 0
    ·rw [if_pos c4, if_pos h1, if_pos c2]
     exact ⟨_, _, _, rfl, ⟨by omega, by omega, hs.1, hs.2⟩, q.1, .inl q.2⟩
    ·rw [if_neg c4]
     exact ⟨_, _, _, rfl, ⟨by omega, by omega, hs.1, hs.2⟩, p.1, .inl p.2⟩
   ·rw [if_neg c3]
    exact ⟨_, _, _, rfl, ⟨by omega, by omega, hs.1, hs.2⟩, p.1, .inl p.2⟩
  ·have p := tmod_nn (a := z / 31) (b := n) (by omega) (by omega)
   simp only [if_neg n0]
   rw [if_neg c2, w64 (n := z / 31) (by omega)]
   exact ⟨_, _, _, rfl, ⟨h1, h2, hs.1, hs.2⟩, p.1, .inl p.2⟩
theorem pick_ok {c : List Int} (hc : Code c) {a s : Int} (h : St c a s) (l : List Int) (hl : 0 < l.length) (hl2 : l.length ≤ 1000) : ∃ r a' s', spec_l01Pick.f c a s l = some (r, a', s') ∧ St c a' s' ∧ r ∈ l := by
 obtain ⟨r, a', s', e, h', h0, h1⟩ := next_ok hc h (l.length : Int) (by omega)
 refine ⟨rd l r, a', s', ?_, h', ?_⟩
 ·unfold spec_l01Pick.f
  rw [e]
  simp only [Option.bind_some]
  rw [if_pos h0, if_pos (by omega)]
 ·have hr : r.toNat < l.length := by omega
  unfold rd
  rw [List.getD_eq_getElem?_getD, List.getElem?_eq_getElem hr]
  exact List.getElem_mem hr
theorem from_ok {c : List Int} (hc : Code c) : ∃ s, (∀ k, 70 ≤ k → spec_l01From.f k c = some (c, 0, s)) ∧ St c 0 s := by
 have loop : ∀ (d : Nat) (i s : Int), 0 ≤ i → i ≤ 64 → 64 - i ≤ d → 0 ≤ s → s < 2147483647 → ∃ s', (∀ k, d < k → spec_l01From.l0 k c i c 0 s = some (c, 0, s')) ∧ St c 0 s' := by
  intro d
  induction d with
  | zero =>
   intro i s h1 h2 h3 h4 h5
   refine ⟨s, fun k hk => ?_, by omega, by omega, h4, h5⟩
   obtain ⟨k, rfl⟩ : ∃ m, k = m + 1 := ⟨k - 1, by omega⟩
   simp only [spec_l01From.l0]
   rw [if_neg (show ¬ i < 64 by omega)]
   split <;> rfl
  | succ d ih =>
   intro i s h1 h2 h3 h4 h5
   by_cases c1 : i < (c.length : Int) ∧ i < 64
   ·have hr := rd_code hc i
    have hm := tmod_nn (a := s * 83 + rd c i) (b := 2147483647) (by omega) (by omega)
    obtain ⟨s', e, hs⟩ := ih (i + 1) (Int.tmod (s * 83 + rd c i) 2147483647) (by omega) (by omega) (by omega) hm.1 hm.2
    refine ⟨s', fun k hk => ?_, hs⟩
    obtain ⟨k, rfl⟩ : ∃ m, k = m + 1 := ⟨k - 1, by omega⟩
    simp only [spec_l01From.l0]
    rw [if_pos c1.1, if_pos c1.2, if_pos h1, w64 (n := i + 1) (by omega), w64 (n := s * 83) (by omega), w64 (n := rd c i) (by omega), w64 (n := s * 83 + rd c i) (by omega)]
    exact e k (by omega)
   ·refine ⟨s, fun k hk => ?_, by omega, by omega, h4, h5⟩
    obtain ⟨k, rfl⟩ : ∃ m, k = m + 1 := ⟨k - 1, by omega⟩
    simp only [spec_l01From.l0]
    by_cases c2 : i < (c.length : Int)
    ·rw [if_pos c2, if_neg (fun x => c1 ⟨c2, x⟩)]
    ·rw [if_neg c2]
 obtain ⟨s', e, hs⟩ := loop 64 0 61043 (by omega) (by omega) (by omega) (by omega) (by omega)
 exact ⟨s', fun k hk => e k (by omega), hs⟩
theorem code_of {l : List Int} (h : ¬ (l.length : Int) > 4096) (hb : ∀ x ∈ l, (Go.Lit.int .u8 x).wf = true) : Code l := ⟨by omega, fun x hx => by
 have h := hb x hx
 simp [Go.Lit.wf, Go.IntKind.min, Go.IntKind.max, Go.IntKind.signed, Go.IntKind.bits] at h
 omega⟩
end Go.Proofs.Ytlnfjhahnacmiaa.F
namespace Go.Proofs.Ytlnfjhahnacmiaa.F
open Go.RowKit Go.Proofs.YtlnfjhahnacmiaaW.PrintWords Go.Proofs.YtlnfjhahnacmiaaW.PrintLast Go.Proofs.YtlnfjhahnacmiaaW.PrintMore
set_option linter.unusedVariables false
set_option linter.unusedSimpArgs false
theorem fuse_draw {c : List Int} (hc : Code c) {a s : Int} (h : St c a s) : ∃ n xs a' s', (∀ k, 60 ≤ k → spec_l10Draw.f k c a s = some (n, xs, a', s')) ∧ St c a' s' ∧ xs.length ≤ 40 ∧ 0 ≤ n ∧ n ≤ 11 := by
 have l1 : ∀ (n : Int) (d : Nat) (xs : List S39) (a s : Int), 21 - xs.length = d → xs.length ≤ 30 → St c a s → ∃ r a' s', (∀ k, d < k → spec_l10Draw.l1 k n xs c a s = some (n, r, a', s')) ∧ St c a' s' ∧ r.length ≤ 40 := by
  intro n d
  induction d with
  | zero =>
   intro xs a s hd hx h
   obtain ⟨r1, a1, s1, e1, h1, b1, b2⟩ := next_ok hc h 2 (by omega)
   refine ⟨xs, a1, s1, fun k hk => ?_, h1, by omega⟩
   obtain ⟨k, rfl⟩ : ∃ m, k = m + 1 := ⟨k - 1, by omega⟩
   simp only [spec_l10Draw.l1, e1, Option.bind_some]
   rw [w64 (n := 20 + r1) (by omega), if_neg (by omega)]
  | succ d ih =>
   intro xs a s hd hx h
   obtain ⟨r1, a1, s1, e1, h1, b1, b2⟩ := next_ok hc h 2 (by omega)
   by_cases c1 : (xs.length : Int) < 20 + r1
   ·obtain ⟨r, a', s', e, h', hl⟩ := ih (xs ++ [(⟨0, 1, 700, 900⟩ : S39)]) a1 s1 (by rw [List.length_append]; show 21 - (xs.length + 1) = d; omega) (by rw [List.length_append]; show xs.length + 1 ≤ 30; omega) h1
    refine ⟨r, a', s', fun k hk => ?_, h', hl⟩
    obtain ⟨k, rfl⟩ : ∃ m, k = m + 1 := ⟨k - 1, by omega⟩
    simp only [spec_l10Draw.l1, e1, Option.bind_some]
    rw [w64 (n := 20 + r1) (by omega), if_pos c1, if_pos (by omega)]
    exact e k (by omega)
   ·refine ⟨xs, a1, s1, fun k hk => ?_, h1, by omega⟩
    obtain ⟨k, rfl⟩ : ∃ m, k = m + 1 := ⟨k - 1, by omega⟩
    simp only [spec_l10Draw.l1, e1, Option.bind_some]
    rw [w64 (n := 20 + r1) (by omega), if_neg c1]
 have fin : ∀ (n x : Int) (xs : List S39) (a s : Int), ¬ x > 0 → 0 ≤ n → n ≤ 11 → xs.length ≤ 20 → St c a s → ∃ m r a' s', (∀ k, 30 ≤ k → spec_l10Draw.l0 k n xs x c a s = some (m, r, a', s')) ∧ St c a' s' ∧ r.length ≤ 40 ∧ 0 ≤ m ∧ m ≤ 11 := by
  intro n x xs a s hn n0 n1 hx h
  obtain ⟨r1, a1, s1, e1, h1, b1, b2⟩ := next_ok hc h 40 (by omega)
  have st : ∀ k, 30 ≤ k → ∃ m, k = m + 1 ∧ 29 ≤ m := fun k hk => ⟨k - 1, by omega, by omega⟩
  by_cases d0 : r1 = 0
  ·obtain ⟨r2, a2, s2, e2, h2, m2⟩ := pick_ok hc h1 [0, 1, 10, 11] (by simp) (by simp)
   refine ⟨r2, xs, a2, s2, fun k hk => ?_, h2, by omega, ?_⟩
   ·obtain ⟨k, rfl, hk⟩ := st k hk
    simp only [spec_l10Draw.l0]
    rw [if_neg hn]
    simp only [e1, e2, Option.bind_some]
    rw [if_pos d0]
   ·simp only [List.mem_cons, List.not_mem_nil, or_false] at m2
    omega
  by_cases d1 : r1 = 1
  ·obtain ⟨r2, a2, s2, e2, h2, _⟩ := next_ok hc h1 3 (by omega)
   refine ⟨n, xs ++ [(⟨1, r2, 5, 5⟩ : S39)], a2, s2, fun k hk => ?_, h2, by rw [List.length_append]; show xs.length + 1 ≤ 40; omega, n0, n1⟩
   obtain ⟨k, rfl, hk⟩ := st k hk
   simp only [spec_l10Draw.l0]
   rw [if_neg hn]
   simp only [e1, e2, Option.bind_some]
   rw [if_neg d0, if_pos d1, if_pos (by omega)]
  by_cases d2 : r1 = 2
  ·obtain ⟨r2, a2, s2, e2, h2, _⟩ := pick_ok hc h1 [6, -1] (by simp) (by simp)
   obtain ⟨r3, a3, s3, e3, h3, _⟩ := pick_ok hc h2 [5, 100000, 100001] (by simp) (by simp)
   refine ⟨n, xs ++ [(⟨0, 1, r2, r3⟩ : S39)], a3, s3, fun k hk => ?_, h3, by rw [List.length_append]; show xs.length + 1 ≤ 40; omega, n0, n1⟩
   obtain ⟨k, rfl, hk⟩ := st k hk
   simp only [spec_l10Draw.l0]
   rw [if_neg hn]
   simp only [e1, e2, e3, Option.bind_some]
   rw [if_neg d0, if_neg d1, if_pos d2, if_pos (by omega)]
  by_cases d3 : r1 = 3
  ·obtain ⟨r, a', s', e, h', hl⟩ := l1 n (21 - xs.length) xs a1 s1 rfl (by omega) h1
   refine ⟨n, r, a', s', fun k hk => ?_, h', hl, n0, n1⟩
   obtain ⟨k, rfl, hk⟩ := st k hk
   simp only [spec_l10Draw.l0]
   rw [if_neg hn]
   simp only [e1, Option.bind_some]
   rw [if_neg d0, if_neg d1, if_neg d2, if_pos d3]
   exact e k (by omega)
  ·refine ⟨n, xs, a1, s1, fun k hk => ?_, h1, by omega, n0, n1⟩
   obtain ⟨k, rfl, hk⟩ := st k hk
   simp only [spec_l10Draw.l0]
   rw [if_neg hn]
   simp only [e1, Option.bind_some]
   rw [if_neg d0, if_neg d1, if_neg d2, if_neg d3]
 have l0 : ∀ (n : Int), 2 ≤ n → n ≤ 7 → ∀ (d : Nat) (x : Int) (xs : List S39) (a s : Int), x ≤ d → xs.length + d ≤ 20 → St c a s → ∃ m r a' s', (∀ k, d + 30 ≤ k → spec_l10Draw.l0 k n xs x c a s = some (m, r, a', s')) ∧ St c a' s' ∧ r.length ≤ 40 ∧ 0 ≤ m ∧ m ≤ 11 := by
  intro n n1 n2 d
  induction d with
  | zero =>
   intro x xs a s hx hl h
   obtain ⟨m, r, a', s', e, r2⟩ := fin n x xs a s (by omega) (by omega) (by omega) (by omega) h
   exact ⟨m, r, a', s', fun k hk => e k (by omega), r2⟩
  | succ d ih =>
   intro x xs a s hx hl h
   by_cases c0 : x > 0
   ·obtain ⟨r1, a1, s1, e1, h1, b1, b2⟩ := next_ok hc h (n - 1) (by omega)
    obtain ⟨r2, a2, s2, e2, h2, b3, b4⟩ := next_ok hc h1 12 (by omega)
    obtain ⟨r3, a3, s3, e3, h3, b5, b6⟩ := next_ok hc h2 (n - 1 - r1) (by omega)
    obtain ⟨r4, a4, s4, e4, h4, b7, b8⟩ := next_ok hc h3 4 (by omega)
    obtain ⟨m, r, a', s', e, p⟩ := ih (x - 1) (xs ++ [(⟨r1, wrap64 ((wrap64 (r1 + 1)) + r3), wrap64 (r2 * 100), wrap64 ((wrap64 (r2 * 100)) + (wrap64 (r4 * 100)))⟩ : S39)]) a4 s4 (by omega) (by rw [List.length_append]; show xs.length + 1 + d ≤ 20; omega) h4
    refine ⟨m, r, a', s', fun k hk => ?_, p⟩
    obtain ⟨k, rfl⟩ : ∃ m, k = m + 1 := ⟨k - 1, by omega⟩
    simp only [spec_l10Draw.l0]
    rw [if_pos c0, w64 (n := n - 1) (by omega), e1]
    simp only [Option.bind_some]
    rw [w64 (n := n - 1 - r1) (by omega)]
    simp only [e2, e3, e4, Option.bind_some]
    rw [if_pos (by omega), w64 (n := x - 1) (by omega)]
    exact e k (by omega)
   ·obtain ⟨m, r, a', s', e, r2⟩ := fin n x xs a s c0 (by omega) (by omega) (by omega) h
    exact ⟨m, r, a', s', fun k hk => e k (by omega), r2⟩
 obtain ⟨r1, a1, s1, e1, h1, b1, b2⟩ := next_ok hc h 6 (by omega)
 obtain ⟨r2, a2, s2, e2, h2, b3, b4⟩ := next_ok hc h1 10 (by omega)
 obtain ⟨m, r, a', s', e, p1, p2, p3, p4⟩ := l0 (2 + r1) (by omega) (by omega) 10 r2 [] a2 s2 (by omega) (by show 0 + 10 ≤ 20; omega) h2
 refine ⟨m, r, a', s', fun k hk => ?_, p1, p2, p3, p4⟩
 unfold spec_l10Draw.f
 simp only [e1, e2, Option.bind_some]
 rw [w64 (n := 2 + r1) (by omega)]
 exact e k (by omega)
end Go.Proofs.Ytlnfjhahnacmiaa.F
namespace Go.Proofs.Ytlnfjhahnacmiaa.F
open Go.RowKit Go.Proofs.YtlnfjhahnacmiaaW.PrintWords Go.Proofs.YtlnfjhahnacmiaaW.PrintLast Go.Proofs.YtlnfjhahnacmiaaW.PrintMore
set_option linter.unusedVariables false
set_option linter.unusedSimpArgs false
theorem wrap_u64 (n : Int) : Go.IntKind.u64.wrap n = n % 18446744073709551616 := by simp [Go.IntKind.wrap, Go.IntKind.bits, Go.IntKind.signed]
theorem mask_ok (x : Int) (h0 : 0 ≤ x) (h1 : x < 2147483648) : 0 ≤ Go.bits .and .u64 x 16777215 ∧ Go.bits .and .u64 x 16777215 ≤ 16777215 := by
 have e := Go.bits_mask .u64 31 (by decide) (fun n a b => by rw [wrap_u64]; exact Int.emod_eq_of_lt a (by omega)) 24 (by decide) x h0 (by omega)
 rw [show (16777215 : Int) = 2 ^ 24 - 1 by decide, e]
 omega
theorem below_ok {c : List Int} (hc : Code c) (i h n : Int) (hi : 0 ≤ i) (hn : 1 ≤ n ∧ n ≤ 4611686018427387904) : ∃ r i' h', laws_dice_below.f c i h n = some (r, i', h') ∧ 0 ≤ i' ∧ 0 ≤ r ∧ r < n := by
 have hl := hc.1
 unfold laws_dice_below.f
 generalize Go.IntKind.u64.wrap (h * 6364136223846793005) + 1442695040888963407 = z
 rw [wrap_u64 z]
 have hb := mask_ok (z % 18446744073709551616 / 8589934592) (by omega) (by omega)
 generalize Go.bits .and .u64 (z % 18446744073709551616 / 8589934592) 16777215 = y at hb ⊢
 have n0 : ¬ n = 0 := by omega
 simp only [if_neg n0]
 by_cases c1 : i < (c.length : Int)
 ·have hr := rd_code hc i
  have p := tmod_nn (a := y + rd c i) (b := n) (by omega) (by omega)
  rw [if_pos c1, if_pos hi, w64 (n := y) (by omega), w64 (n := rd c i) (by omega), w64 (n := y + rd c i) (by omega), w64 (n := i + 1) (by omega)]
  exact ⟨_, _, _, rfl, by omega, p.1, p.2⟩
 ·have p := tmod_nn (a := y) (b := n) (by omega) (by omega)
  rw [if_neg c1, w64 (n := y) (by omega)]
  exact ⟨_, _, _, rfl, hi, p.1, p.2⟩
theorem roll_ok {c : List Int} (hc : Code c) (s : Int) : ∃ h, ∀ k, c.length < k → laws_roll.f k c s = some (c, 0, h) := by
 have hl := hc.1
 have loop : ∀ (d i : Nat) (h : Int), c.length - i = d → i ≤ c.length → ∃ h', ∀ k, d < k → laws_roll.l0 k c (i : Int) c 0 h = some (c, 0, h') := by
  intro d
  induction d with
  | zero =>
   intro i h hd hi
   refine ⟨h, fun k hk => ?_⟩
   obtain ⟨k, rfl⟩ : ∃ m, k = m + 1 := ⟨k - 1, by omega⟩
   simp only [laws_roll.l0]
   rw [if_neg (by omega)]
  | succ d ih =>
   intro i h hd hi
   obtain ⟨h', e⟩ := ih (i + 1) (Go.IntKind.u64.wrap ((Go.IntKind.u64.wrap ((Go.IntKind.u64.wrap (h * 1099511628211)) + (Go.IntKind.u64.wrap (rd c i)))) + 3)) (by omega) (by omega)
   refine ⟨h', fun k hk => ?_⟩
   obtain ⟨k, rfl⟩ : ∃ m, k = m + 1 := ⟨k - 1, by omega⟩
   simp only [laws_roll.l0]
   rw [if_pos (by omega), if_pos (by omega), w64 (n := (i : Int) + 1) (by omega)]
   exact e k (by omega)
 obtain ⟨h', e⟩ := loop c.length 0 _ rfl (Nat.zero_le _)
 exact ⟨h', fun k hk => e k hk⟩
end Go.Proofs.Ytlnfjhahnacmiaa.F
namespace Go.Proofs.Ytlnfjhahnacmiaa.F
open Go.RowKit Go.Proofs.YtlnfjhahnacmiaaW.PrintWords Go.Proofs.YtlnfjhahnacmiaaW.PrintLast Go.Proofs.YtlnfjhahnacmiaaW.PrintMore
set_option linter.unusedVariables false
set_option linter.unusedSimpArgs false
theorem index_eq (a n : Int) : impl_isIndex.f a n = some (inB a 0 (wrap64 (n - 1))) := by
 unfold impl_isIndex.f
 simp only [Wi_eq, Option.bind_some]
end Go.Proofs.Ytlnfjhahnacmiaa.F
namespace Go.Proofs.Ytlnfjhahnacmiaa.F
open Go.RowKit Go.Proofs.YtlnfjhahnacmiaaW.PrintWords Go.Proofs.YtlnfjhahnacmiaaW.PrintLast Go.Proofs.YtlnfjhahnacmiaaW.PrintMore
set_option linter.unusedVariables false
set_option linter.unusedSimpArgs false
theorem law_loop (c : List Int) (n : Int) {xs : List S39} (hx : xs.length ≤ 20) (hf : ∀ i, i < xs.length → 0 ≤ (fu_at xs i).f2 ∧ (fu_at xs i).f2 ≤ 100000) (t a b : Int) (ha : a ≤ 10000000) (hab : ¬ a > b) (w : List Int) (hw : w.length ≤ 1000) (R : Option Bool) (K : Nat) (hR : ∀ k, K ≤ k → laws_FnFuses.j2 k c n xs t a b false = R) :
  ∀ (p pre : List Int) (u s tot : Int), w = pre ++ p → PathOk xs u t p s → tot + s = a → 0 ≤ tot → ∀ k, K + p.length < k → laws_FnFuses.l0 k c n xs t a b w w u tot (pre.length : Int) = R := by
 intro p
 induction p with
 | nil =>
  intro pre u s tot e hp h1 h2 k hk
  obtain ⟨k, rfl⟩ : ∃ m, k = m + 1 := ⟨k - 1, by omega⟩
  obtain ⟨p1, p2, p3⟩ := hp
  rw [List.append_nil] at e
  simp only [laws_FnFuses.l0]
  rw [e, if_neg (by omega), if_pos p2, if_pos (by omega), decide_eq_false hab]
  exact hR k (by simp only [List.length_nil] at hk; omega)
 | cons x p ih =>
  intro pre u s tot e hp h1 h2 k hk
  obtain ⟨k, rfl⟩ : ∃ m, k = m + 1 := ⟨k - 1, by omega⟩
  obtain ⟨p1, j, rfl, p3, p4, p5⟩ := hp
  have hl : pre.length < w.length := by rw [e, List.length_append, List.length_cons]; omega
  have hr : rd w (pre.length : Int) = (j : Int) := by
   unfold rd
   rw [e, Int.toNat_natCast, List.getD_eq_getElem?_getD, List.getElem?_append_right (Nat.le_refl _), Nat.sub_self]
   rfl
  have g := hf j p3
  have s0 : 0 ≤ s - (fu_at xs j).f2 := by
   cases p with
   | nil => exact p5.1
   | cons y q => exact p5.1
  have nx := ih (pre ++ [(j : Int)]) (fu_at xs j).f1 (s - (fu_at xs j).f2) (tot + (fu_at xs j).f2) (by rw [e, List.append_assoc]; rfl) p5 (by omega) (by omega) k (by simp only [List.length_cons] at hk; omega)
  simp only [laws_FnFuses.l0]
  rw [if_pos (by omega), if_pos (by omega), hr, if_neg (by omega), if_neg (by omega), if_pos (by omega), if_pos (by omega), rd_fuse, if_pos p4, if_pos (by omega), if_pos (by omega), if_pos (by omega), w64 (n := tot + (fu_at xs j).f2) (by omega), w64 (n := (pre.length : Int) + 1) (by omega)]
  rw [List.length_append] at nx
  exact nx
theorem pure_FnFuses : laws_FnFuses.Pure := by
 intro c _ _ hb
 by_cases big : (c.length : Int) > 4096
 ·refine ⟨0, ?_⟩
  unfold laws_FnFuses.f laws_big.f
  simp only [Option.bind_some, decide_eq_true big, if_true]
 have hc : Code c := code_of big hb
 obtain ⟨z, e0, h0⟩ := from_ok hc
 obtain ⟨n, xs, a1, s1, e1, h1, lx, n0, n1⟩ := fuse_draw hc h0
 obtain ⟨a, d1⟩ : ∃ a, ∀ k, 100 ≤ k → spec_DrawLitBetween.f k c = some (n, xs, a) := by
  obtain ⟨r2, a2, s2, e2, h2, b1, b2⟩ := next_ok hc h1 (n + 1) (by omega)
  obtain ⟨r3, a3, s3, e3, h3, b3, b4⟩ := next_ok hc h2 24 (by omega)
  refine ⟨wrap64 (r2 - wrap64 (Int.tdiv r3 23)), fun k hk => ?_⟩
  unfold spec_DrawLitBetween.f
  rw [e0 k (by omega), Option.bind_some]
  dsimp only
  rw [e1 k (by omega), Option.bind_some]
  dsimp only
  rw [w64 (n := n + 1) (by omega), e2, Option.bind_some]
  dsimp only
  rw [e3, Option.bind_some]
 cases h : areFuses n xs with
 | false =>
  obtain ⟨k, hk⟩ : ∃ k, k = 200000 := ⟨_, rfl⟩
  refine ⟨k + 8, ?_⟩
  unfold laws_FnFuses.f laws_big.f
  simp only [Option.bind_some, decide_eq_false big, Bool.false_eq_true, if_false, d1 (k + 8) (by omega)]
  unfold impl_LitBetween.f spec_LitBetween.f impl_FastestWay.f spec_FastestWay.f impl_nodeAsked.f spec_l10Code.f
  rw [spec_fuses n xs (by omega) (k + 8) (by omega), impl_fuses n xs (by omega) (k + 8) (by omega), h]
  have z1 : ¬ (1 : Int) = 0 := by decide
  simp only [Option.bind_some, Bool.false_eq_true, if_false, if_true, Bool.not_false, if_neg z1, like_ints [] (by simp) (k + 8) (by simp), Bool.not_true]
  rfl
 | true =>
  obtain ⟨m, rfl, _⟩ := areFuses_true h
  obtain ⟨E, L, m1, m2, hx, hf, hE, hL, hp, ⟨K, hs⟩, ⟨K', ht⟩⟩ := times_m h
  by_cases cz : cdo E m a = 0
  ·have ha := cdo_in cz
   have he : 0 ≤ rd E a := by
    by_cases x : rd E a < 0
    ·rw [cdo_at ha, if_pos x] at cz
     exact absurd cz (by decide)
    ·omega
   obtain ⟨D, c0, pD, hD⟩ := table_out m2 hx hf.1 a m (List.replicate m 0) (Nat.le_refl _) ⟨by simp, fun z => absurd z (by omega), fun u h1 h2 => absurd h2 (by omega)⟩
   have d0 := pD.2.1 (by omega)
   have t1 := table_le hf.1 pD hp.1 m a (by omega) ha.1 (Int.le_refl _) ha.2 he (by omega)
   have t2 := times_le hf.1 pD hp.1 m 0 (by omega) (by omega) (by omega) (by have := hp.1.2.1; omega) t1.1 ha.1
   have ee : rd E a = rd D 0 := by have := hp.1.2.1; omega
   obtain ⟨p, p0, ⟨J, hJ⟩, ⟨J', hJ'⟩, pk⟩ := way_some m2 hx hf.1 ha pD m 0 (by omega) (by omega) (by omega) (by omega) t1.1
   rw [← ee] at pk
   have lp := pl_pos hf.1 hp ha.1 ha.2 he
   have el := el_le hf hp m a ha.2 ha.1 ha.2 he
   -- what stands behind the loop
   obtain ⟨Q, hQ⟩ : ∃ Q, ∀ k, Q ≤ k → laws_FnFuses.j2 k c (m : Int) xs a (rd E a) (rd L a) false = some true := by
    by_cases x0 : (xs.length : Int) = 0
    ·refine ⟨1, fun k hk => ?_⟩
     obtain ⟨k, rfl⟩ : ∃ m, k = m + 1 := ⟨k - 1, by omega⟩
     simp only [laws_FnFuses.j2, Bool.false_eq_true, if_false]
     rw [if_pos x0]
    ·obtain ⟨hh, er⟩ := roll_ok hc 1001
     have hl := hc.1
     obtain ⟨r, i1, g1, r1, r2, r3, r4⟩ := below_ok hc 0 hh (xs.length : Int) (Int.le_refl _) (by omega)
     obtain ⟨i, rfl⟩ : ∃ i : Nat, r = i := ⟨r.toNat, by omega⟩
     have hw := areFuses_without h i (by omega)
     have hl := without_len xs i (by omega)
     have hfw := fol_without hf i
     obtain ⟨E', L', _, _, _, _, hE', hL', hp', _, ⟨Q, htw⟩⟩ := times_m hw
     refine ⟨Q + 5000, fun k hk => ?_⟩
     obtain ⟨k, rfl⟩ : ∃ m, k = m + 1 := ⟨k - 1, by omega⟩
     have g : inB (i : Int) 0 (wrap64 ((xs.length : Int) - 1)) = true := by
      rw [w64 (n := (xs.length : Int) - 1) (by omega), inB_true]; omega
     have wo : impl_WithoutFuse.f k (m : Int) xs (i : Int) = some (without xs i, 0) := by
      unfold impl_WithoutFuse.f
      rw [impl_fuses _ xs (by omega) k (by omega), h, index_eq, g, impl_without xs i (by omega) (by omega)]; rfl
     simp only [laws_FnFuses.j2, Bool.false_eq_true, if_false]
     rw [if_neg x0, er k (by omega)]
     simp only [Option.bind_some]
     rw [r1]
     simp only [Option.bind_some]
     rw [wo]
     simp only [Option.bind_some, if_true]
     rw [impl_between hw m1 m2 (by omega) hE' hL' htw a k (by omega), cdo_at ha]
     by_cases cc : rd E' a < 0
     ·rw [if_pos cc]
      rw [if_neg (show ¬ (4 : Int) = 0 by decide)]
      rfl
     ·have tl := less_late hf hfw (fun f hf => without_sub hf) hp hp' m a ha.2 ha.1 ha.2 (by omega)
      rw [if_neg cc]
      simp only [Option.bind_some, if_true]
      rw [if_neg (show ¬ (0 : Int) = 4 by decide), if_pos (show rd E' a ≥ rd E a from tl.2.1), decide_eq_true (show rd L' a ≥ rd L a from tl.2.2)]
   obtain ⟨k, hk⟩ : ∃ k, k = K + K' + J + J' + Q + c0 + 2000 := ⟨_, rfl⟩
   refine ⟨k + 1, ?_⟩
   have i1 : impl_FastestWay.f (k + 1) (m : Int) xs a = some (p, 0) := by
    unfold impl_FastestWay.f
    rw [impl_code1 h m1 m2 hx hE ht a (k + 1) (by omega), cz]
    simp only [Option.bind_some, if_true]
    obtain ⟨k', hk'⟩ : ∃ n, k + 1 = n + c0 := ⟨k + 1 - c0, by omega⟩
    rw [if_pos (by omega), if_pos (by omega), Int.toNat_natCast, w64 (by omega), hk', hD k']
    exact hJ' k' (by omega) [] (by simp only [List.length_nil]; omega)
   have s1 : spec_FastestWay.f (k + 1) (m : Int) xs a = some (p, 0) := by
    unfold spec_FastestWay.f
    rw [spec_code h m1 m2 hx hE hs a (k + 1) (by omega), cz]
    simp only [Option.bind_some, if_true]
    rw [hs (k + 1) (by omega)]
    simp only [Option.bind_some]
    rw [if_pos ha.1, if_pos (by omega), ee, show spec_l10Way.f (k + 1) xs 0 a (rd D 0) = _ from hJ (k + 1) (by omega)]
    rfl
   have nz : (true != ((0 : Int) != 1)) = false := rfl
   unfold laws_FnFuses.f laws_big.f
   simp only [Option.bind_some, decide_eq_false big, Bool.false_eq_true, if_false, d1 (k + 1) (by omega), i1, s1, impl_between h m1 m2 hx hE hL ht a (k + 1) (by omega), spec_between h m1 m2 hx hE hL hs a (k + 1) (by omega), if_pos cz, if_true, like_ints p (by omega) (k + 1) (by omega), impl_fuses _ xs (by omega) (k + 1) (by omega), h, nz]
   simp only [laws_FnFuses.j0, Bool.false_eq_true, if_false, if_true]
   exact law_loop c (m : Int) hx (fun i hi => by have := hf.1 i hi; omega) a (rd E a) (rd L a) (by omega) (by omega) p (by omega) _ Q hQ p [] 0 (rd E a) 0 rfl pk (by omega) (Int.le_refl _) k (by omega)
  ·obtain ⟨k, hk⟩ : ∃ k, k = K + K' + 1000 := ⟨_, rfl⟩
   refine ⟨k + 1, ?_⟩
   have i1 : impl_FastestWay.f (k + 1) (m : Int) xs a = some ([], cdo E m a) := by
    unfold impl_FastestWay.f
    rw [impl_code1 h m1 m2 hx hE ht a (k + 1) (by omega)]
    simp only [Option.bind_some]
    rw [if_neg cz]
   have s1 : spec_FastestWay.f (k + 1) (m : Int) xs a = some ([], cdo E m a) := by
    unfold spec_FastestWay.f
    rw [spec_code h m1 m2 hx hE hs a (k + 1) (by omega)]
    simp only [Option.bind_some]
    rw [if_neg cz]
   have nz : (true != (cdo E m a != 1)) = false := by
    rcases cdo_cases E m a with x | x | x <;> rw [x] <;> rfl
   unfold laws_FnFuses.f laws_big.f
   simp only [Option.bind_some, decide_eq_false big, Bool.false_eq_true, if_false, d1 (k + 1) (by omega), i1, s1, impl_between h m1 m2 hx hE hL ht a (k + 1) (by omega), spec_between h m1 m2 hx hE hL hs a (k + 1) (by omega), if_neg cz, if_true, like_ints [] (by simp) (k + 1) (by simp), impl_fuses _ xs (by omega) (k + 1) (by omega), h, nz]
   simp only [laws_FnFuses.j0, Bool.false_eq_true, if_false]
   rw [if_neg cz]
end Go.Proofs.Ytlnfjhahnacmiaa.F
namespace Go.Proofs.Ytlnfjhahnacmiaa.Pure
theorem FnFuses : Go.Proofs.Ytlnfjhahnacmiaa.F.laws_FnFuses.Pure := Go.Proofs.Ytlnfjhahnacmiaa.F.pure_FnFuses
end Go.Proofs.Ytlnfjhahnacmiaa.Pure
namespace Go.Proofs.Ytlnfjhahnacmiaa.F
end Go.Proofs.Ytlnfjhahnacmiaa.F
