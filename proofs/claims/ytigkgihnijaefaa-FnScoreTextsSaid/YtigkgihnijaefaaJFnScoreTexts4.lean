import Derived.Test.YtigkgihnijaefaaJFnScoreTexts3
import Derived.Below
import Derived.Deep.Draws
import Derived.Deep.AppendLies
import Derived.Maps.AppendAt
import Derived.OwnWalk
import Derived.Laws.BytesArg
import Derived.Laws.MakeOwn
import Derived.Laws.OwnMore
import Derived.Tactics
import Derived.Lib.ConvBytes
import Derived.Laws.Slices
import Derived.WalkKit
import Derived.KernelRfl
import Derived.RowKit3
import Derived.Deep.LoopGhost
import Derived.Deep.QuietTactic
import Derived.BigQuiet
import Derived.WideLaws
import Derived.Deep.DeepCutAuto
import Derived.Deep.CutBlock
import Derived.Deep.RegionHeld3
import Derived.Lib.AppendStr
import Derived.ArgAppend
import Derived.Laws.IdiomCopy
import Derived.RowKit
import Derived.OrdersHeld
import Derived.Laws.BitsLemmas
import Derived.Laws.StructEq
import Derived.Test.YtigkgihnijaefaaProg
namespace Go.Proofs.Ytigkgihnijaefaa.F
open Go.RowKit Go.Proofs.YtigkgihnijaefaaW.PrintWords Go.Proofs.YtigkgihnijaefaaW.PrintLast Go.Proofs.YtigkgihnijaefaaW.PrintMore
attribute [local go_sem] max2_int min2_int max_two min_two max_three min_three max_four min_four   -- for this text's walks alone
set_option linter.unusedVariables false
set_option linter.unusedSimpArgs false
def spec_ReadScore.l0 : Nat → List (S56) → List ByteArray → Int → Option ((List (S56)) × Int)
 | 0, _, _, _ => none
 | k + 1, x4, x5, x6 => if x6 < (x5.length : Int) then (if 0 ≤ x6 then ((spec_l01Split.f k (rdOf ByteArray.empty x5 x6) 42).bind fun t597 => ((spec_l01Numbers.f k t597).bind fun bt600 => (if bt600.2 = true then (if (bt600.1.length : Int) = 2 then (if 0 < (bt600.1.length : Int) then (if 1 < (bt600.1.length : Int) then (if x4.length < 8796093022208 then (spec_ReadScore.l0 k (x4 ++ [(⟨rd bt600.1 0, rd bt600.1 1⟩ : S56)]) x5 (wrap64 (x6 + 1))) else (none)) else (none)) else (none)) else (some (([] : List (S56)), 6))) else (some (([] : List (S56)), 6))))) else (none)) else ((spec_IsScore.f k x4).bind fun t595 => (if t595 = true then (some (x4, 0)) else (some (([] : List (S56)), 6))))
def spec_ReadScore.f (k : Nat) (a0 : ByteArray) : Option ((List (S56)) × Int) := (spec_l01Split.f k a0 44).bind fun t592 => (spec_ReadScore.l0 k (([] : List (S56))) t592 0)
theorem spec_ReadScore.mono_l : ∀ k, (∀ y0 y1 y2, LeO (spec_ReadScore.l0 k y0 y1 y2) (spec_ReadScore.l0 (k + 1) y0 y1 y2))
 | 0 => fun _ _ _ r h => by simp [spec_ReadScore.l0] at h
 | k + 1 => by
  have ih0 := spec_ReadScore.mono_l k
  ·intro y0 y1 y2
   unfold spec_ReadScore.l0
   repeat' first
   | (with_reducible exact ih0 _ _ _)
   | (with_reducible exact spec_IsScore.mono _ _)
   | (with_reducible exact spec_l01Numbers.mono _ _)
   | (with_reducible exact spec_l01Split.mono _ _ _)
   | (with_reducible exact LeO.refl _)
   | (with_reducible exact LeO.none _)
   | (with_reducible refine LeO.ite ?_ ?_)
   | (with_reducible refine LeO.bind ?_ (fun _ => ?_))
   | exact ih0 _ _ _
   | exact spec_IsScore.mono _ _
   | exact spec_l01Numbers.mono _ _
   | exact spec_l01Split.mono _ _ _
   | exact LeO.none _
   | refine LeO.ite ?_ ?_
   | refine LeO.bind ?_ (fun _ => ?_)
theorem spec_ReadScore.mono : ∀ a0 k, LeO (spec_ReadScore.f k a0) (spec_ReadScore.f (k + 1) a0) := by
 intro a0 k
 have ih0 := spec_ReadScore.mono_l k
 unfold spec_ReadScore.f
 repeat' first
   | (with_reducible exact ih0 _ _ _)
   | (with_reducible exact spec_IsScore.mono _ _)
   | (with_reducible exact spec_l01Numbers.mono _ _)
   | (with_reducible exact spec_l01Split.mono _ _ _)
   | (with_reducible exact LeO.refl _)
   | (with_reducible exact LeO.none _)
   | (with_reducible refine LeO.ite ?_ ?_)
   | (with_reducible refine LeO.bind ?_ (fun _ => ?_))
   | exact ih0 _ _ _
   | exact spec_IsScore.mono _ _
   | exact spec_l01Numbers.mono _ _
   | exact spec_l01Split.mono _ _ _
   | exact LeO.none _
   | refine LeO.ite ?_ ?_
   | refine LeO.bind ?_ (fun _ => ?_)
def spec_ReadScore.T9 : Bool × List (List Nat × List Nat) := (true, [([], []), ([], []), ([1], [1]), ([2], [2]), ([], []), ([4], [4]), ([5], [5]), ([3, 6], [3, 6]), ([7], [7]), ([0, 8], [0, 8]), ([9, 9, 0, 1, 2, 3, 4, 5, 6, 7, 8, 9], [0, 9])])
def spec_ReadScore.B9 : List Nat := [0, 0, 2, 6, 0, 16, 48, 126, 254, 511, 1023]
theorem spec_ReadScore.tab9 : rtab .any (opsOf Try.f33 9) = spec_ReadScore.T9 := by kernel_rfl
theorem spec_ReadScore.bits9 : waitsOk spec_ReadScore.T9.2 spec_ReadScore.B9 = true := by kernel_rfl
set_option maxHeartbeats 8000000 in
set_option maxRecDepth 100000 in
theorem spec_ReadScore.calls (k : Nat) (a0 : ByteArray) (r1 : List (S56)) (r2 : Int) (w : World) (h : spec_ReadScore.f k a0 = some (r1, r2)) :
  Calls Try.prog 33 #[.string a0] w fun e w' => ∃ v0_ : Value, e = .returned (.tuple #[v0_, .int .i64 r2]) ∧ Kd.R k56 56 w' w.heap.size (fun _ => True) v0_ r1 ∧ Below w.heap.size w w' := by
 have hu56 := Try.underlying56
 have HB := Aside0.mk (Below.refl w.heap.size w)
 have H : ((spec_l01Split.f k a0 44).bind fun t592 => (spec_ReadScore.l0 k (([] : List (S56))) t592 0)) = some (r1, r2) := h
 clear h
 obtain ⟨y589, hy589⟩ : ∃ y_ : List (S56), y_ = (([] : List (S56))) := ⟨_, rfl⟩
 replace H : ((spec_l01Split.f k a0 44).bind fun t592 => (spec_ReadScore.l0 k y589 t592 0)) = some (r1, r2) := by first | (rw [hy589]; with_reducible exact H) | (have H2_ := (Option.bind_some _ _).symm.trans H; rw [hy589]; with_reducible exact H2_) | (have H2_ := (Option.bind_some _ _).symm.trans H; with_reducible exact H2_) | with_reducible exact H | (rw [hy589]; exact H) | exact H
 have Ny589 := Aside0.mk hy589
 clear hy589
 replace H := Option.bind_eq_some_iff.mp H
 obtain ⟨t592, A20, H⟩ := H
 replace H : (spec_ReadScore.l0 k y589 t592 0) = some (r1, r2) := H
 have A2 := Aside0.mk A20
 clear A20
 have H' := Aside0.mk H
 clear H
 go_enter Try.func33, Try.ntmps33
 go_wp2_with (first | ((with_reducible refine gate_dst (N := 9) rfl ?_); (try (refine gate_guard (by rfl) ?_; dsimp only)); refine Kd.R_lit k56 _ 56 ?hg (N := 9) ?hd (xs := ([] : List (S56))) (inner := []) (ok := fun _ => True) (okp := fun _ => True) ?hr ?hp (fun _ hk => hk) trivial (Below.refl _ _) (Nat.le_refl _) (by simp) ?_; (case hd => rfl); (case hg => rfl); (case hr => first | (go_simp; done) | (go_simp; rfl)); (case hp => exact (Reps.none _ _)); intro v590 w3 ho4 hb hg_ hnew_; clear hg_ hnew_; (first | rw [← Ny589.out] at ho4 | (simp only [Int.reduceToNat] at ho4; rw [← Ny589.out] at ho4)); have n0_ := Aside0.mk (Kd.R_lower ho4 (below_size (by repeat (first | (with_reducible first | exact HB.out | apply below_alloc | apply pw_below_drewN | apply below_drew1) | exact HB.out)))); have n1_ := Aside0.mk (below_step (by repeat (first | (with_reducible first | exact HB.out | apply below_alloc | apply pw_below_drewN | apply below_drew1) | exact HB.out)) hb); clear HB; have HO591 := n0_; have HB := n1_; clear n0_ n1_; clear hb ho4) | ((with_reducible refine gate_callee (f := 57) rfl ?_); refine goesL_ (some 11) rfl rfl Try.func57 (by kernel_rfl) rfl #[.string a0, .int .u8 44] rfl (by (try simp only [List.map_toArray, List.map_cons, List.map_nil]); first | done | rfl | (simp only [List.length_drop, List.length_take]; rfl)) ?_; (with_reducible refine (spec_l01Split.calls k a0 44 t592 _ A2.out).mono ?_); rintro e w5 ⟨v593, rfl, ho0, hb⟩; refine ⟨_, rfl, ?_⟩; have n0_ := Aside0.mk (Kd.R_below (by (with_reducible repeat (first | apply Kd.R_alloc | apply Kd.R_drewN | apply Kd.R_drew)); exact HO591.out) hb); have n1_ := Aside0.mk (Kd.R_lower ho0 (below_size (by repeat (first | (with_reducible first | exact HB.out | apply below_alloc | apply pw_below_drewN | apply below_drew1) | exact HB.out)))); have n2_ := Aside0.mk (below_step (by repeat (first | (with_reducible first | exact HB.out | apply below_alloc | apply pw_below_drewN | apply below_drew1) | exact HB.out)) hb); clear HO591; clear HB; have HO591 := n0_; have HO594 := n1_; have HB := n2_; clear n0_ n1_ n2_; (try clear hb); (try clear hb2); (try clear hk); (try clear hi); (try clear ho0)))
 go_loopg [4, 6] k (fun kq v4 v6 w' => ∃ (x4_1 : List (S56)) (x6_1 : Int), v6 = .int .i64 x6_1 ∧ Aside0 (spec_ReadScore.l0 kq x4_1 t592 x6_1 = some (r1, r2)) ∧ Aside0 (kq ≤ k) ∧ Aside0 (Kd.R k56 56 w' w.heap.size (fun _ => True) v4 x4_1) ∧ Aside0 (Kd.R Kd.string 9 w' w.heap.size (fun _ => True) v593 t592) ∧ Aside0 (Below w.heap.size w w'))
 case atStart => exact ⟨(y589), (0), (by first | rfl | (simp; done) | (simp [*]; done)), H', ⟨Nat.le_refl _⟩, ⟨by (with_reducible repeat (first | apply Kd.R_alloc | apply Kd.R_drewN | apply Kd.R_drew)); exact HO591.out⟩, ⟨by (with_reducible repeat (first | apply Kd.R_alloc | apply Kd.R_drewN | apply Kd.R_drew)); exact HO594.out⟩, ⟨by repeat (first | (with_reducible first | exact HB.out | apply below_alloc | apply pw_below_drewN | apply below_drew1) | exact HB.out)⟩⟩
 case round =>
  clear H'
  try clear p2
  try clear c3
  try clear c5
  obtain ⟨x4_1, x6_1, rfl, HA, HK1, HO_4, HO_5, HB⟩ := hrel
  cases gk with
  | zero => exact absurd HA.out (by simp [spec_ReadScore.l0])
  | succ k1 =>
   have H := HA.out
   clear HA
   simp only [spec_ReadScore.l0] at H
   by_cases c6 : x6_1 < (t592.length : Int)
   ·rw [if_pos c6] at H
    have c6b0 : decide (x6_1 < (t592.length : Int)) = true := decide_eq_true c6
    clear c6
    by_cases c7 : 0 ≤ x6_1
    ·rw [if_pos c7] at H
     have c7b0 : decide (0 ≤ x6_1) = true := decide_eq_true c7
     clear c7
     replace H := Option.bind_eq_some_iff.mp H
     obtain ⟨t597, A80, H⟩ := H
     replace H : ((spec_l01Numbers.f k1 t597).bind fun bt600 => (if bt600.2 = true then (if (bt600.1.length : Int) = 2 then (if 0 < (bt600.1.length : Int) then (if 1 < (bt600.1.length : Int) then (if x4_1.length < 8796093022208 then (spec_ReadScore.l0 k1 (x4_1 ++ [(⟨rd bt600.1 0, rd bt600.1 1⟩ : S56)]) t592 (wrap64 (x6_1 + 1))) else (none)) else (none)) else (none)) else (some (([] : List (S56)), 6))) else (some (([] : List (S56)), 6)))) = some (r1, r2) := H
     have A8 := Aside0.mk A80
     clear A80
     replace H := Option.bind_eq_some_iff.mp H
     obtain ⟨⟨t600, t601⟩, A90, H⟩ := H
     replace H : (if t601 = true then (if (t600.length : Int) = 2 then (if 0 < (t600.length : Int) then (if 1 < (t600.length : Int) then (if x4_1.length < 8796093022208 then (spec_ReadScore.l0 k1 (x4_1 ++ [(⟨rd t600 0, rd t600 1⟩ : S56)]) t592 (wrap64 (x6_1 + 1))) else (none)) else (none)) else (none)) else (some (([] : List (S56)), 6))) else (some (([] : List (S56)), 6))) = some (r1, r2) := H
     have A9 := Aside0.mk A90
     clear A90
     by_cases c10 : t601 = true
     ·subst c10
      have H1 : (if (t600.length : Int) = 2 then (if 0 < (t600.length : Int) then (if 1 < (t600.length : Int) then (if x4_1.length < 8796093022208 then (spec_ReadScore.l0 k1 (x4_1 ++ [(⟨rd t600 0, rd t600 1⟩ : S56)]) t592 (wrap64 (x6_1 + 1))) else (none)) else (none)) else (none)) else (some (([] : List (S56)), 6))) = some (r1, r2) := by rw [if_pos rfl] at H; exact H
      clear H
      have H := H1
      clear H1
      by_cases c11 : (t600.length : Int) = 2
      ·rw [if_pos c11] at H
       have c11b0 : ((t600.length : Int) == 2) = true := beq_iff_eq.mpr c11
       have c11b1 : ((t600.length : Int) != 2) = false := bne_eq_false_iff_eq.mpr c11
       clear c11
       by_cases c12 : 0 < (t600.length : Int)
       ·rw [if_pos c12] at H
        have c12b0 : decide (0 < (t600.length : Int)) = true := decide_eq_true c12
        have c12b1 : decide (0 < t600.length) = true := decide_eq_true (by omega)
        clear c12
        by_cases c13 : 1 < (t600.length : Int)
        ·rw [if_pos c13] at H
         have c13b0 : decide (1 < (t600.length : Int)) = true := decide_eq_true c13
         have c13b1 : decide (1 < t600.length) = true := decide_eq_true (by omega)
         clear c13
         by_cases c14 : x4_1.length < 8796093022208
         ·rw [if_pos c14] at H
          have LMc14 := Aside0.mk c14
          clear c14
          obtain ⟨y606, hy606⟩ : ∃ y_ : List (S56), y_ = (x4_1 ++ [(⟨rd t600 0, rd t600 1⟩ : S56)]) := ⟨_, rfl⟩
          replace H : (spec_ReadScore.l0 k1 y606 t592 (wrap64 (x6_1 + 1))) = some (r1, r2) := by first | (rw [hy606]; with_reducible exact H) | (have H2_ := (Option.bind_some _ _).symm.trans H; rw [hy606]; with_reducible exact H2_) | (have H2_ := (Option.bind_some _ _).symm.trans H; with_reducible exact H2_) | with_reducible exact H | (rw [hy606]; exact H) | exact H
          have Ny606 := Aside0.mk hy606
          clear hy606
          have H' := Aside0.mk H
          clear H
          obtain ⟨Ao15, co15, eo15⟩ := Kd.R_slice HO_5.out
          subst eo15
          have p596 : 0 ≤ (x6_1 : Int) := of_decide_eq_true (by first | (with_reducible assumption) | assumption)
          have q596 : x6_1 < (t592.length : Int) := of_decide_eq_true (by first | (with_reducible assumption) | assumption)
          obtain ⟨ad596, e596, hx596_0⟩ := Kd.at_string (Kd.R_reads' HO_5.out).2.2 x6_1 p596 q596
          cases e596
          replace p596 := eq_true p596
          replace q596 := eq_true q596
          try go_wp2_with (first | ((with_reducible refine gate_callee (f := 57) rfl ?_); refine goesL_ (some 23) rfl rfl Try.func57 (by kernel_rfl) rfl #[.string (rdOf ByteArray.empty t592 x6_1), .int .u8 42] rfl (by (try simp only [List.map_toArray, List.map_cons, List.map_nil]); first | done | rfl | (simp only [List.length_drop, List.length_take]; rfl)) ?_; (with_reducible refine (spec_l01Split.calls k1 (rdOf ByteArray.empty t592 x6_1) 42 t597 _ A8.out).mono ?_); rintro e w16 ⟨v598, rfl, ho0, hb⟩; refine ⟨_, rfl, ?_⟩; have n0_ := Aside0.mk (Kd.R_below (by (with_reducible repeat (first | apply Kd.R_alloc | apply Kd.R_drewN | apply Kd.R_drew)); exact HO_4.out) hb); have n1_ := Aside0.mk (Kd.R_elder' (by (with_reducible repeat (first | apply Kd.R_alloc | apply Kd.R_drewN | apply Kd.R_drew)); exact HO_5.out) (Kd.R_base ho0) hb); have n2_ := Aside0.mk (Kd.R_lower (Kd.R_new' ho0 (Kd.R_lt (by (with_reducible repeat (first | apply Kd.R_alloc | apply Kd.R_drewN | apply Kd.R_drew)); exact HO_5.out))) (below_size (by repeat (first | (with_reducible first | exact HB.out | apply below_alloc | apply pw_below_drewN | apply below_drew1) | exact HB.out)))); have n3_ := Aside0.mk (below_step (by repeat (first | (with_reducible first | exact HB.out | apply below_alloc | apply pw_below_drewN | apply below_drew1) | exact HB.out)) hb); clear HO_4; clear HO_5; clear HB; have HO_4 := n0_; have HO_5 := n1_; have HO599 := n2_; have HB := n3_; clear n0_ n1_ n2_ n3_; (try clear hb); (try clear hb2); (try clear hk); (try clear hi); (try clear ho0); obtain ⟨Ao17, co17, eo17⟩ := Kd.R_slice HO599.out; subst eo17) | ((with_reducible refine gate_callee (f := 58) rfl ?_); refine goesL_ (some 24) rfl rfl Try.func58 (by kernel_rfl) rfl #[.slice Ao17 t597.length co17] rfl (by (try simp only [List.map_toArray, List.map_cons, List.map_nil]); first | done | rfl | (simp only [List.length_drop, List.length_take]; rfl)) ?_; (with_reducible refine (spec_l01Numbers.calls k1 _ _ t597 t600 true _ ?side1 ?side2 A9.out).mono ?_); (case side1 => repeat (first | exact (Kd.R_reads' HO599.out).2.2 | (with_reducible refine Kd.C_alloc ?_ _) | (with_reducible refine Kd.C_drewN ?_ _) | (with_reducible refine Kd.C_drew ?_))); (case side2 => exact (Kd.R_reads' HO599.out).2.1); rintro e w18 ⟨v602, rfl, ho0, hb⟩; refine ⟨_, rfl, ?_⟩; have n0_ := Aside0.mk (Kd.R_below (by (with_reducible repeat (first | apply Kd.R_alloc | apply Kd.R_drewN | apply Kd.R_drew)); exact HO_4.out) hb); have n1_ := Aside0.mk (Kd.R_below (by (with_reducible repeat (first | apply Kd.R_alloc | apply Kd.R_drewN | apply Kd.R_drew)); exact HO_5.out) hb); have n2_ := Aside0.mk (Kd.R_below (by (with_reducible repeat (first | apply Kd.R_alloc | apply Kd.R_drewN | apply Kd.R_drew)); exact HO599.out) hb); have n3_ := Aside0.mk (Kd.R_lower ho0 (below_size (by repeat (first | (with_reducible first | exact HB.out | apply below_alloc | apply pw_below_drewN | apply below_drew1) | exact HB.out)))); have n4_ := Aside0.mk (below_step (by repeat (first | (with_reducible first | exact HB.out | apply below_alloc | apply pw_below_drewN | apply below_drew1) | exact HB.out)) hb); clear HO_4; clear HO_5; clear HO599; clear HB; have HO_4 := n0_; have HO_5 := n1_; have HO599 := n2_; have HO603 := n3_; have HB := n4_; clear n0_ n1_ n2_ n3_ n4_; (try clear hb); (try clear hb2); (try clear hk); (try clear hi); (try clear ho0); obtain ⟨Ao19, co19, eo19⟩ := Kd.R_slice HO603.out; subst eo19))
          have n0_ := Aside0.mk (Kd.R_drew HO_4.out)
          have n1_ := Aside0.mk (Kd.R_drew HO_5.out)
          have n2_ := Aside0.mk (Kd.R_drew HO599.out)
          have n3_ := Aside0.mk (Kd.R_drew HO603.out)
          have n4_ := Aside0.mk (below_drew1 HB.out)
          clear HO_4
          clear HO_5
          clear HO599
          clear HO603
          clear HB
          have HO_4 := n0_
          have HO_5 := n1_
          have HO599 := n2_
          have HO603 := n3_
          have HB := n4_
          clear n0_ n1_ n2_ n3_ n4_
          have p604 : 0 ≤ (0 : Int) := (by omega)
          have q604 : 0 < (t600.length : Int) := of_decide_eq_true (by first | (with_reducible assumption) | assumption)
          obtain ⟨ad604, e604, hx604_0⟩ := Kd.at_int (Kd.R_reads' HO603.out).2.2 0 p604 q604
          cases e604
          have qi604 : (0 < t600.length) = True := eq_true (by omega)
          (try rw [show ((0 : Int)).toNat = 0 from rfl] at hx604_0)
          (try rw [Addr.add_zero'] at hx604_0)
          replace p604 := eq_true p604
          replace q604 := eq_true q604
          have p605 : 0 ≤ (1 : Int) := (by omega)
          have q605 : 1 < (t600.length : Int) := of_decide_eq_true (by first | (with_reducible assumption) | assumption)
          obtain ⟨ad605, e605, hx605_0⟩ := Kd.at_int (Kd.R_reads' HO603.out).2.2 1 p605 q605
          obtain rfl : ad604 = ad605 := (by injection e605)
          (try simp only [show (1 : Int).toNat = 1 from rfl, Nat.reduceMul, Nat.reduceEqDiff, Go.Addr.add, ↓reduceIte] at hx605_0)
          have qi605 : (1 < t600.length) = True := eq_true (by omega)
          (try rw [show ((1 : Int)).toNat = 1 from rfl] at hx605_0)
          replace p605 := eq_true p605
          replace q605 := eq_true q605
          refine start_ (n := 11) (S := fun w' => w'.cell? ad604 = some (.int .i64 (rd t600 0)) ∧ w'.cell? ⟨ad604.block, ad604.off + 1, none⟩ = some (.int .i64 (rd t600 1))) (ds := [8, 9]) #[false, false, false, false, false, false, false, false, false, false, false] (by kernel_rfl) rfl rfl ⟨hx604_0, hx605_0⟩ (fun hHeld => ?_); refine with_tabW spec_ReadScore.tab9 spec_ReadScore.bits9 (fun HT_ HW_ => ?_)
          generalize w18.drew = w20 at HO_4 HO_5 HO599 HO603 HB hx604_0 hx605_0 hHeld ⊢
          refine pure_ (i := 0) (N := some 34) (v := ?_) (a' := ?_) #[true, false, false, false, false, false, false, false, false, false, false] rfl rfl (any_of HT_.out (by kernel_rfl)) (fun _ _ _ h => h) (Or.inl ⟨by rfl, ?_⟩) ?_ ?_
          rotate_left
          ·intro w'
           go_simp
           with_reducible rfl
          rotate_left
          ·simp only [Act.put, List.setIfInBounds_toArray, List.set_cons_zero, List.set_cons_succ, i64_w, i32_w]
           rfl
          refine pure_ (i := 1) (N := some 35) (v := ?_) (a' := ?_) #[true, true, false, false, false, false, false, false, false, false, false] rfl rfl (any_of HT_.out (by kernel_rfl)) (fun _ _ _ h => h) (Or.inl ⟨by rfl, ?_⟩) ?_ ?_
          rotate_left
          ·intro w'
           go_simp
           with_reducible rfl
          rotate_left
          ·simp only [Act.put, List.setIfInBounds_toArray, List.set_cons_zero, List.set_cons_succ, i64_w, i32_w]
           rfl
          refine pure_ (i := 2) (N := some 36) (v := ?_) (a' := ?_) #[true, true, true, false, false, false, false, false, false, false, false] rfl rfl (any_of HT_.out (by kernel_rfl)) (fun _ _ _ h => h) (Or.inl ⟨by rfl, ?_⟩) ?_ ?_
          rotate_left
          ·intro w'
           go_simp
           with_reducible rfl
          rotate_left
          ·simp only [Act.put, List.setIfInBounds_toArray, List.set_cons_zero, List.set_cons_succ, i64_w, i32_w]
           rfl
          refine pure_ (i := 4) (N := some 38) (v := ?_) (a' := ?_) #[true, true, true, false, true, false, false, false, false, false, false] rfl rfl (any_of HT_.out (by kernel_rfl)) (fun _ _ _ h => h) (Or.inl ⟨by rfl, ?_⟩) ?_ ?_
          rotate_left
          ·intro w'
           go_simp
           with_reducible rfl
          rotate_left
          ·simp only [Act.put, List.setIfInBounds_toArray, List.set_cons_zero, List.set_cons_succ, i64_w, i32_w]
           rfl
          refine pure_ (i := 5) (N := some 39) (v := ?_) (a' := ?_) #[true, true, true, false, true, true, false, false, false, false, false] rfl rfl (any_of HT_.out (by kernel_rfl)) (fun _ _ _ h => h) (Or.inl ⟨by rfl, ?_⟩) ?_ ?_
          rotate_left
          ·intro w'
           go_simp
           with_reducible rfl
          rotate_left
          ·simp only [Act.put, List.setIfInBounds_toArray, List.set_cons_zero, List.set_cons_succ, i64_w, i32_w]
           rfl
          refine take_ (i := 3) (N := some 37) (v := ?_) (a' := ?_) #[true, true, true, true, true, true, false, false, false, false, false] rfl rfl (take_ofW HT_.out HW_.out (by kernel_rfl)) (fun _ _ _ h => h) (Or.inl ⟨by rfl, ?_⟩) hHeld ?_ ?_
          rotate_left
          ·rintro w' ⟨s0, s1⟩
           go_simp
           with_reducible rfl
          rotate_left
          ·simp only [Act.put, List.setIfInBounds_toArray, List.set_cons_zero, List.set_cons_succ, i64_w, i32_w]
           rfl
          refine take_ (i := 6) (N := some 40) (v := ?_) (a' := ?_) #[true, true, true, true, true, true, true, false, false, false, false] rfl rfl (take_ofW HT_.out HW_.out (by kernel_rfl)) (fun _ _ _ h => h) (Or.inl ⟨by rfl, ?_⟩) hHeld ?_ ?_
          rotate_left
          ·rintro w' ⟨s0, s1⟩
           go_simp
           with_reducible rfl
          rotate_left
          ·simp only [Act.put, List.setIfInBounds_toArray, List.set_cons_zero, List.set_cons_succ, i64_w, i32_w]
           rfl
          refine pure_ (i := 7) (N := some 41) (v := ?_) (a' := ?_) #[true, true, true, true, true, true, true, true, false, false, false] rfl rfl (any_of HT_.out (by kernel_rfl)) (fun _ _ _ h => h) (Or.inl ⟨by rfl, ?_⟩) ?_ ?_
          rotate_left
          ·intro w'
           go_simp
           with_reducible rfl
          rotate_left
          ·simp only [Act.put, List.setIfInBounds_toArray, List.set_cons_zero, List.set_cons_succ, i64_w, i32_w]
           rfl
          refine last_ (i := 8) (N := some 42) #[true, true, true, true, true, true, true, true, true, false, false] rfl rfl (one_of HT_.out (by kernel_rfl)) (by decide) (fun K hK => ?_)
          refine value_ (w1 := ?_) (v := ?_) (by rfl) rfl ?_ ?_
          rotate_left 2
          ·go_simp
           constructor
           ·rfl
           ·rfl
          refine hK.out _ _ ?_
          clear hK K
          refine norm_ (a' := ?_) ?_ ?_
          rotate_left
          ·show Act.put _ (some 42) _ = _
           simp only [Act.put, List.setIfInBounds_toArray, List.set_cons_zero, List.set_cons_succ, i64_w, i32_w]
           rfl
          refine last_ (i := 9) (N := some 43) #[true, true, true, true, true, true, true, true, true, true, false] rfl rfl (one_of HT_.out (by kernel_rfl)) (by decide) (fun K hK => ?_)
          refine Kd.R_append_step k56 (w0 := w) w.heap.size (by rfl) (.tmp 34) (.tmp 42) 24 56 (.agg #[(.int .i64 0), (.int .i64 0)]) 16 rfl Try.underlying24 info56 rfl (by decide) (by omega) u4 x4_1 (⟨rd t600 0, rd t600 1⟩ : S56) [.int .i64 (rd t600 0), .int .i64 (rd t600 1)] (fun _ => True) (fun _ => False) rfl rfl ?aP (fun _ hk => hk.elim) ?aF ?aO ?aB ?aS ?aL ?_
          (case aP => exact k56_mkM _ _ _ (⟨rd t600 0, rd t600 1⟩ : S56))
          (case aB => exact (by repeat (first | (with_reducible first | exact HB.out | apply below_alloc | apply pw_below_drewN | apply below_drew1) | exact HB.out)))
          (case aF => exact (fun _ _ => trivial))
          (case aO => exact (by (with_reducible repeat (first | apply Kd.R_alloc | apply Kd.R_drewN | apply Kd.R_drew)); exact HO_4.out))
          (case aS => exact (below_size (by repeat (first | (with_reducible first | exact HB.out | apply below_alloc | apply pw_below_drewN | apply below_drew1) | exact HB.out))))
          (case aL => have := LMc14.out; omega)
          intro v607 w21 ho hb hg hat
          rw [← Ny606.out] at ho
          have n0_ := Aside0.mk (Kd.R_over' (by (with_reducible repeat (first | apply Kd.R_alloc | apply Kd.R_drewN | apply Kd.R_drew)); exact HO_5.out) (Kd.R_typed (by (with_reducible repeat (first | apply Kd.R_alloc | apply Kd.R_drewN | apply Kd.R_drew)); exact HO_4.out)) (by decide) hg)
          have n1_ := Aside0.mk (Kd.R_over' (by (with_reducible repeat (first | apply Kd.R_alloc | apply Kd.R_drewN | apply Kd.R_drew)); exact HO599.out) (Kd.R_typed (by (with_reducible repeat (first | apply Kd.R_alloc | apply Kd.R_drewN | apply Kd.R_drew)); exact HO_4.out)) (by decide) hg)
          have n2_ := Aside0.mk (Kd.R_over' (by (with_reducible repeat (first | apply Kd.R_alloc | apply Kd.R_drewN | apply Kd.R_drew)); exact HO603.out) (Kd.R_typed (by (with_reducible repeat (first | apply Kd.R_alloc | apply Kd.R_drewN | apply Kd.R_drew)); exact HO_4.out)) (by decide) hg)
          have n3_ := Aside0.mk (hb)
          have n4_ := Aside0.mk (ho)
          clear HO_5
          clear HO599
          clear HO603
          clear HB
          clear HO_4
          have HO_5 := n0_
          have HO599 := n1_
          have HO603 := n2_
          have HB := n3_
          have HO608 := n4_
          clear n0_ n1_ n2_ n3_ n4_
          clear ho hb hg hat
          refine hK.out _ _ ?_
          clear hK K
          refine norm_ (a' := ?_) ?_ ?_
          rotate_left
          ·show Act.put _ (some 43) _ = _
           simp only [Act.put, List.setIfInBounds_toArray, List.set_cons_zero, List.set_cons_succ, i64_w, i32_w]
           rfl
          refine pure_ (i := 10) (N := some 4) (v := ?_) (a' := ?_) #[true, true, true, true, true, true, true, true, true, true, true] rfl rfl (any_of HT_.out (by kernel_rfl)) (fun _ _ _ h => h) (Or.inl ⟨by rfl, ?_⟩) ?_ ?_
          rotate_left
          ·intro w'
           go_simp
           with_reducible rfl
          rotate_left
          ·simp only [Act.put, List.setIfInBounds_toArray, List.set_cons_zero, List.set_cons_succ, i64_w, i32_w]
           rfl
          refine done_ (done_of HT_.out (by kernel_rfl)) ?_
          try go_wp2
          go_roundg k1
          case measure => have := HK1.out; omega
          case rel => exact ⟨(y606), (wrap64 (x6_1 + 1)), (by first | rfl | (simp; done) | (simp [*]; done)), H', ⟨by have := HK1.out; omega⟩, ⟨by (with_reducible repeat (first | apply Kd.R_alloc | apply Kd.R_drewN | apply Kd.R_drew)); exact HO608.out⟩, ⟨by (with_reducible repeat (first | apply Kd.R_alloc | apply Kd.R_drewN | apply Kd.R_drew)); exact Kd.R_mono HO_5.out (fun _ hk => trivial)⟩, ⟨by repeat (first | (with_reducible first | exact HB.out | apply below_alloc | apply pw_below_drewN | apply below_drew1) | exact HB.out)⟩⟩
         ·rw [if_neg c14] at H
          exact absurd H (by simp)
        ·rw [if_neg c13] at H
         exact absurd H (by simp)
       ·rw [if_neg c12] at H
        exact absurd H (by simp)
      ·rw [if_neg c11] at H
       have c11b0 : ((t600.length : Int) == 2) = false := beq_eq_false_iff_ne.mpr c11
       have c11b1 : ((t600.length : Int) != 2) = true := bne_iff_ne.mpr c11
       simp only [Option.some.injEq, Prod.mk.injEq] at H
       obtain ⟨rfl, rfl⟩ := H
       obtain ⟨Ao22, co22, eo22⟩ := Kd.R_slice HO_5.out
       subst eo22
       have p596 : 0 ≤ (x6_1 : Int) := of_decide_eq_true (by first | (with_reducible assumption) | assumption)
       have q596 : x6_1 < (t592.length : Int) := of_decide_eq_true (by first | (with_reducible assumption) | assumption)
       obtain ⟨ad596, e596, hx596_0⟩ := Kd.at_string (Kd.R_reads' HO_5.out).2.2 x6_1 p596 q596
       cases e596
       replace p596 := eq_true p596
       replace q596 := eq_true q596
       go_wp2_with (first | ((with_reducible refine gate_callee (f := 57) rfl ?_); refine goesL_ (some 23) rfl rfl Try.func57 (by kernel_rfl) rfl #[.string (rdOf ByteArray.empty t592 x6_1), .int .u8 42] rfl (by (try simp only [List.map_toArray, List.map_cons, List.map_nil]); first | done | rfl | (simp only [List.length_drop, List.length_take]; rfl)) ?_; (with_reducible refine (spec_l01Split.calls k1 (rdOf ByteArray.empty t592 x6_1) 42 t597 _ A8.out).mono ?_); rintro e w23 ⟨v598, rfl, ho0, hb⟩; refine ⟨_, rfl, ?_⟩; have n0_ := Aside0.mk (Kd.R_below (by (with_reducible repeat (first | apply Kd.R_alloc | apply Kd.R_drewN | apply Kd.R_drew)); exact HO_4.out) hb); have n1_ := Aside0.mk (Kd.R_elder' (by (with_reducible repeat (first | apply Kd.R_alloc | apply Kd.R_drewN | apply Kd.R_drew)); exact HO_5.out) (Kd.R_base ho0) hb); have n2_ := Aside0.mk (Kd.R_lower (Kd.R_new' ho0 (Kd.R_lt (by (with_reducible repeat (first | apply Kd.R_alloc | apply Kd.R_drewN | apply Kd.R_drew)); exact HO_5.out))) (below_size (by repeat (first | (with_reducible first | exact HB.out | apply below_alloc | apply pw_below_drewN | apply below_drew1) | exact HB.out)))); have n3_ := Aside0.mk (below_step (by repeat (first | (with_reducible first | exact HB.out | apply below_alloc | apply pw_below_drewN | apply below_drew1) | exact HB.out)) hb); clear HO_4; clear HO_5; clear HB; have HO_4 := n0_; have HO_5 := n1_; have HO599 := n2_; have HB := n3_; clear n0_ n1_ n2_ n3_; (try clear hb); (try clear hb2); (try clear hk); (try clear hi); (try clear ho0); obtain ⟨Ao24, co24, eo24⟩ := Kd.R_slice HO599.out; subst eo24) | ((with_reducible refine gate_callee (f := 58) rfl ?_); refine goesL_ (some 24) rfl rfl Try.func58 (by kernel_rfl) rfl #[.slice Ao24 t597.length co24] rfl (by (try simp only [List.map_toArray, List.map_cons, List.map_nil]); first | done | rfl | (simp only [List.length_drop, List.length_take]; rfl)) ?_; (with_reducible refine (spec_l01Numbers.calls k1 _ _ t597 t600 true _ ?side1 ?side2 A9.out).mono ?_); (case side1 => repeat (first | exact (Kd.R_reads' HO599.out).2.2 | (with_reducible refine Kd.C_alloc ?_ _) | (with_reducible refine Kd.C_drewN ?_ _) | (with_reducible refine Kd.C_drew ?_))); (case side2 => exact (Kd.R_reads' HO599.out).2.1); rintro e w25 ⟨v602, rfl, ho0, hb⟩; refine ⟨_, rfl, ?_⟩; have n0_ := Aside0.mk (Kd.R_below (by (with_reducible repeat (first | apply Kd.R_alloc | apply Kd.R_drewN | apply Kd.R_drew)); exact HO_4.out) hb); have n1_ := Aside0.mk (Kd.R_below (by (with_reducible repeat (first | apply Kd.R_alloc | apply Kd.R_drewN | apply Kd.R_drew)); exact HO_5.out) hb); have n2_ := Aside0.mk (Kd.R_below (by (with_reducible repeat (first | apply Kd.R_alloc | apply Kd.R_drewN | apply Kd.R_drew)); exact HO599.out) hb); have n3_ := Aside0.mk (Kd.R_lower ho0 (below_size (by repeat (first | (with_reducible first | exact HB.out | apply below_alloc | apply pw_below_drewN | apply below_drew1) | exact HB.out)))); have n4_ := Aside0.mk (below_step (by repeat (first | (with_reducible first | exact HB.out | apply below_alloc | apply pw_below_drewN | apply below_drew1) | exact HB.out)) hb); clear HO_4; clear HO_5; clear HO599; clear HB; have HO_4 := n0_; have HO_5 := n1_; have HO599 := n2_; have HO603 := n3_; have HB := n4_; clear n0_ n1_ n2_ n3_ n4_; (try clear hb); (try clear hb2); (try clear hk); (try clear hi); (try clear ho0); obtain ⟨Ao26, co26, eo26⟩ := Kd.R_slice HO603.out; subst eo26))
       go_ret2
       exact ⟨_, by first | rfl | (simp [errW_none, errW_some] <;> rfl) | (simp [*, errW_none, errW_some] <;> rfl), by first | exact Kd.R_nil _ _ _ _ _ | exact Kd.N_nil _ _ _ _ _ | exact Kd.V_nil _ _ _ _ _ | exact Kd.Q_nil _ _ _ _ _ | exact Kd.S_nil _ _ _ _ _, by repeat (first | (with_reducible first | exact HB.out | apply below_alloc | apply pw_below_drewN | apply below_drew1) | exact HB.out)⟩
     ·replace c10 := Bool.eq_false_iff.mpr c10
      subst c10
      have H1 : (some (([] : List (S56)), 6)) = some (r1, r2) := by rw [if_neg (show ¬ (false = true) by decide)] at H; exact H
      clear H
      have H := H1
      clear H1
      simp only [Option.some.injEq, Prod.mk.injEq] at H
      obtain ⟨rfl, rfl⟩ := H
      obtain ⟨Ao27, co27, eo27⟩ := Kd.R_slice HO_5.out
      subst eo27
      have p596 : 0 ≤ (x6_1 : Int) := of_decide_eq_true (by first | (with_reducible assumption) | assumption)
      have q596 : x6_1 < (t592.length : Int) := of_decide_eq_true (by first | (with_reducible assumption) | assumption)
      obtain ⟨ad596, e596, hx596_0⟩ := Kd.at_string (Kd.R_reads' HO_5.out).2.2 x6_1 p596 q596
      cases e596
      replace p596 := eq_true p596
      replace q596 := eq_true q596
      go_wp2_with (first | ((with_reducible refine gate_callee (f := 57) rfl ?_); refine goesL_ (some 23) rfl rfl Try.func57 (by kernel_rfl) rfl #[.string (rdOf ByteArray.empty t592 x6_1), .int .u8 42] rfl (by (try simp only [List.map_toArray, List.map_cons, List.map_nil]); first | done | rfl | (simp only [List.length_drop, List.length_take]; rfl)) ?_; (with_reducible refine (spec_l01Split.calls k1 (rdOf ByteArray.empty t592 x6_1) 42 t597 _ A8.out).mono ?_); rintro e w28 ⟨v598, rfl, ho0, hb⟩; refine ⟨_, rfl, ?_⟩; have n0_ := Aside0.mk (Kd.R_below (by (with_reducible repeat (first | apply Kd.R_alloc | apply Kd.R_drewN | apply Kd.R_drew)); exact HO_4.out) hb); have n1_ := Aside0.mk (Kd.R_elder' (by (with_reducible repeat (first | apply Kd.R_alloc | apply Kd.R_drewN | apply Kd.R_drew)); exact HO_5.out) (Kd.R_base ho0) hb); have n2_ := Aside0.mk (Kd.R_lower (Kd.R_new' ho0 (Kd.R_lt (by (with_reducible repeat (first | apply Kd.R_alloc | apply Kd.R_drewN | apply Kd.R_drew)); exact HO_5.out))) (below_size (by repeat (first | (with_reducible first | exact HB.out | apply below_alloc | apply pw_below_drewN | apply below_drew1) | exact HB.out)))); have n3_ := Aside0.mk (below_step (by repeat (first | (with_reducible first | exact HB.out | apply below_alloc | apply pw_below_drewN | apply below_drew1) | exact HB.out)) hb); clear HO_4; clear HO_5; clear HB; have HO_4 := n0_; have HO_5 := n1_; have HO599 := n2_; have HB := n3_; clear n0_ n1_ n2_ n3_; (try clear hb); (try clear hb2); (try clear hk); (try clear hi); (try clear ho0); obtain ⟨Ao29, co29, eo29⟩ := Kd.R_slice HO599.out; subst eo29) | ((with_reducible refine gate_callee (f := 58) rfl ?_); refine goesL_ (some 24) rfl rfl Try.func58 (by kernel_rfl) rfl #[.slice Ao29 t597.length co29] rfl (by (try simp only [List.map_toArray, List.map_cons, List.map_nil]); first | done | rfl | (simp only [List.length_drop, List.length_take]; rfl)) ?_; (with_reducible refine (spec_l01Numbers.calls k1 _ _ t597 t600 false _ ?side1 ?side2 A9.out).mono ?_); (case side1 => repeat (first | exact (Kd.R_reads' HO599.out).2.2 | (with_reducible refine Kd.C_alloc ?_ _) | (with_reducible refine Kd.C_drewN ?_ _) | (with_reducible refine Kd.C_drew ?_))); (case side2 => exact (Kd.R_reads' HO599.out).2.1); rintro e w30 ⟨v602, rfl, ho0, hb⟩; refine ⟨_, rfl, ?_⟩; have n0_ := Aside0.mk (Kd.R_below (by (with_reducible repeat (first | apply Kd.R_alloc | apply Kd.R_drewN | apply Kd.R_drew)); exact HO_4.out) hb); have n1_ := Aside0.mk (Kd.R_below (by (with_reducible repeat (first | apply Kd.R_alloc | apply Kd.R_drewN | apply Kd.R_drew)); exact HO_5.out) hb); have n2_ := Aside0.mk (Kd.R_below (by (with_reducible repeat (first | apply Kd.R_alloc | apply Kd.R_drewN | apply Kd.R_drew)); exact HO599.out) hb); have n3_ := Aside0.mk (Kd.R_lower ho0 (below_size (by repeat (first | (with_reducible first | exact HB.out | apply below_alloc | apply pw_below_drewN | apply below_drew1) | exact HB.out)))); have n4_ := Aside0.mk (below_step (by repeat (first | (with_reducible first | exact HB.out | apply below_alloc | apply pw_below_drewN | apply below_drew1) | exact HB.out)) hb); clear HO_4; clear HO_5; clear HO599; clear HB; have HO_4 := n0_; have HO_5 := n1_; have HO599 := n2_; have HO603 := n3_; have HB := n4_; clear n0_ n1_ n2_ n3_ n4_; (try clear hb); (try clear hb2); (try clear hk); (try clear hi); (try clear ho0)))
      go_ret2
      exact ⟨_, by first | rfl | (simp [errW_none, errW_some] <;> rfl) | (simp [*, errW_none, errW_some] <;> rfl), by first | exact Kd.R_nil _ _ _ _ _ | exact Kd.N_nil _ _ _ _ _ | exact Kd.V_nil _ _ _ _ _ | exact Kd.Q_nil _ _ _ _ _ | exact Kd.S_nil _ _ _ _ _, by repeat (first | (with_reducible first | exact HB.out | apply below_alloc | apply pw_below_drewN | apply below_drew1) | exact HB.out)⟩
    ·rw [if_neg c7] at H
     exact absurd H (by simp)
   ·rw [if_neg c6] at H
    have c6b0 : decide (x6_1 < (t592.length : Int)) = false := decide_eq_false c6
    clear c6
    replace H := Option.bind_eq_some_iff.mp H
    obtain ⟨t595, A310, H⟩ := H
    replace H : (if t595 = true then (some (x4_1, 0)) else (some (([] : List (S56)), 6))) = some (r1, r2) := H
    have A31 := Aside0.mk A310
    clear A310
    by_cases c32 : t595 = true
    ·subst c32
     have H1 : (some (x4_1, 0)) = some (r1, r2) := by rw [if_pos rfl] at H; exact H
     clear H
     have H := H1
     clear H1
     simp only [Option.some.injEq, Prod.mk.injEq] at H
     obtain ⟨rfl, rfl⟩ := H
     obtain ⟨Ao33, co33, eo33⟩ := Kd.R_slice HO_5.out
     subst eo33
     obtain ⟨Ao34, co34, eo34⟩ := Kd.R_slice HO_4.out
     subst eo34
     go_wp2_with (first | ((with_reducible refine gate_callee (f := 40) rfl ?_); refine goesL_ (some 45) rfl rfl Try.func40 (by kernel_rfl) rfl #[.slice Ao34 x4_1.length co34] rfl (by (try simp only [List.map_toArray, List.map_cons, List.map_nil]); first | done | rfl | (simp only [List.length_drop, List.length_take]; rfl)) ?_; (with_reducible refine (spec_IsScore.calls k1 _ _ x4_1 true _ ?side1 ?side2 A31.out).mono ?_); (case side1 => repeat (first | exact (Kd.R_reads' HO_4.out).2.2 | (with_reducible refine Kd.C_alloc ?_ _) | (with_reducible refine Kd.C_drewN ?_ _) | (with_reducible refine Kd.C_drew ?_))); (case side2 => exact (Kd.R_reads' HO_4.out).2.1); rintro e w' ⟨rfl, ⟨nd, rfl⟩⟩; refine ⟨_, rfl, ?_⟩))
     go_ret2
     exact ⟨_, by first | rfl | (simp [errW_none, errW_some] <;> rfl) | (simp [*, errW_none, errW_some] <;> rfl), by (with_reducible repeat (first | apply Kd.R_alloc | apply Kd.R_drewN | apply Kd.R_drew)); exact HO_4.out, by repeat (first | (with_reducible first | exact HB.out | apply below_alloc | apply pw_below_drewN | apply below_drew1) | exact HB.out)⟩
    ·replace c32 := Bool.eq_false_iff.mpr c32
     subst c32
     have H1 : (some (([] : List (S56)), 6)) = some (r1, r2) := by rw [if_neg (show ¬ (false = true) by decide)] at H; exact H
     clear H
     have H := H1
     clear H1
     simp only [Option.some.injEq, Prod.mk.injEq] at H
     obtain ⟨rfl, rfl⟩ := H
     obtain ⟨Ao35, co35, eo35⟩ := Kd.R_slice HO_5.out
     subst eo35
     obtain ⟨Ao36, co36, eo36⟩ := Kd.R_slice HO_4.out
     subst eo36
     go_wp2_with (first | ((with_reducible refine gate_callee (f := 40) rfl ?_); refine goesL_ (some 45) rfl rfl Try.func40 (by kernel_rfl) rfl #[.slice Ao36 x4_1.length co36] rfl (by (try simp only [List.map_toArray, List.map_cons, List.map_nil]); first | done | rfl | (simp only [List.length_drop, List.length_take]; rfl)) ?_; (with_reducible refine (spec_IsScore.calls k1 _ _ x4_1 false _ ?side1 ?side2 A31.out).mono ?_); (case side1 => repeat (first | exact (Kd.R_reads' HO_4.out).2.2 | (with_reducible refine Kd.C_alloc ?_ _) | (with_reducible refine Kd.C_drewN ?_ _) | (with_reducible refine Kd.C_drew ?_))); (case side2 => exact (Kd.R_reads' HO_4.out).2.1); rintro e w' ⟨rfl, ⟨nd, rfl⟩⟩; refine ⟨_, rfl, ?_⟩))
     go_ret2
     exact ⟨_, by first | rfl | (simp [errW_none, errW_some] <;> rfl) | (simp [*, errW_none, errW_some] <;> rfl), by first | exact Kd.R_nil _ _ _ _ _ | exact Kd.N_nil _ _ _ _ _ | exact Kd.V_nil _ _ _ _ _ | exact Kd.Q_nil _ _ _ _ _ | exact Kd.S_nil _ _ _ _ _, by repeat (first | (with_reducible first | exact HB.out | apply below_alloc | apply pw_below_drewN | apply below_drew1) | exact HB.out)⟩
end Go.Proofs.Ytigkgihnijaefaa.F
namespace Go.Proofs.Ytigkgihnijaefaa.F
open Go.RowKit Go.Proofs.YtigkgihnijaefaaW.PrintWords Go.Proofs.YtigkgihnijaefaaW.PrintLast Go.Proofs.YtigkgihnijaefaaW.PrintMore
attribute [local go_sem] max2_int min2_int max_two min_two max_three min_three max_four min_four   -- for this text's walks alone
set_option linter.unusedVariables false
set_option linter.unusedSimpArgs false
mutual
def laws_FnScoreTexts.j0 : Nat → List (S56) → ByteArray → Int → ByteArray → List (S56) → Int → Bool → Option (Bool)
 | 0, _, _, _, _, _, _, _ => none
 | k + 1, x3, x4, x5, x8, x9, x10, x68 => if x68 = true then (some false) else (if x10 = 0 then ((impl_ScoreText.f k x9).bind fun bt628 => (if bt628.2 = 0 then (if bt628.1.toList = x8.toList then (laws_FnScoreTexts.j1 k x3 x4 x5) else (some false)) else (some false))) else (laws_FnScoreTexts.j1 k x3 x4 x5))
def laws_FnScoreTexts.j1 : Nat → List (S56) → ByteArray → Int → Option (Bool)
 | 0, _, _, _ => none
 | k + 1, x3, x4, x5 => if x5 = 0 then ((impl_ReadScore.f k x4).bind fun bt630 => (if bt630.2 = 0 then ((laws_likeBars.f k bt630.1 x3).bind fun t634 => (some t634)) else (some false))) else (some true)
end
def laws_FnScoreTexts.f (k : Nat) (l0 : List Int) : Option (Bool) := (laws_big.f l0).bind fun t609 => (if t609 = true then (some true) else ((spec_DrawScoreText.f k l0).bind fun t610 => ((impl_ScoreText.f k t610).bind fun bt613 => ((spec_ScoreText.f k t610).bind fun bt615 => ((spec_DrawReadScore.f k l0).bind fun t617 => ((impl_ReadScore.f k t617).bind fun bt618 => ((spec_ReadScore.f k t617).bind fun bt622 => (if bt613.2 = bt615.2 then (if bt613.1.toList = bt615.1.toList then (if bt618.2 = bt622.2 then ((laws_likeBars.f k bt618.1 bt622.1).bind fun t626 => (if t626 = true then ((impl_IsScore.f k t610).bind fun t627 => (laws_FnScoreTexts.j0 k t610 bt613.1 bt613.2 t617 bt618.1 bt618.2 (t627 != (bt615.2 == 0)))) else (laws_FnScoreTexts.j0 k t610 bt613.1 bt613.2 t617 bt618.1 bt618.2 true))) else (laws_FnScoreTexts.j0 k t610 bt613.1 bt613.2 t617 bt618.1 bt618.2 true)) else (laws_FnScoreTexts.j0 k t610 bt613.1 bt613.2 t617 bt618.1 bt618.2 true)) else (laws_FnScoreTexts.j0 k t610 bt613.1 bt613.2 t617 bt618.1 bt618.2 true)))))))))
theorem laws_FnScoreTexts.mono_l : ∀ k, (∀ y0 y1 y2 y3 y4 y5 y6, LeO (laws_FnScoreTexts.j0 k y0 y1 y2 y3 y4 y5 y6) (laws_FnScoreTexts.j0 (k + 1) y0 y1 y2 y3 y4 y5 y6)) ∧ (∀ y0 y1 y2, LeO (laws_FnScoreTexts.j1 k y0 y1 y2) (laws_FnScoreTexts.j1 (k + 1) y0 y1 y2))
 | 0 => ⟨fun _ _ _ _ _ _ _ r h => by simp [laws_FnScoreTexts.j0] at h, fun _ _ _ r h => by simp [laws_FnScoreTexts.j1] at h⟩
 | k + 1 => by
  obtain ⟨ih0, ih1⟩ := laws_FnScoreTexts.mono_l k
  refine ⟨?_, ?_⟩
  ·intro y0 y1 y2 y3 y4 y5 y6
   unfold laws_FnScoreTexts.j0
   repeat' first
   | (with_reducible exact ih0 _ _ _ _ _ _ _)
   | (with_reducible exact ih1 _ _ _)
   | (with_reducible exact impl_IsScore.mono _ _)
   | (with_reducible exact impl_ReadScore.mono _ _)
   | (with_reducible exact impl_ScoreText.mono _ _)
   | (with_reducible exact laws_likeBars.mono _ _ _)
   | (with_reducible exact spec_DrawReadScore.mono _ _)
   | (with_reducible exact spec_DrawScoreText.mono _ _)
   | (with_reducible exact spec_ReadScore.mono _ _)
   | (with_reducible exact spec_ScoreText.mono _ _)
   | (with_reducible exact LeO.refl _)
   | (with_reducible exact LeO.none _)
   | (with_reducible refine LeO.ite ?_ ?_)
   | (with_reducible refine LeO.bind ?_ (fun _ => ?_))
   | exact ih0 _ _ _ _ _ _ _
   | exact ih1 _ _ _
   | exact impl_IsScore.mono _ _
   | exact impl_ReadScore.mono _ _
   | exact impl_ScoreText.mono _ _
   | exact laws_likeBars.mono _ _ _
   | exact spec_DrawReadScore.mono _ _
   | exact spec_DrawScoreText.mono _ _
   | exact spec_ReadScore.mono _ _
   | exact spec_ScoreText.mono _ _
   | exact LeO.none _
   | refine LeO.ite ?_ ?_
   | refine LeO.bind ?_ (fun _ => ?_)
  ·intro y0 y1 y2
   unfold laws_FnScoreTexts.j1
   repeat' first
   | (with_reducible exact ih0 _ _ _ _ _ _ _)
   | (with_reducible exact ih1 _ _ _)
   | (with_reducible exact impl_IsScore.mono _ _)
   | (with_reducible exact impl_ReadScore.mono _ _)
   | (with_reducible exact impl_ScoreText.mono _ _)
   | (with_reducible exact laws_likeBars.mono _ _ _)
   | (with_reducible exact spec_DrawReadScore.mono _ _)
   | (with_reducible exact spec_DrawScoreText.mono _ _)
   | (with_reducible exact spec_ReadScore.mono _ _)
   | (with_reducible exact spec_ScoreText.mono _ _)
   | (with_reducible exact LeO.refl _)
   | (with_reducible exact LeO.none _)
   | (with_reducible refine LeO.ite ?_ ?_)
   | (with_reducible refine LeO.bind ?_ (fun _ => ?_))
   | exact ih0 _ _ _ _ _ _ _
   | exact ih1 _ _ _
   | exact impl_IsScore.mono _ _
   | exact impl_ReadScore.mono _ _
   | exact impl_ScoreText.mono _ _
   | exact laws_likeBars.mono _ _ _
   | exact spec_DrawReadScore.mono _ _
   | exact spec_DrawScoreText.mono _ _
   | exact spec_ReadScore.mono _ _
   | exact spec_ScoreText.mono _ _
   | exact LeO.none _
   | refine LeO.ite ?_ ?_
   | refine LeO.bind ?_ (fun _ => ?_)
theorem laws_FnScoreTexts.mono : ∀ a0 k, LeO (laws_FnScoreTexts.f k a0) (laws_FnScoreTexts.f (k + 1) a0) := by
 intro a0 k
 obtain ⟨ih0, ih1⟩ := laws_FnScoreTexts.mono_l k
 unfold laws_FnScoreTexts.f
 repeat' first
   | (with_reducible exact ih0 _ _ _ _ _ _ _)
   | (with_reducible exact ih1 _ _ _)
   | (with_reducible exact impl_IsScore.mono _ _)
   | (with_reducible exact impl_ReadScore.mono _ _)
   | (with_reducible exact impl_ScoreText.mono _ _)
   | (with_reducible exact laws_likeBars.mono _ _ _)
   | (with_reducible exact spec_DrawReadScore.mono _ _)
   | (with_reducible exact spec_DrawScoreText.mono _ _)
   | (with_reducible exact spec_ReadScore.mono _ _)
   | (with_reducible exact spec_ScoreText.mono _ _)
   | (with_reducible exact LeO.refl _)
   | (with_reducible exact LeO.none _)
   | (with_reducible refine LeO.ite ?_ ?_)
   | (with_reducible refine LeO.bind ?_ (fun _ => ?_))
   | exact ih0 _ _ _ _ _ _ _
   | exact ih1 _ _ _
   | exact impl_IsScore.mono _ _
   | exact impl_ReadScore.mono _ _
   | exact impl_ScoreText.mono _ _
   | exact laws_likeBars.mono _ _ _
   | exact spec_DrawReadScore.mono _ _
   | exact spec_DrawScoreText.mono _ _
   | exact spec_ReadScore.mono _ _
   | exact spec_ScoreText.mono _ _
   | exact LeO.none _
   | refine LeO.ite ?_ ?_
   | refine LeO.bind ?_ (fun _ => ?_)
theorem laws_FnScoreTexts.j0_true (k : Nat) (x3 : List (S56)) (x4 : ByteArray) (x5 : Int) (x8 : ByteArray) (x9 : List (S56)) (x10 : Int) : ¬ laws_FnScoreTexts.j0 k x3 x4 x5 x8 x9 x10 true = some true := by
 cases k with
 | zero => simp [laws_FnScoreTexts.j0]
 | succ k => simp [laws_FnScoreTexts.j0]
set_option maxHeartbeats 8000000 in
set_option maxRecDepth 100000 in
theorem laws_FnScoreTexts.calls (k : Nat) (A0 : Option Addr) (c0 : Nat) (l0 : List Int) (r : Bool) (w : World) (hr0 : Kd.C (Kd.int .u8) w A0 l0.length l0) (hc0 : l0.length ≤ c0) (h : laws_FnScoreTexts.f k l0 = some r) (hr_ : r = true) :
  Calls Try.prog 5 #[.slice A0 l0.length c0] w fun e w' => e = .returned (.bool r) ∧ Below w.heap.size w w' := by
 have HR_ := Aside0.mk hr_
 clear hr_
 have HR0 := Aside0.mk hr0
 have HC0 := Aside0.mk hc0
 clear hr0 hc0
 have HB := Aside0.mk (Below.refl w.heap.size w)
 have H : ((laws_big.f l0).bind fun t609 => (if t609 = true then (some true) else ((spec_DrawScoreText.f k l0).bind fun t610 => ((impl_ScoreText.f k t610).bind fun bt613 => ((spec_ScoreText.f k t610).bind fun bt615 => ((spec_DrawReadScore.f k l0).bind fun t617 => ((impl_ReadScore.f k t617).bind fun bt618 => ((spec_ReadScore.f k t617).bind fun bt622 => (if bt613.2 = bt615.2 then (if bt613.1.toList = bt615.1.toList then (if bt618.2 = bt622.2 then ((laws_likeBars.f k bt618.1 bt622.1).bind fun t626 => (if t626 = true then ((impl_IsScore.f k t610).bind fun t627 => (laws_FnScoreTexts.j0 k t610 bt613.1 bt613.2 t617 bt618.1 bt618.2 (t627 != (bt615.2 == 0)))) else (laws_FnScoreTexts.j0 k t610 bt613.1 bt613.2 t617 bt618.1 bt618.2 true))) else (laws_FnScoreTexts.j0 k t610 bt613.1 bt613.2 t617 bt618.1 bt618.2 true)) else (laws_FnScoreTexts.j0 k t610 bt613.1 bt613.2 t617 bt618.1 bt618.2 true)) else (laws_FnScoreTexts.j0 k t610 bt613.1 bt613.2 t617 bt618.1 bt618.2 true)))))))))) = some r := h
 clear h
 replace H := Option.bind_eq_some_iff.mp H
 obtain ⟨t609, A20, H⟩ := H
 replace H : (if t609 = true then (some true) else ((spec_DrawScoreText.f k l0).bind fun t610 => ((impl_ScoreText.f k t610).bind fun bt613 => ((spec_ScoreText.f k t610).bind fun bt615 => ((spec_DrawReadScore.f k l0).bind fun t617 => ((impl_ReadScore.f k t617).bind fun bt618 => ((spec_ReadScore.f k t617).bind fun bt622 => (if bt613.2 = bt615.2 then (if bt613.1.toList = bt615.1.toList then (if bt618.2 = bt622.2 then ((laws_likeBars.f k bt618.1 bt622.1).bind fun t626 => (if t626 = true then ((impl_IsScore.f k t610).bind fun t627 => (laws_FnScoreTexts.j0 k t610 bt613.1 bt613.2 t617 bt618.1 bt618.2 (t627 != (bt615.2 == 0)))) else (laws_FnScoreTexts.j0 k t610 bt613.1 bt613.2 t617 bt618.1 bt618.2 true))) else (laws_FnScoreTexts.j0 k t610 bt613.1 bt613.2 t617 bt618.1 bt618.2 true)) else (laws_FnScoreTexts.j0 k t610 bt613.1 bt613.2 t617 bt618.1 bt618.2 true)) else (laws_FnScoreTexts.j0 k t610 bt613.1 bt613.2 t617 bt618.1 bt618.2 true))))))))) = some r := H
 have A2 := Aside0.mk A20
 clear A20
 by_cases c3 : t609 = true
 ·subst c3
  have H1 : (some true) = some r := by rw [if_pos rfl] at H; exact H
  clear H
  have H := H1
  clear H1
  obtain rfl := Option.some.inj H
  go_enter Try.func5, Try.ntmps5
  go_wp2_with (first | ((with_reducible refine gate_callee (f := 6) rfl ?_); refine goesL_ (some 18) rfl rfl Try.func6 (by kernel_rfl) rfl #[.slice A0 l0.length c0] rfl (by (try simp only [List.map_toArray, List.map_cons, List.map_nil]); first | done | rfl | (simp only [List.length_drop, List.length_take]; rfl)) ?_; (with_reducible refine (laws_big.calls _ _ l0 true _ ?side1 ?side2 A2.out).mono ?_); (case side1 => repeat (first | exact HR0.out | (with_reducible refine Kd.C_alloc ?_ _) | (with_reducible refine Kd.C_drewN ?_ _) | (with_reducible refine Kd.C_drew ?_))); (case side2 => exact HC0.out); rintro e w' ⟨rfl, ⟨nd, rfl⟩⟩; refine ⟨_, rfl, ?_⟩))
  go_ret
  exact ⟨by first | rfl | (simp [errW_none, errW_some] <;> rfl) | (simp [*, errW_none, errW_some] <;> rfl), by repeat (first | (with_reducible first | exact HB.out | apply below_alloc | apply pw_below_drewN | apply below_drew1) | exact HB.out)⟩
 ·replace c3 := Bool.eq_false_iff.mpr c3
  subst c3
  have H1 : ((spec_DrawScoreText.f k l0).bind fun t610 => ((impl_ScoreText.f k t610).bind fun bt613 => ((spec_ScoreText.f k t610).bind fun bt615 => ((spec_DrawReadScore.f k l0).bind fun t617 => ((impl_ReadScore.f k t617).bind fun bt618 => ((spec_ReadScore.f k t617).bind fun bt622 => (if bt613.2 = bt615.2 then (if bt613.1.toList = bt615.1.toList then (if bt618.2 = bt622.2 then ((laws_likeBars.f k bt618.1 bt622.1).bind fun t626 => (if t626 = true then ((impl_IsScore.f k t610).bind fun t627 => (laws_FnScoreTexts.j0 k t610 bt613.1 bt613.2 t617 bt618.1 bt618.2 (t627 != (bt615.2 == 0)))) else (laws_FnScoreTexts.j0 k t610 bt613.1 bt613.2 t617 bt618.1 bt618.2 true))) else (laws_FnScoreTexts.j0 k t610 bt613.1 bt613.2 t617 bt618.1 bt618.2 true)) else (laws_FnScoreTexts.j0 k t610 bt613.1 bt613.2 t617 bt618.1 bt618.2 true)) else (laws_FnScoreTexts.j0 k t610 bt613.1 bt613.2 t617 bt618.1 bt618.2 true)))))))) = some r := by rw [if_neg (show ¬ (false = true) by decide)] at H; exact H
  clear H
  have H := H1
  clear H1
  replace H := Option.bind_eq_some_iff.mp H
  obtain ⟨t610, A40, H⟩ := H
  replace H : ((impl_ScoreText.f k t610).bind fun bt613 => ((spec_ScoreText.f k t610).bind fun bt615 => ((spec_DrawReadScore.f k l0).bind fun t617 => ((impl_ReadScore.f k t617).bind fun bt618 => ((spec_ReadScore.f k t617).bind fun bt622 => (if bt613.2 = bt615.2 then (if bt613.1.toList = bt615.1.toList then (if bt618.2 = bt622.2 then ((laws_likeBars.f k bt618.1 bt622.1).bind fun t626 => (if t626 = true then ((impl_IsScore.f k t610).bind fun t627 => (laws_FnScoreTexts.j0 k t610 bt613.1 bt613.2 t617 bt618.1 bt618.2 (t627 != (bt615.2 == 0)))) else (laws_FnScoreTexts.j0 k t610 bt613.1 bt613.2 t617 bt618.1 bt618.2 true))) else (laws_FnScoreTexts.j0 k t610 bt613.1 bt613.2 t617 bt618.1 bt618.2 true)) else (laws_FnScoreTexts.j0 k t610 bt613.1 bt613.2 t617 bt618.1 bt618.2 true)) else (laws_FnScoreTexts.j0 k t610 bt613.1 bt613.2 t617 bt618.1 bt618.2 true))))))) = some r := H
  have A4 := Aside0.mk A40
  clear A40
  replace H := Option.bind_eq_some_iff.mp H
  obtain ⟨⟨t613, t614⟩, A50, H⟩ := H
  replace H : ((spec_ScoreText.f k t610).bind fun bt615 => ((spec_DrawReadScore.f k l0).bind fun t617 => ((impl_ReadScore.f k t617).bind fun bt618 => ((spec_ReadScore.f k t617).bind fun bt622 => (if t614 = bt615.2 then (if t613.toList = bt615.1.toList then (if bt618.2 = bt622.2 then ((laws_likeBars.f k bt618.1 bt622.1).bind fun t626 => (if t626 = true then ((impl_IsScore.f k t610).bind fun t627 => (laws_FnScoreTexts.j0 k t610 t613 t614 t617 bt618.1 bt618.2 (t627 != (bt615.2 == 0)))) else (laws_FnScoreTexts.j0 k t610 t613 t614 t617 bt618.1 bt618.2 true))) else (laws_FnScoreTexts.j0 k t610 t613 t614 t617 bt618.1 bt618.2 true)) else (laws_FnScoreTexts.j0 k t610 t613 t614 t617 bt618.1 bt618.2 true)) else (laws_FnScoreTexts.j0 k t610 t613 t614 t617 bt618.1 bt618.2 true)))))) = some r := H
  have A5 := Aside0.mk A50
  clear A50
  replace H := Option.bind_eq_some_iff.mp H
  obtain ⟨⟨t615, t616⟩, A60, H⟩ := H
  replace H : ((spec_DrawReadScore.f k l0).bind fun t617 => ((impl_ReadScore.f k t617).bind fun bt618 => ((spec_ReadScore.f k t617).bind fun bt622 => (if t614 = t616 then (if t613.toList = t615.toList then (if bt618.2 = bt622.2 then ((laws_likeBars.f k bt618.1 bt622.1).bind fun t626 => (if t626 = true then ((impl_IsScore.f k t610).bind fun t627 => (laws_FnScoreTexts.j0 k t610 t613 t614 t617 bt618.1 bt618.2 (t627 != (t616 == 0)))) else (laws_FnScoreTexts.j0 k t610 t613 t614 t617 bt618.1 bt618.2 true))) else (laws_FnScoreTexts.j0 k t610 t613 t614 t617 bt618.1 bt618.2 true)) else (laws_FnScoreTexts.j0 k t610 t613 t614 t617 bt618.1 bt618.2 true)) else (laws_FnScoreTexts.j0 k t610 t613 t614 t617 bt618.1 bt618.2 true))))) = some r := H
  have A6 := Aside0.mk A60
  clear A60
  replace H := Option.bind_eq_some_iff.mp H
  obtain ⟨t617, A70, H⟩ := H
  replace H : ((impl_ReadScore.f k t617).bind fun bt618 => ((spec_ReadScore.f k t617).bind fun bt622 => (if t614 = t616 then (if t613.toList = t615.toList then (if bt618.2 = bt622.2 then ((laws_likeBars.f k bt618.1 bt622.1).bind fun t626 => (if t626 = true then ((impl_IsScore.f k t610).bind fun t627 => (laws_FnScoreTexts.j0 k t610 t613 t614 t617 bt618.1 bt618.2 (t627 != (t616 == 0)))) else (laws_FnScoreTexts.j0 k t610 t613 t614 t617 bt618.1 bt618.2 true))) else (laws_FnScoreTexts.j0 k t610 t613 t614 t617 bt618.1 bt618.2 true)) else (laws_FnScoreTexts.j0 k t610 t613 t614 t617 bt618.1 bt618.2 true)) else (laws_FnScoreTexts.j0 k t610 t613 t614 t617 bt618.1 bt618.2 true)))) = some r := H
  have A7 := Aside0.mk A70
  clear A70
  replace H := Option.bind_eq_some_iff.mp H
  obtain ⟨⟨t618, t619⟩, A80, H⟩ := H
  replace H : ((spec_ReadScore.f k t617).bind fun bt622 => (if t614 = t616 then (if t613.toList = t615.toList then (if t619 = bt622.2 then ((laws_likeBars.f k t618 bt622.1).bind fun t626 => (if t626 = true then ((impl_IsScore.f k t610).bind fun t627 => (laws_FnScoreTexts.j0 k t610 t613 t614 t617 t618 t619 (t627 != (t616 == 0)))) else (laws_FnScoreTexts.j0 k t610 t613 t614 t617 t618 t619 true))) else (laws_FnScoreTexts.j0 k t610 t613 t614 t617 t618 t619 true)) else (laws_FnScoreTexts.j0 k t610 t613 t614 t617 t618 t619 true)) else (laws_FnScoreTexts.j0 k t610 t613 t614 t617 t618 t619 true))) = some r := H
  have A8 := Aside0.mk A80
  clear A80
  replace H := Option.bind_eq_some_iff.mp H
  obtain ⟨⟨t622, t623⟩, A90, H⟩ := H
  replace H : (if t614 = t616 then (if t613.toList = t615.toList then (if t619 = t623 then ((laws_likeBars.f k t618 t622).bind fun t626 => (if t626 = true then ((impl_IsScore.f k t610).bind fun t627 => (laws_FnScoreTexts.j0 k t610 t613 t614 t617 t618 t619 (t627 != (t616 == 0)))) else (laws_FnScoreTexts.j0 k t610 t613 t614 t617 t618 t619 true))) else (laws_FnScoreTexts.j0 k t610 t613 t614 t617 t618 t619 true)) else (laws_FnScoreTexts.j0 k t610 t613 t614 t617 t618 t619 true)) else (laws_FnScoreTexts.j0 k t610 t613 t614 t617 t618 t619 true)) = some r := H
  have A9 := Aside0.mk A90
  clear A90
  have HC10 := Aside0.mk H
  clear H
  go_enter Try.func5, Try.ntmps5
  go_upto_region 9 with (first | ((with_reducible refine gate_callee (f := 6) rfl ?_); refine goesL_ (some 18) rfl rfl Try.func6 (by kernel_rfl) rfl #[.slice A0 l0.length c0] rfl (by (try simp only [List.map_toArray, List.map_cons, List.map_nil]); first | done | rfl | (simp only [List.length_drop, List.length_take]; rfl)) ?_; (with_reducible refine (laws_big.calls _ _ l0 false _ ?side1 ?side2 A2.out).mono ?_); (case side1 => repeat (first | exact HR0.out | (with_reducible refine Kd.C_alloc ?_ _) | (with_reducible refine Kd.C_drewN ?_ _) | (with_reducible refine Kd.C_drew ?_))); (case side2 => exact HC0.out); rintro e w' ⟨rfl, ⟨nd, rfl⟩⟩; refine ⟨_, rfl, ?_⟩) | ((with_reducible refine gate_callee (f := 28) rfl ?_); refine goesL_ (some 20) rfl rfl Try.func28 (by kernel_rfl) rfl #[.slice A0 l0.length c0] rfl (by (try simp only [List.map_toArray, List.map_cons, List.map_nil]); first | done | rfl | (simp only [List.length_drop, List.length_take]; rfl)) ?_; (with_reducible refine (spec_DrawScoreText.calls k _ _ l0 t610 _ ?side1 ?side2 A4.out).mono ?_); (case side1 => repeat (first | exact HR0.out | (with_reducible refine Kd.C_alloc ?_ _) | (with_reducible refine Kd.C_drewN ?_ _) | (with_reducible refine Kd.C_drew ?_))); (case side2 => exact HC0.out); rintro e w11 ⟨v611, rfl, ho0, hb⟩; refine ⟨_, rfl, ?_⟩; have n0_ := Aside0.mk (Kd.R_lower ho0 (below_size (by repeat (first | (with_reducible first | exact HB.out | apply below_alloc | apply pw_below_drewN | apply below_drew1) | exact HB.out)))); have n1_ := Aside0.mk (below_step (by repeat (first | (with_reducible first | exact HB.out | apply below_alloc | apply pw_below_drewN | apply below_drew1) | exact HB.out)) hb); clear HB; have HO612 := n0_; have HB := n1_; clear n0_ n1_; (try clear hb); (try clear hb2); (try clear hk); (try clear hi); (try clear ho0); obtain ⟨Ao12, co12, eo12⟩ := Kd.R_slice HO612.out; subst eo12) | ((with_reducible refine gate_callee (f := 29) rfl ?_); refine goesL_ (some 23) rfl rfl Try.func29 (by kernel_rfl) rfl #[.slice Ao12 t610.length co12] rfl (by (try simp only [List.map_toArray, List.map_cons, List.map_nil]); first | done | rfl | (simp only [List.length_drop, List.length_take]; rfl)) ?_; (with_reducible refine (impl_ScoreText.calls k _ _ t610 t613 t614 _ ?side1 ?side2 A5.out).mono ?_); (case side1 => repeat (first | exact (Kd.R_reads' HO612.out).2.2 | (with_reducible refine Kd.C_alloc ?_ _) | (with_reducible refine Kd.C_drewN ?_ _) | (with_reducible refine Kd.C_drew ?_))); (case side2 => exact (Kd.R_reads' HO612.out).2.1); rintro e w13 ⟨rfl, hb⟩; refine ⟨_, rfl, ?_⟩; have n0_ := Aside0.mk (Kd.R_below (by (with_reducible repeat (first | apply Kd.R_alloc | apply Kd.R_drewN | apply Kd.R_drew)); exact HO612.out) hb); have n1_ := Aside0.mk (below_step (by repeat (first | (with_reducible first | exact HB.out | apply below_alloc | apply pw_below_drewN | apply below_drew1) | exact HB.out)) hb); clear HO612; clear HB; have HO612 := n0_; have HB := n1_; clear n0_ n1_; (try clear hb); (try clear hb2); (try clear hk); (try clear hi)) | ((with_reducible refine gate_callee (f := 30) rfl ?_); refine goesL_ (some 28) rfl rfl Try.func30 (by kernel_rfl) rfl #[.slice Ao12 t610.length co12] rfl (by (try simp only [List.map_toArray, List.map_cons, List.map_nil]); first | done | rfl | (simp only [List.length_drop, List.length_take]; rfl)) ?_; (with_reducible refine (spec_ScoreText.calls k _ _ t610 t615 t616 _ ?side1 ?side2 A6.out).mono ?_); (case side1 => repeat (first | exact (Kd.R_reads' HO612.out).2.2 | (with_reducible refine Kd.C_alloc ?_ _) | (with_reducible refine Kd.C_drewN ?_ _) | (with_reducible refine Kd.C_drew ?_))); (case side2 => exact (Kd.R_reads' HO612.out).2.1); rintro e w14 ⟨rfl, hb⟩; refine ⟨_, rfl, ?_⟩; have n0_ := Aside0.mk (Kd.R_below (by (with_reducible repeat (first | apply Kd.R_alloc | apply Kd.R_drewN | apply Kd.R_drew)); exact HO612.out) hb); have n1_ := Aside0.mk (below_step (by repeat (first | (with_reducible first | exact HB.out | apply below_alloc | apply pw_below_drewN | apply below_drew1) | exact HB.out)) hb); clear HO612; clear HB; have HO612 := n0_; have HB := n1_; clear n0_ n1_; (try clear hb); (try clear hb2); (try clear hk); (try clear hi)) | ((with_reducible refine gate_callee (f := 31) rfl ?_); refine goesL_ (some 32) rfl rfl Try.func31 (by kernel_rfl) rfl #[.slice A0 l0.length c0] rfl (by (try simp only [List.map_toArray, List.map_cons, List.map_nil]); first | done | rfl | (simp only [List.length_drop, List.length_take]; rfl)) ?_; (with_reducible refine (spec_DrawReadScore.calls k _ _ l0 t617 _ ?side1 ?side2 A7.out).mono ?_); (case side1 => repeat (first | exact (Kd.C_below HR0.out HB.out) | (with_reducible refine Kd.C_alloc ?_ _) | (with_reducible refine Kd.C_drewN ?_ _) | (with_reducible refine Kd.C_drew ?_))); (case side2 => exact HC0.out); rintro e w15 ⟨rfl, hb⟩; refine ⟨_, rfl, ?_⟩; have n0_ := Aside0.mk (Kd.R_below (by (with_reducible repeat (first | apply Kd.R_alloc | apply Kd.R_drewN | apply Kd.R_drew)); exact HO612.out) hb); have n1_ := Aside0.mk (below_step (by repeat (first | (with_reducible first | exact HB.out | apply below_alloc | apply pw_below_drewN | apply below_drew1) | exact HB.out)) hb); clear HO612; clear HB; have HO612 := n0_; have HB := n1_; clear n0_ n1_; (try clear hb); (try clear hb2); (try clear hk); (try clear hi)) | ((with_reducible refine gate_callee (f := 32) rfl ?_); refine goesL_ (some 35) rfl rfl Try.func32 (by kernel_rfl) rfl #[.string t617] rfl (by (try simp only [List.map_toArray, List.map_cons, List.map_nil]); first | done | rfl | (simp only [List.length_drop, List.length_take]; rfl)) ?_; (with_reducible refine (impl_ReadScore.calls k t617 t618 t619 _ A8.out).mono ?_); rintro e w16 ⟨v620, rfl, ho0, hb⟩; refine ⟨_, rfl, ?_⟩; have n0_ := Aside0.mk (Kd.R_elder' (by (with_reducible repeat (first | apply Kd.R_alloc | apply Kd.R_drewN | apply Kd.R_drew)); exact HO612.out) (Kd.R_base ho0) hb); have n1_ := Aside0.mk (Kd.R_lower (Kd.R_new' ho0 (Kd.R_lt (by (with_reducible repeat (first | apply Kd.R_alloc | apply Kd.R_drewN | apply Kd.R_drew)); exact HO612.out))) (below_size (by repeat (first | (with_reducible first | exact HB.out | apply below_alloc | apply pw_below_drewN | apply below_drew1) | exact HB.out)))); have n2_ := Aside0.mk (below_step (by repeat (first | (with_reducible first | exact HB.out | apply below_alloc | apply pw_below_drewN | apply below_drew1) | exact HB.out)) hb); clear HO612; clear HB; have HO612 := n0_; have HO621 := n1_; have HB := n2_; clear n0_ n1_ n2_; (try clear hb); (try clear hb2); (try clear hk); (try clear hi); (try clear ho0)) | ((with_reducible refine gate_callee (f := 33) rfl ?_); refine goesL_ (some 40) rfl rfl Try.func33 (by kernel_rfl) rfl #[.string t617] rfl (by (try simp only [List.map_toArray, List.map_cons, List.map_nil]); first | done | rfl | (simp only [List.length_drop, List.length_take]; rfl)) ?_; (with_reducible refine (spec_ReadScore.calls k t617 t622 t623 _ A9.out).mono ?_); rintro e w17 ⟨v624, rfl, ho0, hb⟩; refine ⟨_, rfl, ?_⟩; have n0_ := Aside0.mk (Kd.R_elder' (by (with_reducible repeat (first | apply Kd.R_alloc | apply Kd.R_drewN | apply Kd.R_drew)); exact HO612.out) (Kd.R_base ho0) hb); have n1_ := Aside0.mk (Kd.R_elder' (by (with_reducible repeat (first | apply Kd.R_alloc | apply Kd.R_drewN | apply Kd.R_drew)); exact HO621.out) (Kd.R_base ho0) hb); have n2_ := Aside0.mk (Kd.R_lower (Kd.R_new' (Kd.R_new' ho0 (Kd.R_lt (by (with_reducible repeat (first | apply Kd.R_alloc | apply Kd.R_drewN | apply Kd.R_drew)); exact HO612.out))) (Kd.R_lt (by (with_reducible repeat (first | apply Kd.R_alloc | apply Kd.R_drewN | apply Kd.R_drew)); exact HO621.out))) (below_size (by repeat (first | (with_reducible first | exact HB.out | apply below_alloc | apply pw_below_drewN | apply below_drew1) | exact HB.out)))); have n3_ := Aside0.mk (below_step (by repeat (first | (with_reducible first | exact HB.out | apply below_alloc | apply pw_below_drewN | apply below_drew1) | exact HB.out)) hb); clear HO612; clear HO621; clear HB; have HO612 := n0_; have HO621 := n1_; have HO625 := n2_; have HB := n3_; clear n0_ n1_ n2_ n3_; (try clear hb); (try clear hb2); (try clear hk); (try clear hi); (try clear ho0)))
  (try simp only [Act.put, List.setIfInBounds_toArray, List.set_cons_zero, List.set_cons_succ])
  go_cut [68] (fun v68 wc => ∃ (kq : Nat) (x68_9 : Bool), v68 = .bool x68_9 ∧ Aside0 (laws_FnScoreTexts.j0 kq t610 t613 t614 t617 t618 t619 x68_9 = some r) ∧ Aside0 (kq ≤ k) ∧ Aside0 (Kd.R k56 56 wc w.heap.size (fun k_ => some k_ ≠ (v620 : Value).ownBlock) (.slice Ao12 t610.length co12) t610) ∧ Aside0 (Kd.R k56 56 wc w.heap.size (fun k_ => some k_ ≠ ((.slice Ao12 t610.length co12) : Value).ownBlock) v620 t618) ∧ Aside0 (Below w.heap.size w wc))
  case first => as_aux_lemma =>
   have H := HC10.out
   clear HC10
   by_cases c18 : t614 = t616
   ·rw [if_pos c18] at H
    have c18b0 : (t614 == t616) = true := beq_iff_eq.mpr c18
    have c18b1 : (t614 != t616) = false := bne_eq_false_iff_eq.mpr c18
    clear c18
    (first | rw [c18b0] | (simp only [i64_w, i32_w]; rw [c18b0]) | skip)
    by_cases c19 : t613.toList = t615.toList
    ·rw [if_pos c19] at H
     have c19b0 : (t613.toList == t615.toList) = true := beq_iff_eq.mpr c19
     have c19b1 : (t613.toList != t615.toList) = false := bne_eq_false_iff_eq.mpr c19
     clear c19
     by_cases c20 : t619 = t623
     ·rw [if_pos c20] at H
      have c20b0 : (t619 == t623) = true := beq_iff_eq.mpr c20
      have c20b1 : (t619 != t623) = false := bne_eq_false_iff_eq.mpr c20
      clear c20
      replace H := Option.bind_eq_some_iff.mp H
      obtain ⟨t626, A210, H⟩ := H
      replace H : (if t626 = true then ((impl_IsScore.f k t610).bind fun t627 => (laws_FnScoreTexts.j0 k t610 t613 t614 t617 t618 t619 (t627 != (t616 == 0)))) else (laws_FnScoreTexts.j0 k t610 t613 t614 t617 t618 t619 true)) = some r := H
      have A21 := Aside0.mk A210
      clear A210
      by_cases c22 : t626 = true
      ·subst c22
       have H1 : ((impl_IsScore.f k t610).bind fun t627 => (laws_FnScoreTexts.j0 k t610 t613 t614 t617 t618 t619 (t627 != (t616 == 0)))) = some r := by rw [if_pos rfl] at H; exact H
       clear H
       have H := H1
       clear H1
       replace H := Option.bind_eq_some_iff.mp H
       obtain ⟨t627, A230, H⟩ := H
       replace H : (laws_FnScoreTexts.j0 k t610 t613 t614 t617 t618 t619 (t627 != (t616 == 0))) = some r := H
       have A23 := Aside0.mk A230
       clear A230
       have H' := Aside0.mk H
       clear H
       obtain ⟨Ao24, co24, eo24⟩ := Kd.R_slice HO621.out
       subst eo24
       obtain ⟨Ao25, co25, eo25⟩ := Kd.R_slice HO625.out
       subst eo25
       go_wp2_with (first | (go_at_call 13; (with_reducible refine (laws_likeBars.calls k _ _ t618 _ _ t622 true _ ?side1 ?side2 ?side3 ?side4 A21.out).mono ?_); (case side1 => repeat (first | exact (Kd.R_reads' HO621.out).2.2 | (with_reducible refine Kd.C_alloc ?_ _) | (with_reducible refine Kd.C_drewN ?_ _) | (with_reducible refine Kd.C_drew ?_))); (case side2 => exact (Kd.R_reads' HO621.out).2.1); (case side3 => repeat (first | exact (Kd.R_reads' HO625.out).2.2 | (with_reducible refine Kd.C_alloc ?_ _) | (with_reducible refine Kd.C_drewN ?_ _) | (with_reducible refine Kd.C_drew ?_))); (case side4 => exact (Kd.R_reads' HO625.out).2.1); rintro e w' ⟨rfl, ⟨nd, rfl⟩⟩) | (go_at_call 25; (with_reducible refine (impl_IsScore.calls k _ _ t610 t627 _ ?side1 ?side2 A23.out).mono ?_); (case side1 => repeat (first | exact (Kd.R_reads' HO612.out).2.2 | (with_reducible refine Kd.C_alloc ?_ _) | (with_reducible refine Kd.C_drewN ?_ _) | (with_reducible refine Kd.C_drew ?_))); (case side2 => exact (Kd.R_reads' HO612.out).2.1); rintro e w26 ⟨rfl, hb⟩; have n0_ := Aside0.mk (Kd.R_below (by (with_reducible repeat (first | apply Kd.R_alloc | apply Kd.R_drewN | apply Kd.R_drew)); exact HO612.out) hb); have n1_ := Aside0.mk (Kd.R_below (by (with_reducible repeat (first | apply Kd.R_alloc | apply Kd.R_drewN | apply Kd.R_drew)); exact HO621.out) hb); have n2_ := Aside0.mk (Kd.R_below (by (with_reducible repeat (first | apply Kd.R_alloc | apply Kd.R_drewN | apply Kd.R_drew)); exact HO625.out) hb); have n3_ := Aside0.mk (below_step (by repeat (first | (with_reducible first | exact HB.out | apply below_alloc | apply pw_below_drewN | apply below_drew1) | exact HB.out)) hb); clear HO612; clear HO621; clear HO625; clear HB; have HO612 := n0_; have HO621 := n1_; have HO625 := n2_; have HB := n3_; clear n0_ n1_ n2_ n3_; (try clear hb); (try clear hb2); (try clear hk); (try clear hi)))
       go_meet
       case rel => exact ⟨_, ((t627 != (t616 == 0))), (by first | rfl | (simp; done) | (simp [*]; done)), H', ⟨by first | omega | exact Nat.le_refl _⟩, ⟨by (with_reducible repeat (first | apply Kd.R_alloc | apply Kd.R_drewN | apply Kd.R_drew)); exact Kd.R_mono HO612.out (fun _ hk => hk.1.2)⟩, ⟨by (with_reducible repeat (first | apply Kd.R_alloc | apply Kd.R_drewN | apply Kd.R_drew)); exact Kd.R_mono HO621.out (fun _ hk => hk.1.2)⟩, ⟨by repeat (first | (with_reducible first | exact HB.out | apply below_alloc | apply pw_below_drewN | apply below_drew1) | exact HB.out)⟩⟩
      ·replace c22 := Bool.eq_false_iff.mpr c22
       subst c22
       have H1 : (laws_FnScoreTexts.j0 k t610 t613 t614 t617 t618 t619 true) = some r := by rw [if_neg (show ¬ (false = true) by decide)] at H; exact H
       clear H
       have H := H1
       clear H1
       exact absurd (H.trans (congrArg some HR_.out)) (laws_FnScoreTexts.j0_true _ _ _ _ _ _ _)
     ·rw [if_neg c20] at H
      have c20b0 : (t619 == t623) = false := beq_eq_false_iff_ne.mpr c20
      have c20b1 : (t619 != t623) = true := bne_iff_ne.mpr c20
      exact absurd (H.trans (congrArg some HR_.out)) (laws_FnScoreTexts.j0_true _ _ _ _ _ _ _)
    ·rw [if_neg c19] at H
     have c19b0 : (t613.toList == t615.toList) = false := beq_eq_false_iff_ne.mpr c19
     have c19b1 : (t613.toList != t615.toList) = true := bne_iff_ne.mpr c19
     exact absurd (H.trans (congrArg some HR_.out)) (laws_FnScoreTexts.j0_true _ _ _ _ _ _ _)
   ·rw [if_neg c18] at H
    have c18b0 : (t614 == t616) = false := beq_eq_false_iff_ne.mpr c18
    have c18b1 : (t614 != t616) = true := bne_iff_ne.mpr c18
    (first | rw [c18b0] | (simp only [i64_w, i32_w]; rw [c18b0]) | skip)
    exact absurd (H.trans (congrArg some HR_.out)) (laws_FnScoreTexts.j0_true _ _ _ _ _ _ _)
  case rest => as_aux_lemma =>
   clear HC10
   try clear c1
   try clear c2
   try clear p2
   try clear c3
   try clear c5
   try clear c6
   try clear c18
   try clear c18b0
   try clear c18b1
   try clear c19
   try clear c19b0
   try clear c19b1
   try clear c20
   try clear c20b0
   try clear c20b1
   try clear c22
   try clear c28
   obtain ⟨kq, x68_9, rfl, HA, HJ9, HO_3, HO_9, HB⟩ := hcut
   cases kq with
   | zero => exact absurd HA.out (by simp [laws_FnScoreTexts.j0])
   | succ kj9 =>
    have H := HA.out
    clear HA
    simp only [laws_FnScoreTexts.j0] at H
    by_cases c29 : x68_9 = true
    ·subst c29
     have H1 : (some false) = some r := by rw [if_pos rfl] at H; exact H
     clear H
     have H := H1
     clear H1
     exact absurd ((Option.some.inj H).trans HR_.out) (by decide)
    ·replace c29 := Bool.eq_false_iff.mpr c29
     subst c29
     have H1 : (if t619 = 0 then ((impl_ScoreText.f kj9 t618).bind fun bt628 => (if bt628.2 = 0 then (if bt628.1.toList = t617.toList then (laws_FnScoreTexts.j1 kj9 t610 t613 t614) else (some false)) else (some false))) else (laws_FnScoreTexts.j1 kj9 t610 t613 t614)) = some r := by rw [if_neg (show ¬ (false = true) by decide)] at H; exact H
     clear H
     have H := H1
     clear H1
     have HC30 := Aside0.mk H
     clear H
     go_upto_if 70 with (fail)
     go_cut [] (fun wc => ∃ (kq : Nat), Aside0 (laws_FnScoreTexts.j1 kq t610 t613 t614 = some r) ∧ Aside0 (kq ≤ kj9) ∧ Aside0 (Kd.R k56 56 wc w.heap.size (fun _ => True) (.slice Ao12 t610.length co12) t610) ∧ Aside0 (Below w.heap.size w wc))
     case first => as_aux_lemma =>
      have H := HC30.out
      clear HC30
      by_cases c31 : t619 = 0
      ·rw [if_pos c31] at H
       have c31b0 : (t619 == 0) = true := beq_iff_eq.mpr c31
       have c31b1 : (t619 != 0) = false := bne_eq_false_iff_eq.mpr c31
       clear c31
       (first | rw [c31b0] | (simp only [i64_w, i32_w]; rw [c31b0]) | skip)
       replace H := Option.bind_eq_some_iff.mp H
       obtain ⟨⟨t628, t629⟩, A320, H⟩ := H
       replace H : (if t629 = 0 then (if t628.toList = t617.toList then (laws_FnScoreTexts.j1 kj9 t610 t613 t614) else (some false)) else (some false)) = some r := H
       have A32 := Aside0.mk A320
       clear A320
       by_cases c33 : t629 = 0
       ·rw [if_pos c33] at H
        have c33b0 : (t629 == 0) = true := beq_iff_eq.mpr c33
        have c33b1 : (t629 != 0) = false := bne_eq_false_iff_eq.mpr c33
        clear c33
        by_cases c34 : t628.toList = t617.toList
        ·rw [if_pos c34] at H
         have c34b0 : (t628.toList == t617.toList) = true := beq_iff_eq.mpr c34
         have c34b1 : (t628.toList != t617.toList) = false := bne_eq_false_iff_eq.mpr c34
         clear c34
         have H' := Aside0.mk H
         clear H
         obtain ⟨Ao35, co35, eo35⟩ := Kd.R_slice HO_9.out
         subst eo35
         go_wp2_with (first | ((with_reducible refine gate_callee (f := 29) rfl ?_); refine goesL_ (some 73) rfl rfl Try.func29 (by kernel_rfl) rfl #[.slice Ao35 t618.length co35] rfl (by (try simp only [List.map_toArray, List.map_cons, List.map_nil]); first | done | rfl | (simp only [List.length_drop, List.length_take]; rfl)) ?_; (with_reducible refine (impl_ScoreText.calls kj9 _ _ t618 t628 t629 _ ?side1 ?side2 A32.out).mono ?_); (case side1 => repeat (first | exact (Kd.R_reads' HO_9.out).2.2 | (with_reducible refine Kd.C_alloc ?_ _) | (with_reducible refine Kd.C_drewN ?_ _) | (with_reducible refine Kd.C_drew ?_))); (case side2 => exact (Kd.R_reads' HO_9.out).2.1); rintro e w36 ⟨rfl, hb⟩; refine ⟨_, rfl, ?_⟩; have n0_ := Aside0.mk (Kd.R_below (by (with_reducible repeat (first | apply Kd.R_alloc | apply Kd.R_drewN | apply Kd.R_drew)); exact HO_3.out) hb); have n1_ := Aside0.mk (Kd.R_below (by (with_reducible repeat (first | apply Kd.R_alloc | apply Kd.R_drewN | apply Kd.R_drew)); exact HO_9.out) hb); have n2_ := Aside0.mk (below_step (by repeat (first | (with_reducible first | exact HB.out | apply below_alloc | apply pw_below_drewN | apply below_drew1) | exact HB.out)) hb); clear HO_3; clear HO_9; clear HB; have HO_3 := n0_; have HO_9 := n1_; have HB := n2_; clear n0_ n1_ n2_; (try clear hb); (try clear hb2); (try clear hk); (try clear hi)))
         go_meet
         case rel => exact ⟨_, H', ⟨by have := HJ9.out; first | omega | exact Nat.le_refl _⟩, ⟨by (with_reducible repeat (first | apply Kd.R_alloc | apply Kd.R_drewN | apply Kd.R_drew)); exact Kd.R_mono HO_3.out (fun _ hk => trivial)⟩, ⟨by repeat (first | (with_reducible first | exact HB.out | apply below_alloc | apply pw_below_drewN | apply below_drew1) | exact HB.out)⟩⟩
        ·rw [if_neg c34] at H
         have c34b0 : (t628.toList == t617.toList) = false := beq_eq_false_iff_ne.mpr c34
         have c34b1 : (t628.toList != t617.toList) = true := bne_iff_ne.mpr c34
         exact absurd ((Option.some.inj H).trans HR_.out) (by decide)
       ·rw [if_neg c33] at H
        have c33b0 : (t629 == 0) = false := beq_eq_false_iff_ne.mpr c33
        have c33b1 : (t629 != 0) = true := bne_iff_ne.mpr c33
        exact absurd ((Option.some.inj H).trans HR_.out) (by decide)
      ·rw [if_neg c31] at H
       have c31b0 : (t619 == 0) = false := beq_eq_false_iff_ne.mpr c31
       have c31b1 : (t619 != 0) = true := bne_iff_ne.mpr c31
       (first | rw [c31b0] | (simp only [i64_w, i32_w]; rw [c31b0]) | skip)
       have H' := Aside0.mk H
       clear H
       go_wp2
       go_meet
       case rel => exact ⟨_, H', ⟨by have := HJ9.out; first | omega | exact Nat.le_refl _⟩, ⟨by (with_reducible repeat (first | apply Kd.R_alloc | apply Kd.R_drewN | apply Kd.R_drew)); exact Kd.R_mono HO_3.out (fun _ hk => trivial)⟩, ⟨by repeat (first | (with_reducible first | exact HB.out | apply below_alloc | apply pw_below_drewN | apply below_drew1) | exact HB.out)⟩⟩
     case rest => as_aux_lemma =>
      clear HC30
      try clear c1
      try clear c2
      try clear p2
      try clear c3
      try clear c5
      try clear c6
      try clear c18
      try clear c18b0
      try clear c18b1
      try clear c19
      try clear c19b0
      try clear c19b1
      try clear c20
      try clear c20b0
      try clear c20b1
      try clear c22
      try clear c28
      try clear c29
      try clear c30
      try clear c31
      try clear c31b0
      try clear c31b1
      try clear c32
      try clear c33
      try clear c33b0
      try clear c33b1
      try clear c34
      try clear c34b0
      try clear c34b1
      try clear p2
      obtain ⟨kq, HA, HJ29, HO_3, HB⟩ := hcut
      cases kq with
      | zero => exact absurd HA.out (by simp [laws_FnScoreTexts.j1])
      | succ kj29 =>
       have H := HA.out
       clear HA
       simp only [laws_FnScoreTexts.j1] at H
       by_cases c41 : t614 = 0
       ·rw [if_pos c41] at H
        have c41b0 : (t614 == 0) = true := beq_iff_eq.mpr c41
        have c41b1 : (t614 != 0) = false := bne_eq_false_iff_eq.mpr c41
        clear c41
        replace H := Option.bind_eq_some_iff.mp H
        obtain ⟨⟨t630, t631⟩, A420, H⟩ := H
        replace H : (if t631 = 0 then ((laws_likeBars.f kj29 t630 t610).bind fun t634 => (some t634)) else (some false)) = some r := H
        have A42 := Aside0.mk A420
        clear A420
        by_cases c43 : t631 = 0
        ·rw [if_pos c43] at H
         have c43b0 : (t631 == 0) = true := beq_iff_eq.mpr c43
         have c43b1 : (t631 != 0) = false := bne_eq_false_iff_eq.mpr c43
         clear c43
         replace H := Option.bind_eq_some_iff.mp H
         obtain ⟨t634, A440, H⟩ := H
         replace H : (some t634) = some r := H
         have A44 := Aside0.mk A440
         clear A440
         obtain rfl := Option.some.inj H
         go_wp2_with (first | ((with_reducible refine gate_callee (f := 32) rfl ?_); refine goesL_ (some 87) rfl rfl Try.func32 (by kernel_rfl) rfl #[.string t613] rfl (by (try simp only [List.map_toArray, List.map_cons, List.map_nil]); first | done | rfl | (simp only [List.length_drop, List.length_take]; rfl)) ?_; (with_reducible refine (impl_ReadScore.calls kj29 t613 t630 t631 _ A42.out).mono ?_); rintro e w45 ⟨v632, rfl, ho0, hb⟩; refine ⟨_, rfl, ?_⟩; have n0_ := Aside0.mk (Kd.R_elder' (by (with_reducible repeat (first | apply Kd.R_alloc | apply Kd.R_drewN | apply Kd.R_drew)); exact HO_3.out) (Kd.R_base ho0) hb); have n1_ := Aside0.mk (Kd.R_lower (Kd.R_new' ho0 (Kd.R_lt (by (with_reducible repeat (first | apply Kd.R_alloc | apply Kd.R_drewN | apply Kd.R_drew)); exact HO_3.out))) (below_size (by repeat (first | (with_reducible first | exact HB.out | apply below_alloc | apply pw_below_drewN | apply below_drew1) | exact HB.out)))); have n2_ := Aside0.mk (below_step (by repeat (first | (with_reducible first | exact HB.out | apply below_alloc | apply pw_below_drewN | apply below_drew1) | exact HB.out)) hb); clear HO_3; clear HB; have HO_3 := n0_; have HO633 := n1_; have HB := n2_; clear n0_ n1_ n2_; (try clear hb); (try clear hb2); (try clear hk); (try clear hi); (try clear ho0); obtain ⟨Ao46, co46, eo46⟩ := Kd.R_slice HO633.out; subst eo46) | (go_at_call 13; (with_reducible refine (laws_likeBars.calls kj29 _ _ t630 _ _ t610 t634 _ ?side1 ?side2 ?side3 ?side4 A44.out).mono ?_); (case side1 => repeat (first | exact (Kd.R_reads' HO633.out).2.2 | (with_reducible refine Kd.C_alloc ?_ _) | (with_reducible refine Kd.C_drewN ?_ _) | (with_reducible refine Kd.C_drew ?_))); (case side2 => exact (Kd.R_reads' HO633.out).2.1); (case side3 => repeat (first | exact (Kd.R_reads' HO_3.out).2.2 | (with_reducible refine Kd.C_alloc ?_ _) | (with_reducible refine Kd.C_drewN ?_ _) | (with_reducible refine Kd.C_drew ?_))); (case side4 => exact (Kd.R_reads' HO_3.out).2.1); rintro e w' ⟨rfl, ⟨nd, rfl⟩⟩))
         go_ret
         exact ⟨by first | rfl | (simp [errW_none, errW_some] <;> rfl) | (simp [*, errW_none, errW_some] <;> rfl), by repeat (first | (with_reducible first | exact HB.out | apply below_alloc | apply pw_below_drewN | apply below_drew1) | exact HB.out)⟩
        ·rw [if_neg c43] at H
         have c43b0 : (t631 == 0) = false := beq_eq_false_iff_ne.mpr c43
         have c43b1 : (t631 != 0) = true := bne_iff_ne.mpr c43
         exact absurd ((Option.some.inj H).trans HR_.out) (by decide)
       ·rw [if_neg c41] at H
        have c41b0 : (t614 == 0) = false := beq_eq_false_iff_ne.mpr c41
        have c41b1 : (t614 != 0) = true := bne_iff_ne.mpr c41
        obtain rfl := Option.some.inj H
        go_wp2
        go_ret
        exact ⟨by first | rfl | (simp [errW_none, errW_some] <;> rfl) | (simp [*, errW_none, errW_some] <;> rfl), by repeat (first | (with_reducible first | exact HB.out | apply below_alloc | apply pw_below_drewN | apply below_drew1) | exact HB.out)⟩
def laws_FnScoreTexts.Pure : Prop := ∀ (l0 : List Int), l0.length ≤ maxLen → l0.length * 1 ≤ 140737488351232 → (∀ x ∈ l0, (Lit.int .u8 x).wf = true) → ∃ k, laws_FnScoreTexts.f k l0 = some true
theorem laws_FnScoreTexts.walk (P : laws_FnScoreTexts.Pure) (a0 : Option Addr) (len0 cap0 : Nat) (z0 : List Int) (w : World) (w0 : (a0 = none ∧ len0 = 0 ∧ cap0 = 0 ∧ z0 = []) ∨ ∃ x, a0 = some x ∧ len0 ≤ cap0 ∧ cap0 ≤ maxLen ∧ z0.length = cap0 ∧ (∀ i, i < z0.length → w.cell? (x.add i) = some (.int .u8 (z0.getD i 0))) ∧ ∀ n ∈ z0, (Lit.int .u8 n).wf = true) (y0 : len0 * 1 ≤ 140737488351232) :
  Calls Try.prog 5 #[.slice a0 len0 cap0] w fun e w' => e = .returned (.bool true) ∧ Below w.heap.size w w' := by
 obtain ⟨l0, rfl, hr0, hm0, hw0, hc0⟩ := ReadsInt.ofRowC w0
 obtain ⟨k, h⟩ := P l0 hm0 y0 hw0
 refine (laws_FnScoreTexts.calls k _ _ l0 true w (Kd.C_of_reads (d := (0 : Int)) (h1 := fun _ => rfl) hr0) hc0 h rfl).mono ?_
 rintro e w' ⟨rfl, hd⟩
 exact ⟨rfl, hd⟩
end Go.Proofs.Ytigkgihnijaefaa.F
namespace Go.Proofs.Ytigkgihnijaefaa.F
open Go.RowKit Go.Proofs.YtigkgihnijaefaaW.PrintWords Go.Proofs.YtigkgihnijaefaaW.PrintLast Go.Proofs.YtigkgihnijaefaaW.PrintMore
set_option linter.unusedVariables false
set_option linter.unusedSimpArgs false
def Evt (P : Nat → Prop) : Prop := ∃ K, ∀ k, K ≤ k → P k
theorem Evt.mono {P Q : Nat → Prop} (h : Evt P) (hq : ∀ k, P k → Q k) : Evt Q := by
 obtain ⟨K, h⟩ := h
 exact ⟨K, fun k hk => hq k (h k hk)⟩
theorem Evt.succ {P : Nat → Prop} (h : Evt (fun k => P (k + 1))) : Evt P := by
 obtain ⟨K, h⟩ := h
 refine ⟨K + 1, fun k hk => ?_⟩
 obtain ⟨m, rfl⟩ : ∃ m, k = m + 1 := ⟨k - 1, by omega⟩
 exact h m (by omega)
theorem w64 {n : Int} (h : -9223372036854775808 ≤ n ∧ n ≤ 9223372036854775807) : wrap64 n = n := by unfold wrap64; omega
def allF (p : Nat → Bool) : Nat → Nat → Bool
 | _, 0 => true
 | i, d + 1 => p i && allF p (i + 1) d
theorem allF_true {p : Nat → Bool} : ∀ (d i : Nat), allF p i d = true ↔ ∀ j, i ≤ j → j < i + d → p j = true
 | 0, i => by simp [allF]; intro j h1 h2; omega
 | d + 1, i => by
  unfold allF
  rw [Bool.and_eq_true, allF_true d (i + 1)]
  constructor
  ·rintro ⟨h1, h2⟩ j h3 h4
   rcases Nat.eq_or_lt_of_le h3 with e | e
   ·exact e ▸ h1
   ·exact h2 j e (by omega)
  ·exact fun h => ⟨h i (Nat.le_refl _) (by omega), fun j h1 h2 => h j (by omega) (by omega)⟩
theorem all_loopF {f : Nat → Nat → Option Bool} {p : Nat → Bool} {e : Bool} (a n : Nat) (hs : ∀ k i, a ≤ i → i < n → f (k + 1) i = if p i = true then f k (i + 1) else some false) (he : ∀ k, f (k + 1) n = some e) :
  ∀ d k i, a ≤ i → n - i = d → i ≤ n → d < k → f k i = some (allF p i d && e) := by
 intro d
 induction d with
 | zero =>
  intro k i ha hd hi hk
  obtain ⟨k, rfl⟩ : ∃ m, k = m + 1 := ⟨k - 1, by omega⟩
  have : i = n := by omega
  subst this
  rw [he]
  rfl
 | succ d ih =>
  intro k i ha hd hi hk
  obtain ⟨k, rfl⟩ : ∃ m, k = m + 1 := ⟨k - 1, by omega⟩
  rw [hs k i ha (by omega)]
  unfold allF
  by_cases hp : p i = true
  ·rw [if_pos hp, ih k (i + 1) (by omega) (by omega) (by omega) (by omega), hp, Bool.true_and]
  ·rw [if_neg hp]
   replace hp := Bool.eq_false_iff.mpr hp
   rw [hp, Bool.false_and, Bool.false_and]
theorem all_loop {f : Nat → Nat → Option Bool} {p : Nat → Bool} {e : Bool} (n : Nat) (hs : ∀ k i, i < n → f (k + 1) i = if p i = true then f k (i + 1) else some false) (he : ∀ k, f (k + 1) n = some e) :
  ∀ d k i, n - i = d → i ≤ n → d < k → f k i = some (allF p i d && e) := fun d k i => all_loopF 0 n (fun k i _ h => hs k i h) he d k i (Nat.zero_le _)
def inB (n lo hi : Int) : Bool := decide (lo ≤ n ∧ n ≤ hi)
theorem inB_true {n lo hi : Int} : inB n lo hi = true ↔ lo ≤ n ∧ n ≤ hi := by unfold inB; exact decide_eq_true_iff
theorem inB_false {n lo hi : Int} : inB n lo hi = false ↔ ¬ (lo ≤ n ∧ n ≤ hi) := by unfold inB; exact decide_eq_false_iff_not
end Go.Proofs.Ytigkgihnijaefaa.F
namespace Go.Proofs.Ytigkgihnijaefaa.F
open Go.RowKit Go.Proofs.YtigkgihnijaefaaW.PrintWords Go.Proofs.YtigkgihnijaefaaW.PrintLast Go.Proofs.YtigkgihnijaefaaW.PrintMore
set_option linter.unusedVariables false
set_option linter.unusedSimpArgs false
theorem In_eq (n lo hi : Int) : spec_l01In.f n lo hi = some (inB n lo hi) := by
 unfold spec_l01In.f inB
 by_cases h : n ≥ lo
 ·rw [if_pos h]; congr 1; simp; omega
 ·rw [if_neg h]; congr 1; simp; omega
theorem Wi_eq (n lo hi : Int) : impl_within.f n lo hi = some (inB n lo hi) := by
 unfold impl_within.f inB
 by_cases h : lo ≤ n
 ·rw [if_pos h]; congr 1; simp; omega
 ·rw [if_neg h]; congr 1; simp; omega
end Go.Proofs.Ytigkgihnijaefaa.F
namespace Go.Proofs.Ytigkgihnijaefaa.F
open Go.RowKit Go.Proofs.YtigkgihnijaefaaW.PrintWords Go.Proofs.YtigkgihnijaefaaW.PrintLast Go.Proofs.YtigkgihnijaefaaW.PrintMore
set_option linter.unusedVariables false
set_option linter.unusedSimpArgs false
def dig (n : Int) : ByteArray := strOfNums (([(wrap64 (48 + Int.tmod n 10)) % 256] : List Int))
def dcs : Nat → Int → ByteArray
 | 0, _ => ByteArray.empty
 | d + 1, n => if n < 10 then dig n else dcs d (n / 10) ++ dig n
theorem dig_size (n : Int) : (dig n).size = 1 := rfl
theorem dcs_size : ∀ (d : Nat) (n : Int), (dcs d n).size ≤ d
 | 0, n => by unfold dcs; exact Nat.le_refl 0
 | d + 1, n => by
  unfold dcs
  split
  ·rw [dig_size]; omega
  ·rw [ByteArray.size_append, dig_size]; have := dcs_size d (n / 10); omega
theorem tdiv10 {n : Int} (h : 0 ≤ n) : Int.tdiv n 10 = n / 10 := Int.tdiv_eq_ediv_of_nonneg h
theorem tmod10 {n : Int} (h : 0 ≤ n) : Int.tmod n 10 = n % 10 := Int.tmod_eq_emod_of_nonneg h
theorem spec_dec : ∀ (d : Nat) (n : Int) (k : Nat), 0 ≤ n → n < 10 ^ d → n ≤ 9223372036854775807 → d ≤ 1000 → 0 < d → d ≤ k → spec_l01Dec.f k n = some (dcs d n)
 | 0, _, _, _, _, _, _, h, _ => absurd h (by omega)
 | d + 1, n, k, h0, h1, h2, h4, _, hk => by
  obtain ⟨k, rfl⟩ : ∃ m, k = m + 1 := ⟨k - 1, by omega⟩
  unfold spec_l01Dec.f dcs
  by_cases h : n < 10
  ·rw [if_pos h, if_pos h]
   unfold dig
   rw [tmod10 h0, show n % 10 = n by omega]
  ·rw [if_neg h, if_neg h, tdiv10 h0, w64 (by omega)]
   have hd : 0 < d := by
    rcases Nat.eq_zero_or_pos d with e | e
    ·subst e; omega
    ·exact e
   have hp : n / 10 < 10 ^ d := Int.ediv_lt_of_lt_mul (by omega) (by rw [Int.pow_succ] at h1; exact h1)
   rw [spec_dec d (n / 10) k (by omega) hp (by omega) (by omega) hd (by omega)]
   have hs := dcs_size d (n / 10)
   have hg := dig_size n
   simp only [Option.bind_some]
   unfold dig at *
   rw [if_pos (by omega)]
theorem impl_dec0 : ∀ (d : Nat) (n : Int) (acc : ByteArray) (k : Nat), 0 ≤ n → n < 10 ^ d → n ≤ 9223372036854775807 → acc.size + d ≤ 1000 → 0 < d → d ≤ k → impl_decimal.l0 k n acc = some (dcs d n ++ acc)
 | 0, _, _, _, _, _, _, _, h, _ => absurd h (by omega)
 | d + 1, n, acc, k, h0, h1, h2, h4, _, hk => by
  obtain ⟨k, rfl⟩ : ∃ m, k = m + 1 := ⟨k - 1, by omega⟩
  unfold impl_decimal.l0 dcs
  simp only [Option.bind_some]
  have hg := dig_size n
  have ea : strOfNums (([(wrap64 (48 + Int.tmod n 10)) % 256] : List Int)) = dig n := rfl
  rw [ea, if_pos (by omega), tdiv10 h0, w64 (by omega)]
  by_cases h : n < 10
  ·rw [if_pos h, if_pos (by omega)]
  ·rw [if_neg h, if_neg (by omega)]
   have hd : 0 < d := by
    rcases Nat.eq_zero_or_pos d with e | e
    ·subst e; omega
    ·exact e
   have hp : n / 10 < 10 ^ d := Int.ediv_lt_of_lt_mul (by omega) (by rw [Int.pow_succ] at h1; exact h1)
   rw [impl_dec0 d (n / 10) (dig n ++ acc) k (by omega) hp (by omega) (by rw [ByteArray.size_append]; omega) hd (by omega), ByteArray.append_assoc]
theorem impl_dec (d : Nat) (n : Int) (k : Nat) (h0 : 0 ≤ n) (h1 : n < 10 ^ d) (h2 : n ≤ 9223372036854775807) (h4 : d ≤ 1000) (hd : 0 < d) (hk : d < k) : impl_decimal.f k n = some (dcs d n) := by
 obtain ⟨k, rfl⟩ : ∃ m, k = m + 1 := ⟨k - 1, by omega⟩
 unfold impl_decimal.f
 rw [if_neg (by omega)]
 refine (impl_dec0 d n ByteArray.empty k h0 h1 h2 (by show 0 + d ≤ 1000; omega) hd (by omega)).trans ?_
 rw [ByteArray.append_empty]
def jnT (ws : List ByteArray) (sep : ByteArray) : Nat → ByteArray
 | 0 => ByteArray.empty
 | i + 1 => if 0 < i then (jnT ws sep i ++ sep) ++ ws.getD i ByteArray.empty else jnT ws sep i ++ ws.getD i ByteArray.empty
theorem jnT_size (ws : List ByteArray) (sep : ByteArray) (B : Nat) (hs : sep.size ≤ 100) (hw : ∀ i, i < ws.length → (ws.getD i ByteArray.empty).size ≤ B) : ∀ i, i ≤ ws.length → (jnT ws sep i).size ≤ i * (B + 100)
 | 0, _ => by unfold jnT; exact Nat.zero_le _
 | i + 1, hi => by
  have h1 := jnT_size ws sep B hs hw i (by omega)
  have h2 := hw i (by omega)
  unfold jnT
  rw [Nat.succ_mul]
  split
  ·rw [ByteArray.size_append, ByteArray.size_append]; omega
  ·rw [ByteArray.size_append]; omega
theorem spec_words (ws : List ByteArray) (sep : ByteArray) (B : Nat) (hs : sep.size ≤ 100) (hw : ∀ i, i < ws.length → (ws.getD i ByteArray.empty).size ≤ B) (hB : B ≤ 10000000) (hl : ws.length ≤ 10000000) : ∀ (d i k : Nat), ws.length - i = d → i ≤ ws.length → d < k → spec_l01Words.l0 k ws sep (jnT ws sep i) (i : Int) = some (jnT ws sep ws.length) := by
 intro d
 induction d with
 | zero =>
  intro i k hd hi hk
  obtain ⟨k, rfl⟩ : ∃ m, k = m + 1 := ⟨k - 1, by omega⟩
  unfold spec_l01Words.l0
  rw [if_neg (by omega), show i = ws.length by omega]
 | succ d ih =>
  intro i k hd hi hk
  obtain ⟨k, rfl⟩ : ∃ m, k = m + 1 := ⟨k - 1, by omega⟩
  have h1 := jnT_size ws sep B hs hw i (by omega)
  have h2 := hw i (by omega)
  have h3 : i * (B + 100) ≤ 10000000 * 10000100 := Nat.mul_le_mul (by omega) (by omega)
  have hr : rdOf ByteArray.empty ws (i : Int) = ws.getD i ByteArray.empty := by unfold rdOf; rw [Int.toNat_natCast]
  have e := ih (i + 1) k (by omega) (by omega) (by omega)
  unfold spec_l01Words.l0
  rw [hr, if_pos (by omega), w64 (by omega), Int.natCast_add] at *
  by_cases h : 0 < i
  ·rw [if_pos (by omega), if_pos (by omega), if_pos (by omega), if_pos (by rw [ByteArray.size_append]; omega)]
   rw [show jnT ws sep (i + 1) = (jnT ws sep i ++ sep) ++ ws.getD i ByteArray.empty by rw [jnT, if_pos h]] at e
   exact e
  ·rw [if_neg (by omega), if_pos (by omega), if_pos (by omega)]
   rw [show jnT ws sep (i + 1) = jnT ws sep i ++ ws.getD i ByteArray.empty by rw [jnT, if_neg h]] at e
   exact e
theorem impl_words (ws : List ByteArray) (sep : ByteArray) (B : Nat) (hs : sep.size ≤ 100) (hw : ∀ i, i < ws.length → (ws.getD i ByteArray.empty).size ≤ B) (hB : B ≤ 10000000) (hl : ws.length ≤ 10000000) : ∀ (d i k : Nat), ws.length - i = d → i ≤ ws.length → d < k → impl_joinWith.l0 k sep (jnT ws sep i) ws (ws.length : Int) (i : Int) = some (jnT ws sep ws.length) := by
 intro d
 induction d with
 | zero =>
  intro i k hd hi hk
  obtain ⟨k, rfl⟩ : ∃ m, k = m + 1 := ⟨k - 1, by omega⟩
  unfold impl_joinWith.l0
  rw [if_neg (by omega), show i = ws.length by omega]
 | succ d ih =>
  intro i k hd hi hk
  obtain ⟨k, rfl⟩ : ∃ m, k = m + 1 := ⟨k - 1, by omega⟩
  have h1 := jnT_size ws sep B hs hw i (by omega)
  have h2 := hw i (by omega)
  have h3 : i * (B + 100) ≤ 10000000 * 10000100 := Nat.mul_le_mul (by omega) (by omega)
  have hr : rdOf ByteArray.empty ws (i : Int) = ws.getD i ByteArray.empty := by unfold rdOf; rw [Int.toNat_natCast]
  have e := ih (i + 1) k (by omega) (by omega) (by omega)
  unfold impl_joinWith.l0
  rw [hr, if_pos (by omega), if_pos (by omega), if_pos (by omega), w64 (by omega), Int.natCast_add] at *
  by_cases h : 0 < i
  ·rw [if_pos (by omega), if_pos (by omega), if_pos (by rw [ByteArray.size_append]; omega)]
   rw [show jnT ws sep (i + 1) = (jnT ws sep i ++ sep) ++ ws.getD i ByteArray.empty by rw [jnT, if_pos h]] at e
   exact e
  ·rw [if_neg (by omega), if_pos (by omega)]
   rw [show jnT ws sep (i + 1) = jnT ws sep i ++ ws.getD i ByteArray.empty by rw [jnT, if_neg h]] at e
   exact e
end Go.Proofs.Ytigkgihnijaefaa.F
namespace Go.Proofs.Ytigkgihnijaefaa.F
open Go.RowKit Go.Proofs.YtigkgihnijaefaaW.PrintWords Go.Proofs.YtigkgihnijaefaaW.PrintLast Go.Proofs.YtigkgihnijaefaaW.PrintMore
set_option linter.unusedVariables false
set_option linter.unusedSimpArgs false
def isDig (z : ByteArray) (i : Nat) : Bool := inB (bt z (i : Int)) 48 57
def vl (z : ByteArray) : Nat → Int
 | 0 => 0
 | i + 1 => 10 * vl z i + (bt z (i : Int) - 48)
theorem vl_bound (z : ByteArray) : ∀ i, (∀ j, j < i → isDig z j = true) → 0 ≤ vl z i ∧ vl z i < 10 ^ i
 | 0, _ => by unfold vl; omega
 | i + 1, h => by
  have h1 := vl_bound z i (fun j hj => h j (by omega))
  have h2 := h i (by omega)
  unfold isDig at h2
  rw [inB_true] at h2
  unfold vl
  rw [Int.pow_succ]
  omega
theorem vl_big (z : ByteArray) (h0 : bt z 0 ≠ 48) : ∀ i, (∀ j, j < i + 1 → isDig z j = true) → 10 ^ i ≤ vl z (i + 1)
 | 0, h => by
  have h2 := h 0 (by omega)
  unfold isDig at h2
  rw [inB_true] at h2
  have h3 : bt z ((0 : Nat) : Int) = bt z 0 := rfl
  have e : vl z (0 + 1) = bt z ((0 : Nat) : Int) - 48 := by unfold vl vl; omega
  rw [e, h3, Int.pow_zero]
  rw [h3] at h2
  omega
 | i + 1, h => by
  have h1 := vl_big z h0 i (fun j hj => h j (by omega))
  have h2 := h (i + 1) (by omega)
  unfold isDig at h2
  rw [inB_true] at h2
  rw [vl, Int.pow_succ]
  omega
theorem pow_le18 {i : Nat} (h : i ≤ 18) : (10 : Int) ^ i ≤ 1000000000000000000 := by
 have h1 : (10 : Nat) ^ i ≤ 10 ^ 18 := Nat.pow_le_pow_right (by omega) h
 have h2 : ((10 ^ i : Nat) : Int) = (10 : Int) ^ i := by simp
 have h3 : (10 : Nat) ^ 18 = 1000000000000000000 := by decide
 omega
theorem pow_le17 {i : Nat} (h : i ≤ 17) : (10 : Int) ^ i ≤ 100000000000000000 := by
 have h1 : (10 : Nat) ^ i ≤ 10 ^ 17 := Nat.pow_le_pow_right (by omega) h
 have h2 : ((10 ^ i : Nat) : Int) = (10 : Int) ^ i := by simp
 have h3 : (10 : Nat) ^ 17 = 100000000000000000 := by decide
 omega
theorem pow_ge13 {i : Nat} (h : 13 ≤ i) : (10000000000000 : Int) ≤ (10 : Int) ^ i := by
 have h1 : (10 : Nat) ^ 13 ≤ 10 ^ i := Nat.pow_le_pow_right (by omega) h
 have h2 : ((10 ^ i : Nat) : Int) = (10 : Int) ^ i := by simp
 have h3 : (10 : Nat) ^ 13 = 10000000000000 := by decide
 omega
theorem byte_of (z : ByteArray) (i : Nat) (h : i < z.size) : bt z (i : Int) = ((z[i]'h).toNat : Int) := by
 unfold bt
 rw [dif_pos (by rw [Int.toNat_natCast]; exact h)]
 simp only [Int.toNat_natCast]
theorem dig_byte (z : ByteArray) (n : Int) (i : Nat) (h : i < z.size) (hd : isDig z i = true) (hn : n % 10 = bt z (i : Int) - 48) (h0 : 0 ≤ n) : dig n = z.extract i (i + 1) := by
 unfold isDig at hd
 rw [inB_true] at hd
 have t2 : Int.tmod n 10 = n % 10 := Int.tmod_eq_emod_of_nonneg h0
 have hb := byte_of z i h
 unfold dig
 rw [t2, w64 (by omega), show (48 + n % 10) % 256 = bt z (i : Int) by omega, hb]
 refine ByteArray.ext_getElem (by rw [ByteArray.size_extract]; show 1 = _; omega) fun j h1 h2 => ?_
 have hj : j = 0 := by
  have : j < 1 := h1
  omega
 subst hj
 rw [ByteArray.getElem_extract]
 show UInt8.ofNat ((z[i]'h).toNat : Int).toNat = _
 rw [Int.toNat_natCast]
 simp
theorem dcs_vl (z : ByteArray) (h0 : bt z 0 ≠ 48) (hz : ∀ j, j < z.size → isDig z j = true) : ∀ i d, i < z.size → i < d → dcs d (vl z (i + 1)) = z.extract 0 (i + 1)
 | 0, d, hi, hd => by
  obtain ⟨d, rfl⟩ : ∃ m, d = m + 1 := ⟨d - 1, by omega⟩
  have h1 := hz 0 hi
  have h2 := h1
  unfold isDig at h2
  rw [inB_true] at h2
  have e : vl z (0 + 1) = bt z ((0 : Nat) : Int) - 48 := by unfold vl vl; omega
  unfold dcs
  rw [if_pos (by omega)]
  exact dig_byte z _ 0 hi h1 (by omega) (by omega)
 | i + 1, d, hi, hd => by
  obtain ⟨d, rfl⟩ : ∃ m, d = m + 1 := ⟨d - 1, by omega⟩
  have h1 := hz (i + 1) hi
  have h2 := h1
  unfold isDig at h2
  rw [inB_true] at h2
  have hb := vl_big z h0 i (fun j hj => hz j (by omega))
  have hp : (1 : Int) ≤ 10 ^ i := by
   have : (0 : Int) < 10 ^ i := Int.pow_pos (by omega)
   omega
  have e : vl z (i + 1 + 1) = 10 * vl z (i + 1) + (bt z ((i + 1 : Nat) : Int) - 48) := rfl
  unfold dcs
  rw [if_neg (by omega), show vl z (i + 1 + 1) / 10 = vl z (i + 1) by omega, dcs_vl z h0 hz i d (by omega) (by omega), dig_byte z _ (i + 1) hi h1 (by omega) (by omega), ByteArray.extract_append_extract]
  simp
theorem spec_val (z : ByteArray) (hz : z.size ≤ 18) (r : Option (Int × Bool)) (hr : ∀ k, 30 ≤ k → (∀ j, j < z.size → isDig z j = true) → (spec_l01Dec.f k (vl z z.size)).bind (fun t => some (vl z z.size, t.toList == z.toList)) = r) (hb : (¬ ∀ j, j < z.size → isDig z j = true) → r = some (0, false)) :
  ∀ (d i k : Nat), z.size - i = d → i ≤ z.size → (∀ j, j < i → isDig z j = true) → d + 31 ≤ k → spec_l01Value.l0 k z (vl z i) (i : Int) = r := by
 intro d
 induction d with
 | zero =>
  intro i k hd hi hj hk
  obtain ⟨k, rfl⟩ : ∃ m, k = m + 1 := ⟨k - 1, by omega⟩
  have e : i = z.size := by omega
  subst e
  unfold spec_l01Value.l0
  rw [if_neg (by omega)]
  exact hr k (by omega) hj
 | succ d ih =>
  intro i k hd hi hj hk
  obtain ⟨k, rfl⟩ : ∃ m, k = m + 1 := ⟨k - 1, by omega⟩
  have hv := vl_bound z i hj
  have hp := pow_le17 (i := i) (by omega)
  unfold spec_l01Value.l0
  rw [if_pos (by omega), if_pos (by omega)]
  by_cases c1 : bt z (i : Int) < 48
  ·rw [if_pos c1]
   refine (hb fun h => ?_).symm
   have := h i (by omega)
   unfold isDig at this
   rw [inB_true] at this
   omega
  ·rw [if_neg c1]
   by_cases c2 : bt z (i : Int) > 57
   ·rw [if_pos c2]
    refine (hb fun h => ?_).symm
    have := h i (by omega)
    unfold isDig at this
    rw [inB_true] at this
    omega
   ·rw [if_neg c2, w64 (n := 10 * vl z i) (by omega), show (bt z (i : Int) - 48) % 256 = bt z (i : Int) - 48 by omega, w64 (n := 10 * vl z i + (bt z (i : Int) - 48)) (by omega), w64 (by omega)]
    refine ih (i + 1) k (by omega) (by omega) (fun j h => ?_) (by omega)
    rcases Nat.lt_or_ge j i with e | e
    ·exact hj j e
    ·have : j = i := by omega
     subst this
     unfold isDig
     rw [inB_true]
     omega
theorem impl_val (w z : ByteArray) (hz : z.size ≤ 18) (r : Option (Int × Bool)) (hr : (∀ j, j < z.size → isDig z j = true) → (if (z.size : Int) < (w.size : Int) then some (wrap64 (-(vl z z.size)), true) else some (vl z z.size, true)) = r) (hb : (¬ ∀ j, j < z.size → isDig z j = true) → r = some (0, false)) :
  ∀ (d i k : Nat), z.size - i = d → i ≤ z.size → (∀ j, j < i → isDig z j = true) → d + 1 ≤ k → impl_readDecimal.l0 k w z (vl z i) (i : Int) = r := by
 intro d
 induction d with
 | zero =>
  intro i k hd hi hj hk
  obtain ⟨k, rfl⟩ : ∃ m, k = m + 1 := ⟨k - 1, by omega⟩
  have e : i = z.size := by omega
  subst e
  unfold impl_readDecimal.l0
  rw [if_neg (by omega)]
  exact hr hj
 | succ d ih =>
  intro i k hd hi hj hk
  obtain ⟨k, rfl⟩ : ∃ m, k = m + 1 := ⟨k - 1, by omega⟩
  have hv := vl_bound z i hj
  have hp := pow_le17 (i := i) (by omega)
  unfold impl_readDecimal.l0
  rw [if_pos (by omega), if_pos (by omega)]
  by_cases c1 : bt z (i : Int) < 48
  ·rw [if_pos c1]
   refine (hb fun h => ?_).symm
   have := h i (by omega)
   unfold isDig at this
   rw [inB_true] at this
   omega
  ·rw [if_neg c1]
   by_cases c2 : bt z (i : Int) > 57
   ·rw [if_pos c2]
    refine (hb fun h => ?_).symm
    have := h i (by omega)
    unfold isDig at this
    rw [inB_true] at this
    omega
   ·rw [if_neg c2, w64 (n := 10 * vl z i) (by omega), show (bt z (i : Int) - 48) % 256 = bt z (i : Int) - 48 by omega, w64 (n := 10 * vl z i + (bt z (i : Int) - 48)) (by omega), w64 (by omega)]
    refine ih (i + 1) k (by omega) (by omega) (fun j h => ?_) (by omega)
    rcases Nat.lt_or_ge j i with e | e
    ·exact hj j e
    ·have : j = i := by omega
     subst this
     unfold isDig
     rw [inB_true]
     omega
theorem same_list {a b : ByteArray} : (a.toList == b.toList) = true ↔ a = b := by
 rw [ByteArray.toList_eq, ByteArray.toList_eq, beq_iff_eq]
 constructor
 ·intro h
  exact ByteArray.ext (Array.toList_inj.1 h)
 ·rintro rfl; rfl
theorem value_is (w z : ByteArray) (hw : z.size ≤ w.size) : ∃ (v : Int) (ok : Bool) (v' : Int) (ok' : Bool), (∀ k, 60 ≤ k → spec_l01Value.f k z = some (v, ok)) ∧ (∀ k, 60 ≤ k → impl_readDecimal.j1 k w z = some (v', ok')) ∧ (ok = true → 0 ≤ v ∧ v < 10000000000000 ∧ (if z.size < w.size then (v = 0 → ok' = false) ∧ (v ≠ 0 → ok' = true ∧ v' = -v) else ok' = true ∧ v' = v)) ∧ (ok = false → ok' = false ∨ v' < -5000 ∨ 5000 < v') := by
 by_cases s0 : z.size = 0
 ·refine ⟨0, false, 0, false, fun k hk => ?_, fun k hk => ?_, (fun h => by cases h), fun _ => .inl rfl⟩
  ·obtain ⟨k, rfl⟩ : ∃ m, k = m + 1 := ⟨k - 1, by omega⟩
   unfold spec_l01Value.f
   rw [if_pos (by omega)]
   rfl
  ·obtain ⟨k, rfl⟩ : ∃ m, k = m + 2 := ⟨k - 2, by omega⟩
   simp only [impl_readDecimal.j1, impl_readDecimal.j2]
   rw [if_pos (by omega)]
   rfl
 by_cases s18 : 18 < z.size
 ·refine ⟨0, false, 0, false, fun k hk => ?_, fun k hk => ?_, (fun h => by cases h), fun _ => .inl rfl⟩
  ·obtain ⟨k, rfl⟩ : ∃ m, k = m + 1 := ⟨k - 1, by omega⟩
   unfold spec_l01Value.f
   rw [if_neg (by omega), decide_eq_true (by omega : (z.size : Int) > 13)]
   rfl
  ·obtain ⟨k, rfl⟩ : ∃ m, k = m + 2 := ⟨k - 2, by omega⟩
   simp only [impl_readDecimal.j1, impl_readDecimal.j2]
   rw [if_neg (by omega), if_pos (by omega)]
   rfl
 -- spec: at most 13 digits
 have sp : z.size ≤ 13 → ∀ r : Option (Int × Bool), (∀ k, 30 ≤ k → (∀ j, j < z.size → isDig z j = true) → (spec_l01Dec.f k (vl z z.size)).bind (fun t => some (vl z z.size, t.toList == z.toList)) = r) → ((¬ ∀ j, j < z.size → isDig z j = true) → r = some (0, false)) → ∀ k, 60 ≤ k → spec_l01Value.f k z = r := by
  intro h13 r hr hb k hk
  obtain ⟨k, rfl⟩ : ∃ m, k = m + 1 := ⟨k - 1, by omega⟩
  unfold spec_l01Value.f
  rw [if_neg (by omega), decide_eq_false (by omega : ¬ (z.size : Int) > 13)]
  simp only [spec_l01Value.j0, Bool.false_eq_true, if_false]
  exact spec_val z (by omega) r hr hb z.size 0 k (by omega) (by omega) (fun j h => absurd h (by omega)) (by omega)
 have sp14 : 13 < z.size → ∀ k, 60 ≤ k → spec_l01Value.f k z = some (0, false) := by
  intro h13 k hk
  obtain ⟨k, rfl⟩ : ∃ m, k = m + 1 := ⟨k - 1, by omega⟩
  unfold spec_l01Value.f
  rw [if_neg (by omega), decide_eq_true (by omega : (z.size : Int) > 13)]
  rfl
 have b0 : bt z ((0 : Nat) : Int) = bt z 0 := rfl
 by_cases lead : bt z 0 = 48
 ·by_cases s1 : z.size = 1
  ·-- the word 0
   have hd : ∀ j, j < z.size → isDig z j = true := fun j hj => by
    have : j = 0 := by omega
    subst this
    unfold isDig
    rw [inB_true, b0]
    omega
   have e1 : vl z z.size = 0 := by rw [s1]; unfold vl vl; rw [b0]; omega
   have ez : dig 0 = z := by
    rw [dig_byte z 0 0 (by omega) (hd 0 (by omega)) (by rw [b0]; omega) (by omega)]
    have := ByteArray.extract_zero_size (b := z)
    rw [s1] at this
    exact this
   have e2 : ∀ k, 60 ≤ k → spec_l01Value.f k z = some (0, true) := sp (by omega) _ (fun k hk _ => by
    rw [e1, spec_dec 1 0 k (by omega) (by omega) (by omega) (by omega) (by omega) (by omega)]
    show some ((0 : Int), (dig 0).toList == z.toList) = _
    rw [same_list.2 ez]) (fun h => absurd hd h)
   by_cases c : z.size < w.size
   ·refine ⟨0, true, 0, false, e2, fun k hk => ?_, fun _ => ⟨by omega, by omega, by rw [if_pos c]; exact ⟨fun _ => rfl, fun h => absurd rfl h⟩⟩, (fun h => by cases h)⟩
    obtain ⟨k, rfl⟩ : ∃ m, k = m + 2 := ⟨k - 2, by omega⟩
    simp only [impl_readDecimal.j1, impl_readDecimal.j2]
    rw [if_neg (by omega), if_neg (by omega), if_pos (by omega), if_pos lead, if_neg (by omega), if_pos (decide_eq_true (by omega))]
   ·refine ⟨0, true, 0, true, e2, fun k hk => ?_, fun _ => ⟨by omega, by omega, by rw [if_neg c]; exact ⟨rfl, rfl⟩⟩, (fun h => by cases h)⟩
    obtain ⟨k, rfl⟩ : ∃ m, k = m + 2 := ⟨k - 2, by omega⟩
    simp only [impl_readDecimal.j1, impl_readDecimal.j2]
    rw [if_neg (by omega), if_neg (by omega), if_pos (by omega), if_pos lead, if_neg (by omega), if_neg (by rw [decide_eq_true_iff]; omega)]
    exact impl_val w z (by omega) _ (fun _ => by rw [if_neg (by omega), e1]) (fun h => absurd hd h) z.size 0 k (by omega) (by omega) (fun j h => absurd h (by omega)) (by omega)
  ·-- a zero ahead: both fail
   have im : ∀ k, 60 ≤ k → impl_readDecimal.j1 k w z = some (0, false) := fun k hk => by
    obtain ⟨k, rfl⟩ : ∃ m, k = m + 2 := ⟨k - 2, by omega⟩
    simp only [impl_readDecimal.j1, impl_readDecimal.j2]
    rw [if_neg (by omega), if_neg (by omega), if_pos (by omega), if_pos lead, if_pos (by omega)]
    rfl
   by_cases h13 : 13 < z.size
   ·exact ⟨0, false, 0, false, sp14 h13, im, fun h => (by cases h), fun _ => .inl rfl⟩
   ·by_cases hd : ∀ j, j < z.size → isDig z j = true
    ·refine ⟨vl z z.size, false, 0, false, sp (by omega) _ (fun k hk _ => ?_) (fun h => absurd hd h), im, (fun h => by cases h), fun _ => .inl rfl⟩
     -- its number has a digit less
     obtain ⟨n, hn⟩ : ∃ n, z.size = n + 1 := ⟨z.size - 1, by omega⟩
     have lead2 : ∀ i, (∀ j, j < i + 1 → isDig z j = true) → vl z (i + 1) < 10 ^ i := by
      intro i
      induction i with
      | zero => intro _; unfold vl vl; rw [b0]; omega
      | succ i ih =>
       intro h
       have h1 := ih (fun j hj => h j (by omega))
       have h2 := h (i + 1) (by omega)
       unfold isDig at h2
       rw [inB_true] at h2
       rw [vl, Int.pow_succ]
       omega
     have hb := vl_bound z z.size hd
     have hl : vl z z.size < 10 ^ n := by rw [hn]; exact lead2 n (fun j hj => hd j (by omega))
     have hp := pow_le18 (i := n) (by omega)
     rw [spec_dec n _ k hb.1 hl (by omega) (by omega) (by omega) (by omega)]
     simp only [Option.bind_some]
     have : ((dcs n (vl z z.size)).toList == z.toList) = false := by
      rw [Bool.eq_false_iff]
      intro h
      have h1 := same_list.1 h
      have h2 := dcs_size n (vl z z.size)
      rw [h1] at h2
      omega
     rw [this]
    ·exact ⟨0, false, 0, false, sp (by omega) _ (fun k hk h => absurd h hd) (fun _ => rfl), im, fun h => (by cases h), fun _ => .inl rfl⟩
 ·have im : ∀ (r : Option (Int × Bool)), ((∀ j, j < z.size → isDig z j = true) → (if (z.size : Int) < (w.size : Int) then some (wrap64 (-(vl z z.size)), true) else some (vl z z.size, true)) = r) → ((¬ ∀ j, j < z.size → isDig z j = true) → r = some (0, false)) → ∀ k, 60 ≤ k → impl_readDecimal.j1 k w z = r := by
   intro r hr hb k hk
   obtain ⟨k, rfl⟩ : ∃ m, k = m + 2 := ⟨k - 2, by omega⟩
   simp only [impl_readDecimal.j1, impl_readDecimal.j2]
   rw [if_neg (by omega), if_neg (by omega), if_pos (by omega), if_neg lead, if_neg (by decide)]
   exact impl_val w z (by omega) r hr hb z.size 0 k (by omega) (by omega) (fun j h => absurd h (by omega)) (by omega)
  by_cases hd : ∀ j, j < z.size → isDig z j = true
  ·obtain ⟨n, hn⟩ : ∃ n, z.size = n + 1 := ⟨z.size - 1, by omega⟩
   have hb := vl_bound z z.size hd
   have hg : 10 ^ n ≤ vl z z.size := by rw [hn]; exact vl_big z lead n (fun j hj => hd j (by omega))
   have hp : (1 : Int) ≤ 10 ^ n := by
    have : (0 : Int) < 10 ^ n := Int.pow_pos (by omega)
    omega
   have hq := pow_le18 (i := z.size) (by omega)
   have hneg : wrap64 (-(vl z z.size)) = -(vl z z.size) := w64 (by omega)
   by_cases h13 : 13 < z.size
   ·have hh := pow_ge13 (i := n) (by omega)
    by_cases c : z.size < w.size
    ·refine ⟨0, false, -(vl z z.size), true, sp14 h13, im _ (fun _ => ?_) (fun h => absurd hd h), (fun h => by cases h), fun _ => .inr (.inl (by omega))⟩
     rw [if_pos (by omega), hneg]
    ·refine ⟨0, false, vl z z.size, true, sp14 h13, im _ (fun _ => ?_) (fun h => absurd hd h), (fun h => by cases h), fun _ => .inr (.inr (by omega))⟩
     rw [if_neg (by omega)]
   ·have ht : (10 : Int) ^ z.size ≤ 10000000000000 := by
     have h1 : (10 : Nat) ^ z.size ≤ 10 ^ 13 := Nat.pow_le_pow_right (by omega) (by omega)
     have h2 : ((10 ^ z.size : Nat) : Int) = (10 : Int) ^ z.size := by simp
     have h3 : (10 : Nat) ^ 13 = 10000000000000 := by decide
     omega
    have e2 : ∀ k, 60 ≤ k → spec_l01Value.f k z = some (vl z z.size, true) := sp (by omega) _ (fun k hk _ => by
     rw [spec_dec z.size _ k hb.1 hb.2 (by omega) (by omega) (by omega) (by omega)]
     have e3 := dcs_vl z lead hd n z.size (by omega) (by omega)
     rw [← hn, ByteArray.extract_zero_size] at e3
     show some (vl z z.size, (dcs z.size (vl z z.size)).toList == z.toList) = _
     rw [same_list.2 e3]) (fun h => absurd hd h)
    by_cases c : z.size < w.size
    ·refine ⟨vl z z.size, true, -(vl z z.size), true, e2, im _ (fun _ => ?_) (fun h => absurd hd h), fun _ => ⟨hb.1, by omega, ?_⟩, (fun h => by cases h)⟩
     ·rw [if_pos (by omega), hneg]
     ·rw [if_pos c]
      exact ⟨fun h => by omega, fun _ => ⟨rfl, rfl⟩⟩
    ·refine ⟨vl z z.size, true, vl z z.size, true, e2, im _ (fun _ => ?_) (fun h => absurd hd h), fun _ => ⟨hb.1, by omega, ?_⟩, (fun h => by cases h)⟩
     ·rw [if_neg (by omega)]
     ·rw [if_neg c]
      exact ⟨rfl, rfl⟩
  ·by_cases h13 : 13 < z.size
   ·exact ⟨0, false, 0, false, sp14 h13, im _ (fun h => absurd h hd) (fun _ => rfl), fun h => (by cases h), fun _ => .inl rfl⟩
   ·exact ⟨0, false, 0, false, sp (by omega) _ (fun k hk h => absurd h hd) (fun _ => rfl), im _ (fun h => absurd h hd) (fun _ => rfl), fun h => (by cases h), fun _ => .inl rfl⟩
theorem word_is (w : ByteArray) : ∃ (v : Int) (ok : Bool) (v' : Int) (ok' : Bool), (∀ k, 62 ≤ k → spec_l01Signed.f k w = some (v, ok)) ∧ (∀ k, 62 ≤ k → impl_readDecimal.f k w = some (v', ok')) ∧ (ok = true → ok' = true ∧ v' = v) ∧ (ok = false → ok' = false ∨ v' < -5000 ∨ 5000 < v') := by
 by_cases s0 : (w.size : Int) > 0
 ·by_cases m : bt w 0 = 45
  ·have hz : (w.extract 1 w.size).size + 1 = w.size := by rw [ByteArray.size_extract]; omega
   obtain ⟨v, ok, v', ok', h1, h2, h3, h4⟩ := value_is w (w.extract 1 w.size) (by omega)
   have hm : (bt w 0 == 45) = true := beq_iff_eq.2 m
   have im : ∀ k, 62 ≤ k → impl_readDecimal.f k w = some (v', ok') := fun k hk => by
    obtain ⟨k, rfl⟩ : ∃ m, k = m + 1 := ⟨k - 1, by omega⟩
    unfold impl_readDecimal.f
    rw [if_pos s0, if_pos (by omega), hm]
    simp only [impl_readDecimal.j0, if_true]
    rw [if_pos (by omega)]
    exact h2 k (by omega)
   cases ok with
   | false =>
    refine ⟨wrap64 (-v), false, v', ok', fun k hk => ?_, im, (fun h => by cases h), fun _ => h4 rfl⟩
    obtain ⟨k, rfl⟩ : ∃ m, k = m + 1 := ⟨k - 1, by omega⟩
    unfold spec_l01Signed.f
    rw [if_pos s0, if_pos (by omega), hm]
    simp only [spec_l01Signed.j0, if_true]
    rw [if_pos (by omega), h1 k (by omega)]
    rfl
   | true =>
    have h5 := h3 rfl
    rw [if_pos (by omega)] at h5
    refine ⟨wrap64 (-v), decide (v > 0), v', ok', fun k hk => ?_, im, fun h => ?_, fun h => ?_⟩
    ·obtain ⟨k, rfl⟩ : ∃ m, k = m + 1 := ⟨k - 1, by omega⟩
     unfold spec_l01Signed.f
     rw [if_pos s0, if_pos (by omega), hm]
     simp only [spec_l01Signed.j0, if_true]
     rw [if_pos (by omega), h1 k (by omega)]
     rfl
    ·rw [decide_eq_true_iff] at h
     rw [w64 (by omega)]
     exact h5.2.2.2 (by omega)
    ·rw [decide_eq_false_iff_not] at h
     exact .inl (h5.2.2.1 (by omega))
  ·obtain ⟨v, ok, v', ok', h1, h2, h3, h4⟩ := value_is w w (by omega)
   have hm : (bt w 0 == 45) = false := beq_eq_false_iff_ne.2 m
   refine ⟨v, ok, v', ok', fun k hk => ?_, fun k hk => ?_, fun h => ?_, h4⟩
   ·obtain ⟨k, rfl⟩ : ∃ m, k = m + 1 := ⟨k - 1, by omega⟩
    unfold spec_l01Signed.f
    rw [if_pos s0, if_pos (by omega), hm]
    simp only [spec_l01Signed.j0, Bool.false_eq_true, if_false]
    rw [h1 k (by omega)]
    rfl
   ·obtain ⟨k, rfl⟩ : ∃ m, k = m + 1 := ⟨k - 1, by omega⟩
    unfold impl_readDecimal.f
    rw [if_pos s0, if_pos (by omega), hm]
    simp only [impl_readDecimal.j0, Bool.false_eq_true, if_false]
    exact h2 k (by omega)
   ·have h5 := (h3 h).2.2
    rw [if_neg (by omega)] at h5
    exact h5
 ·obtain ⟨v, ok, v', ok', h1, h2, h3, h4⟩ := value_is w w (by omega)
  refine ⟨v, ok, v', ok', fun k hk => ?_, fun k hk => ?_, fun h => ?_, h4⟩
  ·obtain ⟨k, rfl⟩ : ∃ m, k = m + 1 := ⟨k - 1, by omega⟩
   unfold spec_l01Signed.f
   rw [if_neg s0]
   simp only [spec_l01Signed.j0, Bool.false_eq_true, if_false]
   rw [h1 k (by omega)]
   rfl
  ·obtain ⟨k, rfl⟩ : ∃ m, k = m + 1 := ⟨k - 1, by omega⟩
   unfold impl_readDecimal.f
   rw [if_neg s0]
   simp only [impl_readDecimal.j0, Bool.false_eq_true, if_false]
   exact h2 k (by omega)
  ·have h5 := (h3 h).2.2
   rw [if_neg (by omega)] at h5
   exact h5
end Go.Proofs.Ytigkgihnijaefaa.F
namespace Go.Proofs.Ytigkgihnijaefaa.F
open Go.RowKit Go.Proofs.YtigkgihnijaefaaW.PrintWords Go.Proofs.YtigkgihnijaefaaW.PrintLast Go.Proofs.YtigkgihnijaefaaW.PrintMore
set_option linter.unusedVariables false
set_option linter.unusedSimpArgs false
theorem split_go (s : ByteArray) (c : Int) (hs : s.size ≤ 1000000) : ∀ (d i a : Nat) (acc : List ByteArray), s.size - i = d → i ≤ s.size → a ≤ i → acc.length ≤ i → (∀ x ∈ acc, x.size ≤ s.size) →
  ∃ ps : List ByteArray, ps.length ≤ s.size + 1 ∧ (∀ x ∈ ps, x.size ≤ s.size) ∧ (∀ k, d + 3 ≤ k → spec_l01Split.l0 k s c acc (a : Int) (i : Int) = some ps) ∧ (∀ k, d + 3 ≤ k → impl_splitAt.l0 k s c acc (a : Int) (i : Int) = some ps) := by
 have hx : ∀ a b : Nat, (s.extract a b).size ≤ s.size := fun a b => by rw [ByteArray.size_extract]; omega
 have happ : ∀ (acc : List ByteArray) (y : ByteArray), (∀ x ∈ acc, x.size ≤ s.size) → y.size ≤ s.size → ∀ x ∈ acc ++ [y], x.size ≤ s.size := by
  intro acc y h1 h2 x hm
  rcases List.mem_append.1 hm with h | h
  ·exact h1 x h
  ·rw [List.mem_singleton.1 h]; exact h2
 intro d
 induction d with
 | zero =>
  intro i a acc hd hi ha hl hm
  have e : i = s.size := by omega
  subst e
  refine ⟨acc ++ [s.extract a s.size], by rw [List.length_append, List.length_singleton]; omega, happ acc _ hm (hx _ _), fun k hk => ?_, fun k hk => ?_⟩
  ·obtain ⟨k, rfl⟩ : ∃ m, k = m + 2 := ⟨k - 2, by omega⟩
   unfold spec_l01Split.l0
   rw [if_pos (by omega), if_pos (by omega), if_pos (by omega), if_pos (by omega), if_pos (by omega), w64 (by omega)]
   unfold spec_l01Split.l0
   rw [if_neg (by omega), Int.toNat_natCast, Int.toNat_natCast]
  ·obtain ⟨k, rfl⟩ : ∃ m, k = m + 1 := ⟨k - 1, by omega⟩
   unfold impl_splitAt.l0
   rw [if_neg (by omega), if_pos (by omega), if_pos (by omega), if_pos (by omega), Int.toNat_natCast]
 | succ d ih =>
  intro i a acc hd hi ha hl hm
  have hw : wrap64 ((i : Int) + 1) = ((i + 1 : Nat) : Int) := w64 (by omega)
  by_cases e : bt s (i : Int) = c
  ·obtain ⟨ps, p1, p2, p3, p4⟩ := ih (i + 1) (i + 1) (acc ++ [s.extract a i]) (by omega) (by omega) (by omega) (by rw [List.length_append, List.length_singleton]; omega) (happ acc _ hm (hx _ _))
   refine ⟨ps, p1, p2, fun k hk => ?_, fun k hk => ?_⟩
   ·obtain ⟨k, rfl⟩ : ∃ m, k = m + 1 := ⟨k - 1, by omega⟩
    unfold spec_l01Split.l0
    rw [if_pos (by omega), if_neg (by omega), if_pos (by omega), if_pos (by omega), if_pos e, if_pos (by omega), if_pos (by omega), if_pos (by omega), hw, Int.toNat_natCast, Int.toNat_natCast]
    exact p3 k (by omega)
   ·obtain ⟨k, rfl⟩ : ∃ m, k = m + 1 := ⟨k - 1, by omega⟩
    unfold impl_splitAt.l0
    rw [if_pos (by omega), if_pos (by omega), if_pos e, if_pos (by omega), if_pos (by omega), if_pos (by omega), if_pos (by omega), hw, Int.toNat_natCast, Int.toNat_natCast]
    exact p4 k (by omega)
  ·obtain ⟨ps, p1, p2, p3, p4⟩ := ih (i + 1) a acc (by omega) (by omega) (by omega) (by omega) hm
   refine ⟨ps, p1, p2, fun k hk => ?_, fun k hk => ?_⟩
   ·obtain ⟨k, rfl⟩ : ∃ m, k = m + 1 := ⟨k - 1, by omega⟩
    unfold spec_l01Split.l0
    rw [if_pos (by omega), if_neg (by omega), if_pos (by omega), if_pos (by omega), if_neg e, hw]
    exact p3 k (by omega)
   ·obtain ⟨k, rfl⟩ : ∃ m, k = m + 1 := ⟨k - 1, by omega⟩
    unfold impl_splitAt.l0
    rw [if_pos (by omega), if_pos (by omega), if_neg e, hw]
    exact p4 k (by omega)
theorem split_is (s : ByteArray) (c : Int) (hs : s.size ≤ 1000000) : ∃ ps : List ByteArray, ps.length ≤ s.size + 1 ∧ (∀ x ∈ ps, x.size ≤ s.size) ∧ (∀ k, s.size + 3 ≤ k → spec_l01Split.f k s c = some ps) ∧ (∀ k, s.size + 3 ≤ k → impl_splitAt.f k s c = some ps) :=
 split_go s c hs s.size 0 0 [] (by omega) (by omega) (by omega) (by simp) (by simp)
end Go.Proofs.Ytigkgihnijaefaa.F
namespace Go.Proofs.Ytigkgihnijaefaa.F
open Go.RowKit Go.Proofs.YtigkgihnijaefaaW.PrintWords Go.Proofs.YtigkgihnijaefaaW.PrintLast Go.Proofs.YtigkgihnijaefaaW.PrintMore
set_option linter.unusedVariables false
set_option linter.unusedSimpArgs false
def L (s : ByteArray) : List UInt8 := s.data.toList
theorem L_len (s : ByteArray) : (L s).length = s.size := by unfold L; rw [Array.length_toList]; rfl
theorem L_ext {a b : ByteArray} (h : L a = L b) : a = b := ByteArray.ext (Array.toList_inj.1 h)
theorem L_app (a b : ByteArray) : L (a ++ b) = L a ++ L b := by unfold L; simp
theorem L_ex (s : ByteArray) (i j : Nat) : L (s.extract i j) = ((L s).drop i).take (j - i) := by unfold L; simp [ByteArray.data_extract]
theorem L_bt (s : ByteArray) (i : Nat) (h : i < s.size) : bt s (i : Int) = (((L s)[i]'(by rw [L_len]; exact h)).toNat : Int) := by
 rw [byte_of s i h]
 rfl
theorem L_eq (s : ByteArray) (i : Nat) (h : i < s.size) (c : UInt8) : bt s (i : Int) = (c.toNat : Int) ↔ (L s)[i]'(by rw [L_len]; exact h) = c := by
 rw [L_bt s i h]
 constructor
 ·intro e
  exact UInt8.toNat_inj.1 (by omega)
 ·intro e; rw [e]
def joinL (c : UInt8) : List (List UInt8) → List UInt8
 | [] => []
 | [x] => x
 | x :: y :: r => x ++ c :: joinL c (y :: r)
theorem joinL_cons (c : UInt8) (x : List UInt8) {r : List (List UInt8)} (h : r ≠ []) : joinL c (x :: r) = x ++ c :: joinL c r := by
 cases r with
 | nil => exact absurd rfl h
 | cons y r => rfl
theorem cut_inj {c : UInt8} : ∀ (x y A B : List UInt8), c ∉ x → c ∉ y → x ++ c :: A = y ++ c :: B → x = y ∧ A = B
 | [], [], A, B, _, _, h => ⟨rfl, by simpa using h⟩
 | [], y :: ys, A, B, _, h2, h => by
  simp only [List.nil_append, List.cons_append, List.cons.injEq] at h
  exact absurd (List.mem_cons.2 (.inl h.1)) h2
 | x :: xs, [], A, B, h1, _, h => by
  simp only [List.nil_append, List.cons_append, List.cons.injEq] at h
  exact absurd (List.mem_cons.2 (.inl h.1.symm)) h1
 | x :: xs, y :: ys, A, B, h1, h2, h => by
  simp only [List.cons_append, List.cons.injEq] at h
  have := cut_inj xs ys A B (fun z => h1 (List.mem_cons_of_mem _ z)) (fun z => h2 (List.mem_cons_of_mem _ z)) h.2
  exact ⟨by rw [h.1, this.1], this.2⟩
theorem joinL_inj {c : UInt8} : ∀ (ps qs : List (List UInt8)), ps ≠ [] → qs ≠ [] → (∀ p ∈ ps, c ∉ p) → (∀ q ∈ qs, c ∉ q) → joinL c ps = joinL c qs → ps = qs
 | [], _, h, _, _, _, _ => absurd rfl h
 | _ :: _, [], _, h, _, _, _ => absurd rfl h
 | [x], [y], _, _, _, _, h => by rw [show x = y from h]
 | [x], y :: z :: r, _, _, h1, _, h => by
  have e : x = y ++ c :: joinL c (z :: r) := h
  exact absurd (by rw [e]; simp) (h1 x (List.mem_cons.2 (.inl rfl)))
 | x :: z :: r, [y], _, _, _, h2, h => by
  have e : x ++ c :: joinL c (z :: r) = y := h
  exact absurd (by rw [← e]; simp) (h2 y (List.mem_cons.2 (.inl rfl)))
 | x :: z :: r, y :: w :: u, _, _, h1, h2, h => by
  have e : x ++ c :: joinL c (z :: r) = y ++ c :: joinL c (w :: u) := h
  obtain ⟨a, b⟩ := cut_inj x y _ _ (h1 x (List.mem_cons.2 (.inl rfl))) (h2 y (List.mem_cons.2 (.inl rfl))) e
  rw [a, joinL_inj (z :: r) (w :: u) (by simp) (by simp) (fun p hp => h1 p (List.mem_cons_of_mem _ hp)) (fun p hp => h2 p (List.mem_cons_of_mem _ hp)) b]
theorem cut_at {l : List UInt8} {c : UInt8} {a i : Nat} (hi : i < l.length) (ha : a ≤ i) (h : l[i] = c) : (l.drop a).take (i - a) ++ c :: l.drop (i + 1) = l.drop a := by
 have e1 : l.drop i = c :: l.drop (i + 1) := by rw [List.drop_eq_getElem_cons hi, h]
 have e2 : (l.drop a).drop (i - a) = l.drop i := by rw [List.drop_drop]; congr 1; omega
 rw [← e1, ← e2, List.take_append_drop]
theorem mem_part {l : List UInt8} {c : UInt8} {a i : Nat} (ha : a ≤ i) (hi : i ≤ l.length) (h : ∀ j, a ≤ j → (hj : j < i) → l[j]'(by omega) ≠ c) : c ∉ (l.drop a).take (i - a) := by
 intro m
 obtain ⟨n, hn, e⟩ := List.getElem_of_mem m
 have hn' : n < i - a := by rw [List.length_take] at hn; omega
 rw [List.getElem_take, List.getElem_drop] at e
 exact h (a + n) (by omega) (by omega) e
theorem splitq_go (s : ByteArray) (c : UInt8) (hs : s.size ≤ 1000000) : ∀ (d i a : Nat) (acc : List ByteArray), s.size - i = d → i ≤ s.size → a ≤ i → acc.length ≤ i → (∀ j, a ≤ j → (hj : j < i) → (hj' : j < (L s).length) → (L s)[j] ≠ c) →
  ∃ q : List ByteArray, q ≠ [] ∧ q.length ≤ d + 1 ∧ (∀ k, d + 3 ≤ k → spec_l01Split.l0 k s (c.toNat : Int) acc (a : Int) (i : Int) = some (acc ++ q)) ∧ joinL c (q.map L) = (L s).drop a ∧ ∀ x ∈ q, c ∉ L x := by
 intro d
 induction d with
 | zero =>
  intro i a acc hd hi ha hl hm
  have e : i = s.size := by omega
  subst e
  refine ⟨[s.extract a s.size], by simp, by simp, fun k hk => ?_, ?_, fun x hx => ?_⟩
  ·obtain ⟨k, rfl⟩ : ∃ m, k = m + 2 := ⟨k - 2, by omega⟩
   unfold spec_l01Split.l0
   rw [if_pos (by omega), if_pos (by omega), if_pos (by omega), if_pos (by omega), if_pos (by omega), w64 (by omega)]
   unfold spec_l01Split.l0
   rw [if_neg (by omega), Int.toNat_natCast, Int.toNat_natCast]
  ·show L (s.extract a s.size) = _
   rw [L_ex, List.take_of_length_le (by rw [List.length_drop, L_len]; omega)]
  ·rw [List.mem_singleton.1 hx, L_ex]
   exact mem_part ha (by rw [L_len]; omega) (fun j h1 h2 => hm j h1 h2 (by rw [L_len]; omega))
 | succ d ih =>
  intro i a acc hd hi ha hl hm
  have hi' : i < (L s).length := by rw [L_len]; omega
  by_cases e : (L s)[i] = c
  ·have eb : bt s (i : Int) = (c.toNat : Int) := (L_eq s i (by omega) c).2 e
   obtain ⟨q, q0, q1, q2, q3, q4⟩ := ih (i + 1) (i + 1) (acc ++ [s.extract a i]) (by omega) (by omega) (by omega) (by rw [List.length_append, List.length_singleton]; omega) (fun j h1 h2 _ => absurd h2 (by omega))
   refine ⟨s.extract a i :: q, by simp, by rw [List.length_cons]; omega, fun k hk => ?_, ?_, fun x hx => ?_⟩
   ·obtain ⟨k, rfl⟩ : ∃ m, k = m + 1 := ⟨k - 1, by omega⟩
    unfold spec_l01Split.l0
    rw [if_pos (by omega), if_neg (by omega), if_pos (by omega), if_pos (by omega), if_pos eb, if_pos (by omega), if_pos (by omega), if_pos (by omega), w64 (n := (i : Int) + 1) (by omega), Int.toNat_natCast, Int.toNat_natCast]
    have z := q2 k (by omega)
    rw [List.append_assoc] at z
    exact z
   ·rw [List.map_cons, joinL_cons c _ (by simpa using q0), q3, L_ex]
    exact cut_at hi' ha e
   ·rcases List.mem_cons.1 hx with y | y
    ·rw [y, L_ex]
     exact mem_part ha (by omega) (fun j h1 h2 => hm j h1 h2 (by omega))
    ·exact q4 x y
  ·have eb : ¬ bt s (i : Int) = (c.toNat : Int) := fun z => e ((L_eq s i (by omega) c).1 z)
   obtain ⟨q, q0, q1, q2, q3, q4⟩ := ih (i + 1) a acc (by omega) (by omega) (by omega) (by omega) (fun j h1 h2 h3 => by
    by_cases z : j = i
    ·subst z; exact e
    ·exact hm j h1 (by omega) h3)
   refine ⟨q, q0, by omega, fun k hk => ?_, q3, q4⟩
   obtain ⟨k, rfl⟩ : ∃ m, k = m + 1 := ⟨k - 1, by omega⟩
   unfold spec_l01Split.l0
   rw [if_pos (by omega), if_neg (by omega), if_pos (by omega), if_pos (by omega), if_neg eb, w64 (n := (i : Int) + 1) (by omega)]
   exact q2 k (by omega)
theorem splitq (s : ByteArray) (c : UInt8) (hs : s.size ≤ 1000000) : ∃ q : List ByteArray, q ≠ [] ∧ q.length ≤ s.size + 1 ∧ (∀ k, s.size + 3 ≤ k → spec_l01Split.f k s (c.toNat : Int) = some q) ∧ joinL c (q.map L) = L s ∧ ∀ x ∈ q, c ∉ L x := by
 obtain ⟨q, a, b, e, f, g⟩ := splitq_go s c hs s.size 0 0 [] (by omega) (by omega) (by omega) (by simp) (fun j _ h => absurd h (by omega))
 exact ⟨q, a, b, e, by simpa using f, g⟩
theorem split_of {s : ByteArray} {c : UInt8} (hs : s.size ≤ 1000000) {ws : List ByteArray} (h0 : ws ≠ []) (h1 : joinL c (ws.map L) = L s) (h2 : ∀ x ∈ ws, c ∉ L x) : ∀ k, s.size + 3 ≤ k → spec_l01Split.f k s (c.toNat : Int) = some ws := by
 obtain ⟨q, q0, _, q2, q3, q4⟩ := splitq s c hs
 have e : q.map L = ws.map L := joinL_inj _ _ (by simpa using q0) (by simpa using h0) (fun p hp => by
  obtain ⟨x, hx, rfl⟩ := List.mem_map.1 hp; exact q4 x hx) (fun p hp => by
  obtain ⟨x, hx, rfl⟩ := List.mem_map.1 hp; exact h2 x hx) (q3.trans h1.symm)
 have e2 : q = ws := List.map_inj_right (fun _ _ h => L_ext h) |>.1 e
 rw [← e2]; exact q2
end Go.Proofs.Ytigkgihnijaefaa.F
namespace Go.Proofs.Ytigkgihnijaefaa.F
open Go.RowKit Go.Proofs.YtigkgihnijaefaaW.PrintWords Go.Proofs.YtigkgihnijaefaaW.PrintLast Go.Proofs.YtigkgihnijaefaaW.PrintMore
set_option linter.unusedVariables false
set_option linter.unusedSimpArgs false
theorem bt_app_left (a b : ByteArray) (i : Nat) (h : i < a.size) : bt (a ++ b) (i : Int) = bt a (i : Int) := by
 have h2 : i < (a ++ b).size := by rw [ByteArray.size_append]; omega
 rw [L_bt _ i h2, L_bt _ i h]
 congr 2
 simp only [L_app]
 rw [List.getElem_append_left]
theorem bt_app_right (a b : ByteArray) (j : Nat) (h : j < b.size) : bt (a ++ b) ((a.size + j : Nat) : Int) = bt b (j : Int) := by
 have h2 : a.size + j < (a ++ b).size := by rw [ByteArray.size_append]; omega
 rw [L_bt _ _ h2, L_bt _ j h]
 congr 2
 simp only [L_app]
 rw [List.getElem_append_right (by rw [L_len]; omega)]
 congr 1
 rw [L_len]; omega
theorem bt_dig {n : Int} (h : 0 ≤ n) : bt (dig n) ((0 : Nat) : Int) = 48 + n % 10 := by
 have t2 : Int.tmod n 10 = n % 10 := Int.tmod_eq_emod_of_nonneg h
 rw [byte_of _ 0 (by rw [dig_size]; omega)]
 unfold dig
 rw [t2, w64 (by omega)]
 show ((UInt8.ofNat ((48 + n % 10) % 256).toNat).toNat : Int) = _
 rw [UInt8.toNat_ofNat']
 omega
theorem vl_congr (a b : ByteArray) : ∀ i : Nat, (∀ j : Nat, j < i → bt a (j : Int) = bt b (j : Int)) → vl a i = vl b i
 | 0, _ => rfl
 | i + 1, h => by
  unfold vl
  rw [vl_congr a b i (fun j hj => h j (by omega)), h i (by omega)]
theorem isDig_congr {a b : ByteArray} {i j : Nat} (h : bt a (i : Int) = bt b (j : Int)) : isDig a i = isDig b j := by unfold isDig; rw [h]
theorem dcs_dig : ∀ (d : Nat) (n : Int), 0 ≤ n → n < 10 ^ d → 0 < d → 1 ≤ (dcs d n).size ∧ (∀ j, j < (dcs d n).size → isDig (dcs d n) j = true) ∧ vl (dcs d n) (dcs d n).size = n ∧ (1 ≤ n → bt (dcs d n) 0 ≠ 48)
 | 0, _, _, _, h => absurd h (by omega)
 | d + 1, n, h0, h1, _ => by
  have hb := bt_dig h0
  have hd1 : isDig (dig n) 0 = true := by
   unfold isDig
   rw [inB_true, hb]; omega
  unfold dcs
  by_cases c : n < 10
  ·rw [if_pos c]
   have hv : vl (dig n) 1 = n := by
    show 10 * vl (dig n) 0 + (bt (dig n) ((0 : Nat) : Int) - 48) = n
    rw [hb]; unfold vl; omega
   refine ⟨by rw [dig_size]; omega, fun j hj => ?_, by rw [dig_size]; exact hv, fun h => ?_⟩
   ·rw [dig_size] at hj
    have : j = 0 := by omega
    subst this; exact hd1
   ·have e : bt (dig n) 0 = bt (dig n) ((0 : Nat) : Int) := rfl
    rw [e, hb]; omega
  ·rw [if_neg c]
   have hd : 0 < d := by
    rcases Nat.eq_zero_or_pos d with e | e
    ·subst e; omega
    ·exact e
   have hp : n / 10 < 10 ^ d := Int.ediv_lt_of_lt_mul (by omega) (by rw [Int.pow_succ] at h1; exact h1)
   obtain ⟨a, b, e, f⟩ := dcs_dig d (n / 10) (by omega) hp hd
   have hsz : (dcs d (n / 10) ++ dig n).size = (dcs d (n / 10)).size + 1 := by rw [ByteArray.size_append, dig_size]
   have hl : bt (dcs d (n / 10) ++ dig n) (((dcs d (n / 10)).size : Nat) : Int) = 48 + n % 10 := by
    have := bt_app_right (dcs d (n / 10)) (dig n) 0 (by rw [dig_size]; omega)
    rw [Nat.add_zero, hb] at this
    exact this
   refine ⟨by omega, fun j hj => ?_, ?_, fun h => ?_⟩
   ·by_cases c2 : j < (dcs d (n / 10)).size
    ·rw [isDig_congr (bt_app_left _ (dig n) j c2)]; exact b j c2
    ·have : j = (dcs d (n / 10)).size := by omega
     subst this
     unfold isDig
     rw [inB_true, hl]; omega
   ·rw [hsz]
    show 10 * vl (dcs d (n / 10) ++ dig n) (dcs d (n / 10)).size + (bt (dcs d (n / 10) ++ dig n) (((dcs d (n / 10)).size : Nat) : Int) - 48) = n
    rw [hl, vl_congr _ (dcs d (n / 10)) _ (fun j hj => bt_app_left _ _ j hj), e]
    omega
   ·have z := bt_app_left (dcs d (n / 10)) (dig n) 0 (by omega)
    have e1 : bt (dcs d (n / 10) ++ dig n) 0 = bt (dcs d (n / 10) ++ dig n) ((0 : Nat) : Int) := rfl
    rw [e1, z]
    exact f (by omega)
theorem signed_of {n : Int} (h0 : 1 ≤ n) (h1 : n < 1000000) : ∀ k, 100 ≤ k → spec_l01Signed.f k (dcs 6 n) = some (n, true) := fun k hk => by
 obtain ⟨a, b, e, f⟩ := dcs_dig 6 n (by omega) (by show n < (10 ^ 6 : Int); omega) (by omega)
 have hs := dcs_size 6 n
 have hz : isDig (dcs 6 n) 0 = true := b 0 (by omega)
 unfold isDig at hz
 rw [inB_true] at hz
 have e1 : bt (dcs 6 n) 0 = bt (dcs 6 n) ((0 : Nat) : Int) := rfl
 have hm : (bt (dcs 6 n) 0 == 45) = false := beq_eq_false_iff_ne.2 (by rw [e1]; omega)
 obtain ⟨k, rfl⟩ : ∃ m, k = m + 2 := ⟨k - 2, by omega⟩
 have val : spec_l01Value.f (k + 1) (dcs 6 n) = some (n, true) := by
  unfold spec_l01Value.f
  rw [if_neg (by omega), decide_eq_false (by omega : ¬ ((dcs 6 n).size : Int) > 13)]
  simp only [spec_l01Value.j0, Bool.false_eq_true, if_false]
  refine spec_val (dcs 6 n) (by omega) (some (n, true)) (fun k hk _ => ?_) (fun h => absurd b h) (dcs 6 n).size 0 k (by omega) (by omega) (fun j hj => absurd hj (by omega)) (by omega)
  rw [e, spec_dec 6 n k (by omega) (by show n < (10 ^ 6 : Int); omega) (by omega) (by omega) (by omega) (by omega)]
  show some (n, (dcs 6 n).toList == (dcs 6 n).toList) = _
  rw [same_list.2 rfl]
 unfold spec_l01Signed.f
 rw [if_pos (by omega), if_pos (by omega), hm]
 simp only [spec_l01Signed.j0, Bool.false_eq_true, if_false]
 rw [val]; rfl
theorem val_inv (z : ByteArray) (hz : z.size ≤ 1000000) (v : Int) (h0 : 0 ≤ v) (h1 : v < 1000000) : ∀ (d : Nat) (i x : Int) (k : Nat), (z.size : Int) - i ≤ d → d + 20 ≤ k → spec_l01Value.l0 k z x i = some (v, true) → z = dcs 6 v := by
 have last : ∀ (k : Nat) (x : Int), 10 ≤ k → ((spec_l01Dec.f k x).bind fun t575 => (some (x, (t575.toList == z.toList)))) = some (v, true) → z = dcs 6 v := fun k x hk h => by
  obtain ⟨t, e1, e2⟩ := Option.bind_eq_some_iff.1 h
  simp only [Option.some.injEq, Prod.mk.injEq] at e2
  obtain ⟨rfl, e2⟩ := e2
  rw [spec_dec 6 x k h0 (by show x < (10 ^ 6 : Int); omega) (by omega) (by omega) (by omega) (by omega)] at e1
  rw [Option.some.inj e1]
  exact (same_list.1 e2).symm
 intro d
 induction d with
 | zero =>
  intro i x k hd hk h
  obtain ⟨k, rfl⟩ : ∃ m, k = m + 1 := ⟨k - 1, by omega⟩
  unfold spec_l01Value.l0 at h
  rw [if_neg (by omega)] at h
  exact last k x (by omega) h
 | succ d ih =>
  intro i x k hd hk h
  obtain ⟨k, rfl⟩ : ∃ m, k = m + 1 := ⟨k - 1, by omega⟩
  unfold spec_l01Value.l0 at h
  by_cases c : i < (z.size : Int)
  ·rw [if_pos c] at h
   by_cases c1 : 0 ≤ i
   ·rw [if_pos c1] at h
    by_cases c2 : bt z i < 48
    ·rw [if_pos c2] at h; exact absurd h (by simp)
    ·rw [if_neg c2] at h
     by_cases c3 : bt z i > 57
     ·rw [if_pos c3] at h; exact absurd h (by simp)
     ·rw [if_neg c3] at h
      rw [w64 (n := i + 1) (by omega)] at h
      exact ih (i + 1) _ k (by omega) (by omega) h
   ·rw [if_neg c1] at h; exact absurd h (by simp)
  ·rw [if_neg c] at h
   exact last k x (by omega) h
theorem signed_inv {z : ByteArray} {v : Int} (h0 : 1 ≤ v) (h1 : v < 1000000) (h : ∀ k, 62 ≤ k → spec_l01Signed.f k z = some (v, true)) : z = dcs 6 v := by
 have val : ∀ k, 100 ≤ k → spec_l01Value.f k z = some (v, true) → z = dcs 6 v := fun k hk h => by
  obtain ⟨k, rfl⟩ : ∃ m, k = m + 1 := ⟨k - 1, by omega⟩
  unfold spec_l01Value.f at h
  by_cases c : (z.size : Int) < 1
  ·rw [if_pos c] at h
   simp only [spec_l01Value.j0, if_true] at h
   exact absurd h (by simp)
  ·rw [if_neg c] at h
   by_cases c2 : (z.size : Int) > 13
   ·rw [decide_eq_true c2] at h
    simp only [spec_l01Value.j0, if_true] at h
    exact absurd h (by simp)
   ·rw [decide_eq_false c2] at h
    simp only [spec_l01Value.j0, Bool.false_eq_true, if_false] at h
    exact val_inv z (by omega) v (by omega) h1 z.size 0 0 k (by omega) (by omega) h
 have plain : ∀ k, 100 ≤ k → spec_l01Signed.j0 (k + 1) z false = some (v, true) → z = dcs 6 v := fun k hk h => by
  simp only [spec_l01Signed.j0, Bool.false_eq_true, if_false] at h
  obtain ⟨⟨a, b⟩, e1, e2⟩ := Option.bind_eq_some_iff.1 h
  simp only [Option.some.injEq, Prod.mk.injEq] at e2
  rw [e2.1, e2.2] at e1
  exact val k hk e1
 have g := h 201 (by omega)
 unfold spec_l01Signed.f at g
 by_cases c : (z.size : Int) > 0
 ·rw [if_pos c, if_pos (by omega)] at g
  by_cases m : bt z 0 = 45
  ·rw [beq_iff_eq.2 m] at g
   obtain ⟨x, ok, _, _, h1', _, h3, _⟩ := value_is z (z.extract 1 z.size) (by rw [ByteArray.size_extract]; omega)
   simp only [spec_l01Signed.j0, if_true] at g
   rw [if_pos (by omega), h1' 200 (by omega)] at g
   simp only [Option.bind_some] at g
   cases ok with
   | false => rw [if_neg (by decide)] at g; exact absurd g (by simp)
   | true =>
    have := h3 rfl
    rw [if_pos rfl, w64 (n := -x) (by omega)] at g
    simp only [Option.some.injEq, Prod.mk.injEq] at g
    omega
  ·rw [beq_eq_false_iff_ne.2 m] at g
   exact plain 200 (by omega) g
 ·rw [if_neg c] at g
  exact plain 200 (by omega) g
theorem no_byte {z : ByteArray} (h : ∀ j, j < z.size → isDig z j = true) {c : UInt8} (hc : (c.toNat : Int) < 48) : c ∉ L z := by
 intro m
 obtain ⟨i, hi, e⟩ := List.getElem_of_mem m
 have hi' : i < z.size := by rw [← L_len]; exact hi
 have d := h i hi'
 unfold isDig at d
 rw [inB_true, (L_eq z i hi' c).2 e] at d
 omega
end Go.Proofs.Ytigkgihnijaefaa.F
namespace Go.Proofs.Ytigkgihnijaefaa.F
open Go.RowKit Go.Proofs.YtigkgihnijaefaaW.PrintWords Go.Proofs.YtigkgihnijaefaaW.PrintLast Go.Proofs.YtigkgihnijaefaaW.PrintMore
set_option linter.unusedVariables false
set_option linter.unusedSimpArgs false
def bt_at (xs : List S56) (i : Nat) : Int := (xs.getD i z56).f0
def ln_at (xs : List S56) (i : Nat) : Int := (xs.getD i z56).f1
def barAt (xs : List S56) (i : Nat) : Bool := inB (bt_at xs i) 1 16 && inB (ln_at xs i) 100 5000
def isScore (xs : List S56) : Bool := allF (barAt xs) 0 xs.length && inB (xs.length : Int) 1 20
theorem rd_bar (xs : List S56) (i : Nat) : rd_T56 xs (i : Int) = xs.getD i z56 := by unfold rd_T56; rw [Int.toNat_natCast]
theorem spec_score (xs : List S56) (hx : xs.length ≤ 4000000) (k : Nat) (hk : xs.length < k) : spec_IsScore.f k xs = some (isScore xs) := by
 refine all_loop (f := fun k i => spec_IsScore.l0 k xs (i : Int)) xs.length (fun k i hi => ?_) (fun k => ?_) xs.length k 0 (by omega) (by omega) (by omega)
 ·show spec_IsScore.l0 (k + 1) xs i = _
  simp only [spec_IsScore.l0, In_eq, Option.bind_some]
  rw [if_pos (by omega), if_pos (by omega), w64 (by omega), rd_bar]
  unfold barAt bt_at ln_at
  cases inB (xs.getD i z56).f0 1 16 <;> cases inB (xs.getD i z56).f1 100 5000 <;> rfl
 ·show spec_IsScore.l0 (k + 1) xs _ = _
  simp only [spec_IsScore.l0, In_eq, Option.bind_some]
  rw [if_neg (by omega)]
theorem impl_score (xs : List S56) (hx : xs.length ≤ 4000000) (k : Nat) (hk : xs.length + 1 < k) : impl_IsScore.f k xs = some (isScore xs) := by
 obtain ⟨k, rfl⟩ : ∃ m, k = m + 1 := ⟨k - 1, by omega⟩
 unfold impl_IsScore.f isScore
 simp only [impl_IsScore.j0]
 by_cases h1 : (xs.length : Int) < 1
 ·rw [if_pos h1, if_pos trivial, inB_false.2 (by omega), Bool.and_false]
 ·rw [if_neg h1]
  by_cases h2 : (xs.length : Int) > 20
  ·rw [if_pos (decide_eq_true h2), inB_false.2 (by omega), Bool.and_false]
  ·rw [if_neg (by simpa using h2), inB_true.2 (by omega)]
   refine all_loop (f := fun k i => impl_IsScore.l0 k xs (xs.length : Int) (i : Int)) xs.length (fun k i hi => ?_) (fun k => ?_) xs.length k 0 (by omega) (by omega) (by omega)
   ·show impl_IsScore.l0 (k + 1) xs (xs.length : Int) i = _
    simp only [impl_IsScore.l0, Wi_eq, Option.bind_some]
    rw [if_pos (by omega), if_pos (by omega), if_pos (by omega), w64 (by omega), rd_bar]
    unfold barAt bt_at ln_at
    cases inB (xs.getD i z56).f0 1 16 <;> cases inB (xs.getD i z56).f1 100 5000 <;> rfl
   ·show impl_IsScore.l0 (k + 1) xs (xs.length : Int) _ = _
    simp only [impl_IsScore.l0]
    rw [if_neg (by omega)]
theorem isScore_true {xs : List S56} (h : isScore xs = true) : 1 ≤ xs.length ∧ xs.length ≤ 20 ∧ ∀ i, i < xs.length → 1 ≤ bt_at xs i ∧ bt_at xs i ≤ 16 ∧ 100 ≤ ln_at xs i ∧ ln_at xs i ≤ 5000 := by
 unfold isScore at h
 rw [Bool.and_eq_true, allF_true, inB_true] at h
 refine ⟨by omega, by omega, fun i hi => ?_⟩
 have := h.1 i (by omega) (by omega)
 unfold barAt at this
 rw [Bool.and_eq_true, inB_true, inB_true] at this
 omega
end Go.Proofs.Ytigkgihnijaefaa.F
namespace Go.Proofs.Ytigkgihnijaefaa.F
open Go.RowKit Go.Proofs.YtigkgihnijaefaaW.PrintWords Go.Proofs.YtigkgihnijaefaaW.PrintLast Go.Proofs.YtigkgihnijaefaaW.PrintMore
set_option linter.unusedVariables false
set_option linter.unusedSimpArgs false
theorem numbers_go (ts : List ByteArray) (ht : ts.length ≤ 1000002) : ∀ (d i : Nat) (acc : List Int), ts.length - i = d → i ≤ ts.length → acc.length = i →
  ∃ (ns : List Int) (ok : Bool), (∀ k, d + 63 ≤ k → spec_l01Numbers.l0 k ts acc (i : Int) = some (ns, ok)) ∧ (ok = true → ns.length = ts.length ∧ (∀ j, j < i → ns.getD j 0 = acc.getD j 0) ∧ (∀ j, i ≤ j → j < ts.length → ∀ k, 62 ≤ k → spec_l01Signed.f k (ts.getD j ByteArray.empty) = some (ns.getD j 0, true))) ∧ (ok = false → ∃ j, i ≤ j ∧ j < ts.length ∧ ∃ v, ∀ k, 62 ≤ k → spec_l01Signed.f k (ts.getD j ByteArray.empty) = some (v, false)) := by
 intro d
 induction d with
 | zero =>
  intro i acc hd hi ha
  refine ⟨acc, true, fun k hk => ?_, fun _ => ⟨by omega, fun _ _ => rfl, fun j h1 h2 => absurd h2 (by omega)⟩, (fun h => by cases h)⟩
  obtain ⟨k, rfl⟩ : ∃ m, k = m + 1 := ⟨k - 1, by omega⟩
  unfold spec_l01Numbers.l0
  rw [if_neg (by omega)]
 | succ d ih =>
  intro i acc hd hi ha
  have hr : rdOf ByteArray.empty ts (i : Int) = ts.getD i ByteArray.empty := by unfold rdOf; rw [Int.toNat_natCast]
  have hw : wrap64 ((i : Int) + 1) = ((i + 1 : Nat) : Int) := w64 (by omega)
  obtain ⟨v, ok, v', ok', h1, h2, h3, h4⟩ := word_is (ts.getD i ByteArray.empty)
  cases ok with
  | false =>
   refine ⟨[], false, fun k hk => ?_, (fun h => by cases h), fun _ => ⟨i, by omega, by omega, v, h1⟩⟩
   obtain ⟨k, rfl⟩ : ∃ m, k = m + 1 := ⟨k - 1, by omega⟩
   unfold spec_l01Numbers.l0
   rw [hr, if_pos (by omega), if_pos (by omega), h1 k (by omega)]
   rfl
  | true =>
   obtain ⟨ns, ok, e1, e2, e3⟩ := ih (i + 1) (acc ++ [v]) (by omega) (by omega) (by rw [List.length_append, List.length_singleton]; omega)
   refine ⟨ns, ok, fun k hk => ?_, fun h => ?_, fun h => ?_⟩
   ·obtain ⟨k, rfl⟩ : ∃ m, k = m + 1 := ⟨k - 1, by omega⟩
    unfold spec_l01Numbers.l0
    rw [hr, if_pos (by omega), if_pos (by omega), h1 k (by omega)]
    simp only [Option.bind_some, if_true]
    rw [if_pos (by omega), hw]
    exact e1 k (by omega)
   ·obtain ⟨a, b, c⟩ := e2 h
    refine ⟨a, fun j hj => ?_, fun j h5 h6 => ?_⟩
    ·rw [b j (by omega), List.getD_eq_getElem?_getD, List.getD_eq_getElem?_getD, List.getElem?_append_left (by omega)]
    ·by_cases e : j = i
     ·subst e
      have := b j (by omega)
      rw [List.getD_eq_getElem?_getD (l := acc ++ [v]), List.getElem?_append_right (by omega), ha] at this
      rw [this]
      simpa using h1
     ·exact c j (by omega) h6
   ·obtain ⟨j, a, b, c⟩ := e3 h
    exact ⟨j, by omega, b, c⟩
theorem piece_is (w : ByteArray) (hw : w.size ≤ 1000000) : ∃ (ts : List ByteArray) (ns : List Int) (ok : Bool), (∀ k, w.size + 3 ≤ k → spec_l01Split.f k w 42 = some ts) ∧ (∀ k, w.size + 3 ≤ k → impl_splitAt.f k w 42 = some ts) ∧ (∀ k, w.size + 100 ≤ k → spec_l01Numbers.f k ts = some (ns, ok)) ∧
  (ok = true → ns.length = ts.length) ∧ (ts.length = 2 → ∃ v1 o1 v2 o2, (∀ k, 62 ≤ k → impl_readDecimal.f k (rdOf ByteArray.empty ts 0) = some (v1, o1)) ∧ (∀ k, 62 ≤ k → impl_readDecimal.f k (rdOf ByteArray.empty ts 1) = some (v2, o2)) ∧
   (ok = true → o1 = true ∧ o2 = true ∧ v1 = rd ns 0 ∧ v2 = rd ns 1) ∧ (ok = false → o1 = false ∨ o2 = false ∨ v1 < -5000 ∨ 5000 < v1 ∨ v2 < -5000 ∨ 5000 < v2)) := by
 obtain ⟨ts, p1, p2, p3, p4⟩ := split_is w 42 hw
 obtain ⟨ns, ok, e1, e2, e3⟩ := numbers_go ts (by omega) ts.length 0 [] (by omega) (by omega) rfl
 refine ⟨ts, ns, ok, p3, p4, fun k hk => e1 k (by omega), fun h => (e2 h).1, fun h2 => ?_⟩
 have r0 : rdOf ByteArray.empty ts 0 = ts.getD 0 ByteArray.empty := rfl
 have r1 : rdOf ByteArray.empty ts 1 = ts.getD 1 ByteArray.empty := rfl
 obtain ⟨v, o, v1, o1, a1, a2, a3, a4⟩ := word_is (ts.getD 0 ByteArray.empty)
 obtain ⟨u, q, v2, o2, b1, b2, b3, b4⟩ := word_is (ts.getD 1 ByteArray.empty)
 refine ⟨v1, o1, v2, o2, fun k hk => by rw [r0]; exact a2 k hk, fun k hk => by rw [r1]; exact b2 k hk, fun h => ?_, fun h => ?_⟩
 ·obtain ⟨_, _, c⟩ := e2 h
  have c0 := (a1 62 (by omega)).symm.trans (c 0 (by omega) (by omega) 62 (by omega))
  have c1 := (b1 62 (by omega)).symm.trans (c 1 (by omega) (by omega) 62 (by omega))
  simp only [Option.some.injEq, Prod.mk.injEq] at c0 c1
  exact ⟨(a3 c0.2).1, (b3 c1.2).1, (a3 c0.2).2.trans c0.1, (b3 c1.2).2.trans c1.1⟩
 ·obtain ⟨j, _, hj, x, c⟩ := e3 h
  rcases Nat.lt_or_ge j 1 with g | g
  ·have : j = 0 := by omega
   subst this
   have c0 := (a1 62 (by omega)).symm.trans (c 62 (by omega))
   simp only [Option.some.injEq, Prod.mk.injEq] at c0
   rcases a4 c0.2 with r | r | r
   ·exact .inl r
   ·exact .inr (.inr (.inl r))
   ·exact .inr (.inr (.inr (.inl r)))
  ·have : j = 1 := by omega
   subst this
   have c0 := (b1 62 (by omega)).symm.trans (c 62 (by omega))
   simp only [Option.some.injEq, Prod.mk.injEq] at c0
   rcases b4 c0.2 with r | r | r
   ·exact .inr (.inl r)
   ·exact .inr (.inr (.inr (.inr (.inl r))))
   ·exact .inr (.inr (.inr (.inr (.inr r))))
def badBar (x : S56) : Prop := ¬ (1 ≤ x.f0 ∧ x.f0 ≤ 5000 ∧ 1 ≤ x.f1 ∧ x.f1 ≤ 5000)
theorem bad_score {xs : List S56} (h : ∃ x ∈ xs, badBar x) : isScore xs = false := by
 rw [Bool.eq_false_iff]
 intro hs
 obtain ⟨_, _, h3⟩ := isScore_true hs
 obtain ⟨x, hx, hb⟩ := h
 obtain ⟨i, hi, rfl⟩ := List.getElem_of_mem hx
 have := h3 i hi
 unfold bt_at ln_at at this
 rw [List.getD_eq_getElem?_getD, List.getElem?_eq_getElem hi] at this
 exact hb (by simp only [Option.getD_some] at this; omega)
theorem long_score {xs : List S56} (h : 20 < xs.length) : isScore xs = false := by
 rw [Bool.eq_false_iff]
 intro hs
 have := isScore_true hs
 omega
theorem read_bad (B : Nat) (hB : B ≤ 1000000) (ps : List ByteArray) (hp : ps.length ≤ 1000001) (hs : ∀ x ∈ ps, x.size ≤ B) : ∀ (d i : Nat) (Y : List S56), ps.length - i = d → i ≤ ps.length → Y.length ≤ 20 → (∃ x ∈ Y, badBar x) → ∀ k, d + B + 200 ≤ k → impl_ReadScore.l0 k Y ps (ps.length : Int) (i : Int) = some ([], 6) := by
 intro d
 induction d with
 | zero =>
  intro i Y hd hi hY hb k hk
  obtain ⟨k, rfl⟩ : ∃ m, k = m + 1 := ⟨k - 1, by omega⟩
  unfold impl_ReadScore.l0
  rw [if_neg (by omega), impl_score Y (by omega) k (by omega), bad_score hb]
  rfl
 | succ d ih =>
  intro i Y hd hi hY hb k hk
  obtain ⟨k, rfl⟩ : ∃ m, k = m + 1 := ⟨k - 1, by omega⟩
  have hr : rdOf ByteArray.empty ps (i : Int) = ps.getD i ByteArray.empty := by unfold rdOf; rw [Int.toNat_natCast]
  have hw : wrap64 ((i : Int) + 1) = ((i + 1 : Nat) : Int) := w64 (by omega)
  have hm : (ps.getD i ByteArray.empty).size ≤ B := by
   rw [List.getD_eq_getElem?_getD, List.getElem?_eq_getElem (show i < ps.length by omega)]
   exact hs _ (List.getElem_mem _)
  obtain ⟨ts, ns, ok, p1, p2, p3, p4, p5⟩ := piece_is (ps.getD i ByteArray.empty) (by omega)
  unfold impl_ReadScore.l0
  rw [hr, if_pos (by omega), if_pos (by omega), if_pos (by omega), p2 k (by omega)]
  simp only [Option.bind_some]
  by_cases c : (ts.length : Int) = 2
  ·obtain ⟨v1, o1, v2, o2, q1, q2, q3, q4⟩ := p5 (by omega)
   rw [if_pos c, if_pos (by omega), q1 k (by omega)]
   simp only [Option.bind_some]
   rw [if_pos (by omega), q2 k (by omega)]
   simp only [Option.bind_some]
   cases o1 with
   | false => rfl
   | true =>
    cases o2 with
    | false => rfl
    | true =>
     simp only [if_true]
     by_cases l : (Y.length : Int) = 20
     ·rw [if_pos l]
     ·rw [if_neg l, if_pos (by omega), hw]
      obtain ⟨x, hx, hbx⟩ := hb
      exact ih (i + 1) _ (by omega) (by omega) (by rw [List.length_append, List.length_singleton]; omega) ⟨x, List.mem_append.2 (.inl hx), hbx⟩ k (by omega)
  ·rw [if_neg c]
theorem read_long (B : Nat) (hB : B ≤ 1000000) (ps : List ByteArray) (hp : ps.length ≤ 1000001) (hs : ∀ x ∈ ps, x.size ≤ B) : ∀ (d i : Nat) (X : List S56), ps.length - i = d → i ≤ ps.length → X.length ≤ i → 20 < X.length + (ps.length - i) → 20 ≤ X.length → ∀ k, d + X.length + B + 1000300 ≤ k + i → spec_ReadScore.l0 k X ps (i : Int) = some ([], 6) := by
 intro d
 induction d with
 | zero =>
  intro i X hd hi hX h1 h2 k hk
  obtain ⟨k, rfl⟩ : ∃ m, k = m + 1 := ⟨k - 1, by omega⟩
  unfold spec_ReadScore.l0
  rw [if_neg (by omega)]
  rw [spec_score X (by omega) k (by omega), long_score (by omega)]
  rfl
 | succ d ih =>
  intro i X hd hi hX h1 h2 k hk
  obtain ⟨k, rfl⟩ : ∃ m, k = m + 1 := ⟨k - 1, by omega⟩
  have hr : rdOf ByteArray.empty ps (i : Int) = ps.getD i ByteArray.empty := by unfold rdOf; rw [Int.toNat_natCast]
  have hw : wrap64 ((i : Int) + 1) = ((i + 1 : Nat) : Int) := w64 (by omega)
  have hm : (ps.getD i ByteArray.empty).size ≤ B := by
   rw [List.getD_eq_getElem?_getD, List.getElem?_eq_getElem (show i < ps.length by omega)]
   exact hs _ (List.getElem_mem _)
  obtain ⟨ts, ns, ok, p1, p2, p3, p4, p5⟩ := piece_is (ps.getD i ByteArray.empty) (by omega)
  unfold spec_ReadScore.l0
  rw [hr, if_pos (by omega), if_pos (by omega), p1 k (by omega)]
  simp only [Option.bind_some]
  rw [p3 k (by omega)]
  simp only [Option.bind_some]
  cases ok with
  | false => rfl
  | true =>
   simp only [if_true]
   by_cases c : (ns.length : Int) = 2
   ·rw [if_pos c, if_pos (by omega), if_pos (by omega), if_pos (by omega), hw]
    exact ih (i + 1) _ (by omega) (by omega) (by rw [List.length_append, List.length_singleton]; omega) (by rw [List.length_append, List.length_singleton]; omega) (by rw [List.length_append, List.length_singleton]; omega) k (by rw [List.length_append, List.length_singleton]; omega)
   ·rw [if_neg c]
theorem read_go (B : Nat) (hB : B ≤ 1000000) (ps : List ByteArray) (hp : ps.length ≤ 1000001) (hs : ∀ x ∈ ps, x.size ≤ B) : ∀ (d i : Nat) (X : List S56), ps.length - i = d → i ≤ ps.length → X.length = i → X.length ≤ 20 →
  ∃ (q1 : List S56) (q2 : Int), q1.length ≤ 20 ∧ (∀ k, 3000000 + B + d ≤ k → spec_ReadScore.l0 k X ps (i : Int) = some (q1, q2)) ∧ (∀ k, 3000000 + B + d ≤ k → impl_ReadScore.l0 k X ps (ps.length : Int) (i : Int) = some (q1, q2)) := by
 intro d
 induction d with
 | zero =>
  intro i X hd hi hX hl
  cases h : isScore X with
  | false =>
   refine ⟨[], 6, by simp, fun k hk => ?_, fun k hk => ?_⟩
   ·obtain ⟨k, rfl⟩ : ∃ m, k = m + 1 := ⟨k - 1, by omega⟩
    unfold spec_ReadScore.l0
    rw [if_neg (by omega), spec_score X (by omega) k (by omega), h]
    rfl
   ·obtain ⟨k, rfl⟩ : ∃ m, k = m + 1 := ⟨k - 1, by omega⟩
    unfold impl_ReadScore.l0
    rw [if_neg (by omega), impl_score X (by omega) k (by omega), h]
    rfl
  | true =>
   refine ⟨X, 0, hl, fun k hk => ?_, fun k hk => ?_⟩
   ·obtain ⟨k, rfl⟩ : ∃ m, k = m + 1 := ⟨k - 1, by omega⟩
    unfold spec_ReadScore.l0
    rw [if_neg (by omega), spec_score X (by omega) k (by omega), h]
    rfl
   ·obtain ⟨k, rfl⟩ : ∃ m, k = m + 1 := ⟨k - 1, by omega⟩
    unfold impl_ReadScore.l0
    rw [if_neg (by omega), impl_score X (by omega) k (by omega), h]
    rfl
 | succ d ih =>
  intro i X hd hi hX hl
  have hr : rdOf ByteArray.empty ps (i : Int) = ps.getD i ByteArray.empty := by unfold rdOf; rw [Int.toNat_natCast]
  have hw : wrap64 ((i : Int) + 1) = ((i + 1 : Nat) : Int) := w64 (by omega)
  have hm : (ps.getD i ByteArray.empty).size ≤ B := by
   rw [List.getD_eq_getElem?_getD, List.getElem?_eq_getElem (show i < ps.length by omega)]
   exact hs _ (List.getElem_mem _)
  obtain ⟨ts, ns, ok, p1, p2, p3, p4, p5⟩ := piece_is (ps.getD i ByteArray.empty) (by omega)
  by_cases c : ts.length = 2
  ·obtain ⟨v1, o1, v2, o2, r1, r2, r3, r4⟩ := p5 c
   cases ok with
   | true =>
    obtain ⟨rfl, rfl, rfl, rfl⟩ := r3 rfl
    have hn := p4 rfl
    by_cases l : X.length = 20
    ·refine ⟨[], 6, by simp, fun k hk => ?_, fun k hk => ?_⟩
     ·exact read_long B hB ps hp hs (d + 1) i X hd hi (by omega) (by omega) (by omega) k (by omega)
     ·obtain ⟨k, rfl⟩ : ∃ m, k = m + 1 := ⟨k - 1, by omega⟩
      unfold impl_ReadScore.l0
      rw [hr, if_pos (by omega), if_pos (by omega), if_pos (by omega), p2 k (by omega)]
      simp only [Option.bind_some]
      rw [if_pos (by omega), if_pos (by omega), r1 k (by omega)]
      simp only [Option.bind_some]
      rw [if_pos (by omega), r2 k (by omega)]
      simp only [Option.bind_some, if_true]
      rw [if_pos (by omega)]
    ·obtain ⟨q1, q2, e0, e1, e2⟩ := ih (i + 1) (X ++ [(⟨rd ns 0, rd ns 1⟩ : S56)]) (by omega) (by omega) (by rw [List.length_append, List.length_singleton]; omega) (by rw [List.length_append, List.length_singleton]; omega)
     refine ⟨q1, q2, e0, fun k hk => ?_, fun k hk => ?_⟩
     ·obtain ⟨k, rfl⟩ : ∃ m, k = m + 1 := ⟨k - 1, by omega⟩
      unfold spec_ReadScore.l0
      rw [hr, if_pos (by omega), if_pos (by omega), p1 k (by omega)]
      simp only [Option.bind_some]
      rw [p3 k (by omega)]
      simp only [Option.bind_some, if_true]
      rw [if_pos (by omega), if_pos (by omega), if_pos (by omega), if_pos (by omega), hw]
      exact e1 k (by omega)
     ·obtain ⟨k, rfl⟩ : ∃ m, k = m + 1 := ⟨k - 1, by omega⟩
      unfold impl_ReadScore.l0
      rw [hr, if_pos (by omega), if_pos (by omega), if_pos (by omega), p2 k (by omega)]
      simp only [Option.bind_some]
      rw [if_pos (by omega), if_pos (by omega), r1 k (by omega)]
      simp only [Option.bind_some]
      rw [if_pos (by omega), r2 k (by omega)]
      simp only [Option.bind_some, if_true]
      rw [if_neg (by omega), if_pos (by omega), hw]
      exact e2 k (by omega)
   | false =>
    refine ⟨[], 6, by simp, fun k hk => ?_, fun k hk => ?_⟩
    ·obtain ⟨k, rfl⟩ : ∃ m, k = m + 1 := ⟨k - 1, by omega⟩
     unfold spec_ReadScore.l0
     rw [hr, if_pos (by omega), if_pos (by omega), p1 k (by omega)]
     simp only [Option.bind_some]
     rw [p3 k (by omega)]
     rfl
    ·obtain ⟨k, rfl⟩ : ∃ m, k = m + 1 := ⟨k - 1, by omega⟩
     have r5 := r4 rfl
     unfold impl_ReadScore.l0
     rw [hr, if_pos (by omega), if_pos (by omega), if_pos (by omega), p2 k (by omega)]
     simp only [Option.bind_some]
     rw [if_pos (by omega), if_pos (by omega), r1 k (by omega)]
     simp only [Option.bind_some]
     rw [if_pos (by omega), r2 k (by omega)]
     simp only [Option.bind_some]
     cases o1 with
     | false => rfl
     | true =>
      cases o2 with
      | false => rfl
      | true =>
       simp only [if_true]
       by_cases l : (X.length : Int) = 20
       ·rw [if_pos l]
       ·rw [if_neg l, if_pos (by omega), hw]
        refine read_bad B hB ps hp hs d (i + 1) _ (by omega) (by omega) (by rw [List.length_append, List.length_singleton]; omega) ⟨⟨v1, v2⟩, List.mem_append.2 (.inr (List.mem_singleton.2 rfl)), ?_⟩ k (by omega)
        unfold badBar
        simp only [Bool.true_eq_false, false_or] at r5
        show ¬ (1 ≤ v1 ∧ v1 ≤ 5000 ∧ 1 ≤ v2 ∧ v2 ≤ 5000)
        omega
  ·refine ⟨[], 6, by simp, fun k hk => ?_, fun k hk => ?_⟩
   ·obtain ⟨k, rfl⟩ : ∃ m, k = m + 1 := ⟨k - 1, by omega⟩
    unfold spec_ReadScore.l0
    rw [hr, if_pos (by omega), if_pos (by omega), p1 k (by omega)]
    simp only [Option.bind_some]
    rw [p3 k (by omega)]
    cases ok with
    | false => rfl
    | true =>
     have := p4 rfl
     simp only [Option.bind_some, if_true]
     rw [if_neg (by omega)]
   ·obtain ⟨k, rfl⟩ : ∃ m, k = m + 1 := ⟨k - 1, by omega⟩
    unfold impl_ReadScore.l0
    rw [hr, if_pos (by omega), if_pos (by omega), if_pos (by omega), p2 k (by omega)]
    simp only [Option.bind_some]
    rw [if_neg (by omega)]
theorem readscore_ex (a0 : ByteArray) (ha : a0.size ≤ 1000000) : ∃ q1 q2, q1.length ≤ 3000000 ∧ Evt (fun k => spec_ReadScore.f k a0 = some (q1, q2)) ∧ Evt (fun k => impl_ReadScore.f k a0 = some (q1, q2)) := by
 obtain ⟨ps, p1, p2, p3, p4⟩ := split_is a0 44 ha
 obtain ⟨q1, q2, e0, e1, e2⟩ := read_go a0.size ha ps (by omega) p2 ps.length 0 [] (by omega) (by omega) rfl (by simp)
 refine ⟨q1, q2, by omega, ⟨3000000 + a0.size + ps.length, fun k hk => ?_⟩, ⟨3000000 + a0.size + ps.length, fun k hk => ?_⟩⟩
 ·show spec_ReadScore.f k a0 = _
  unfold spec_ReadScore.f
  rw [p3 k (by omega)]
  exact e1 k hk
 ·show impl_ReadScore.f k a0 = _
  unfold impl_ReadScore.f
  rw [p4 k (by omega)]
  exact e2 k hk
end Go.Proofs.Ytigkgihnijaefaa.F
namespace Go.Proofs.Ytigkgihnijaefaa.F
open Go.RowKit Go.Proofs.YtigkgihnijaefaaW.PrintWords Go.Proofs.YtigkgihnijaefaaW.PrintLast Go.Proofs.YtigkgihnijaefaaW.PrintMore
set_option linter.unusedVariables false
set_option linter.unusedSimpArgs false
def ptxt (xs : List S56) (i : Nat) : ByteArray := (dcs 6 (bt_at xs i) ++ (⟨#[42]⟩ : ByteArray)) ++ dcs 6 (ln_at xs i)
def pts (xs : List S56) : Nat → List ByteArray
 | 0 => []
 | i + 1 => pts xs i ++ [ptxt xs i]
theorem pts_len (xs : List S56) : ∀ i, (pts xs i).length = i
 | 0 => rfl
 | i + 1 => by unfold pts; rw [List.length_append, pts_len xs i]; rfl
theorem ptxt_size (xs : List S56) (i : Nat) : (ptxt xs i).size ≤ 13 := by
 unfold ptxt
 rw [ByteArray.size_append, ByteArray.size_append]
 have h1 := dcs_size 6 (bt_at xs i)
 have h2 := dcs_size 6 (ln_at xs i)
 have h3 : (⟨#[42]⟩ : ByteArray).size = 1 := rfl
 omega
theorem pts_size (xs : List S56) : ∀ (n i : Nat), i < (pts xs n).length → ((pts xs n).getD i ByteArray.empty).size ≤ 13
 | 0, i, h => absurd h (by unfold pts; exact Nat.not_lt_zero _)
 | n + 1, i, h => by
  rw [pts_len] at h
  unfold pts
  by_cases e : i < n
  ·rw [List.getD_eq_getElem?_getD, List.getElem?_append_left (by rw [pts_len]; omega), ← List.getD_eq_getElem?_getD]
   exact pts_size xs n i (by rw [pts_len]; omega)
  ·rw [List.getD_eq_getElem?_getD, List.getElem?_append_right (by rw [pts_len]; omega), pts_len, show i - n = 0 by omega]
   exact ptxt_size xs n
theorem spec_text {xs : List S56} (h : isScore xs = true) : ∀ (d i k : Nat), xs.length - i = d → i ≤ xs.length → d + xs.length + 10 < k → spec_l07Text.l0 k xs (pts xs i) (i : Int) = some (jnT (pts xs xs.length) (⟨#[44]⟩ : ByteArray) xs.length) := by
 have hs := isScore_true h
 intro d
 induction d with
 | zero =>
  intro i k hd hi hk
  obtain ⟨k, rfl⟩ : ∃ m, k = m + 1 := ⟨k - 1, by omega⟩
  unfold spec_l07Text.l0
  rw [if_neg (by omega), show i = xs.length by omega]
  unfold spec_l01Words.f
  have e := spec_words (pts xs xs.length) (⟨#[44]⟩ : ByteArray) 13 (by show 1 ≤ 100; omega) (pts_size xs xs.length) (by omega) (by rw [pts_len]; omega) xs.length 0 k (by rw [pts_len]; omega) (by omega) (by omega)
  rw [pts_len] at e
  rw [show spec_l01Words.l0 k (pts xs xs.length) (⟨#[44]⟩ : ByteArray) (⟨#[]⟩ : ByteArray) 0 = _ from e]
  rfl
 | succ d ih =>
  intro i k hd hi hk
  obtain ⟨k, rfl⟩ : ∃ m, k = m + 1 := ⟨k - 1, by omega⟩
  have hb := hs.2.2 i (by omega)
  have e := ih (i + 1) k (by omega) (by omega) (by omega)
  have h1 := dcs_size 6 (bt_at xs i)
  have h2 := dcs_size 6 (ln_at xs i)
  have h3 : (⟨#[42]⟩ : ByteArray).size = 1 := rfl
  unfold bt_at at hb h1
  unfold ln_at at hb h2
  unfold spec_l07Text.l0
  rw [rd_bar, if_pos (by omega), if_pos (by omega), spec_dec 6 _ k (by omega) (by show _ < (10 ^ 6 : Int); omega) (by omega) (by omega) (by omega) (by omega)]
  simp only [Option.bind_some]
  rw [if_pos (by omega), spec_dec 6 _ k (by omega) (by show _ < (10 ^ 6 : Int); omega) (by omega) (by omega) (by omega) (by omega)]
  simp only [Option.bind_some]
  rw [if_pos (by rw [ByteArray.size_append]; omega), if_pos (by rw [pts_len]; omega), w64 (by omega)]
  exact e
theorem impl_text {xs : List S56} (h : isScore xs = true) : ∀ (d i k : Nat), xs.length - i = d → i ≤ xs.length → d + xs.length + 10 < k → impl_scoreText.l0 k (pts xs i) xs (xs.length : Int) (i : Int) = some (jnT (pts xs xs.length) (⟨#[44]⟩ : ByteArray) xs.length) := by
 have hs := isScore_true h
 intro d
 induction d with
 | zero =>
  intro i k hd hi hk
  obtain ⟨k, rfl⟩ : ∃ m, k = m + 1 := ⟨k - 1, by omega⟩
  unfold impl_scoreText.l0
  rw [if_neg (by omega), show i = xs.length by omega]
  unfold impl_joinWith.f
  have e := impl_words (pts xs xs.length) (⟨#[44]⟩ : ByteArray) 13 (by show 1 ≤ 100; omega) (pts_size xs xs.length) (by omega) (by rw [pts_len]; omega) xs.length 0 k (by rw [pts_len]; omega) (by omega) (by omega)
  rw [pts_len] at e
  rw [pts_len, show impl_joinWith.l0 k (⟨#[44]⟩ : ByteArray) (⟨#[]⟩ : ByteArray) (pts xs xs.length) (xs.length : Int) 0 = _ from e]
  rfl
 | succ d ih =>
  intro i k hd hi hk
  obtain ⟨k, rfl⟩ : ∃ m, k = m + 1 := ⟨k - 1, by omega⟩
  have hb := hs.2.2 i (by omega)
  have e := ih (i + 1) k (by omega) (by omega) (by omega)
  have h1 := dcs_size 6 (bt_at xs i)
  have h2 := dcs_size 6 (ln_at xs i)
  have h3 : (⟨#[42]⟩ : ByteArray).size = 1 := rfl
  unfold bt_at at hb h1
  unfold ln_at at hb h2
  unfold impl_scoreText.l0
  rw [rd_bar, if_pos (by omega), if_pos (by omega), if_pos (by omega), impl_dec 6 _ k (by omega) (by show _ < (10 ^ 6 : Int); omega) (by omega) (by omega) (by omega) (by omega)]
  simp only [Option.bind_some]
  rw [if_pos (by omega), impl_dec 6 _ k (by omega) (by show _ < (10 ^ 6 : Int); omega) (by omega) (by omega) (by omega) (by omega)]
  simp only [Option.bind_some]
  rw [if_pos (by rw [ByteArray.size_append]; omega), if_pos (by rw [pts_len]; omega), w64 (by omega)]
  exact e
theorem scoretext_is {xs : List S56} (h : isScore xs = true) : (∀ k, 100 ≤ k → spec_ScoreText.f k xs = some (jnT (pts xs xs.length) (⟨#[44]⟩ : ByteArray) xs.length, 0)) ∧ ∀ k, 100 ≤ k → impl_ScoreText.f k xs = some (jnT (pts xs xs.length) (⟨#[44]⟩ : ByteArray) xs.length, 0) := by
 have hs := isScore_true h
 refine ⟨fun k hk => ?_, fun k hk => ?_⟩
 ·unfold spec_ScoreText.f
  rw [spec_score xs (by omega) k (by omega), h]
  simp only [Option.bind_some]
  rw [if_pos trivial, show spec_l07Text.f k xs = _ from spec_text h xs.length 0 k (by omega) (by omega) (by omega)]; rfl
 ·unfold impl_ScoreText.f
  rw [impl_score xs (by omega) k (by omega), h]
  simp only [Option.bind_some]
  rw [if_pos trivial, show impl_scoreText.f k xs = _ from impl_text h xs.length 0 k (by omega) (by omega) (by omega)]; rfl
end Go.Proofs.Ytigkgihnijaefaa.F
namespace Go.Proofs.Ytigkgihnijaefaa.F
open Go.RowKit Go.Proofs.YtigkgihnijaefaaW.PrintWords Go.Proofs.YtigkgihnijaefaaW.PrintLast Go.Proofs.YtigkgihnijaefaaW.PrintMore
attribute [local go_sem] max2_int min2_int max_two min_two max_three min_three max_four min_four   -- for this text's walks alone
set_option linter.unusedVariables false
set_option linter.unusedSimpArgs false
def spec_l07Time.l0 : Nat → List (S56) → Int → Int → Int → Int → Option (Int)
 | 0, _, _, _, _, _ => none
 | k + 1, x0, x1, x2, x7, x8 => if x8 < x1 then (if 0 ≤ x8 then (if x8 < (x0.length : Int) then (spec_l07Time.l0 k x0 x1 x2 (wrap64 (x7 + (wrap64 (((rd_T56 x0 x8).f0) * ((rd_T56 x0 x8).f1))))) (wrap64 (x8 + 1))) else (none)) else (none)) else (if 0 ≤ x1 then (if x1 < (x0.length : Int) then (some (wrap64 (x7 + (wrap64 (x2 * ((rd_T56 x0 x1).f1)))))) else (none)) else (none))
def spec_l07Time.f (k : Nat) (l0 : List (S56)) (a1 : Int) (a2 : Int) : Option (Int) := spec_l07Time.l0 k l0 a1 a2 0 0
theorem spec_l07Time.mono_l : ∀ k, (∀ y0 y1 y2 y3 y4, LeO (spec_l07Time.l0 k y0 y1 y2 y3 y4) (spec_l07Time.l0 (k + 1) y0 y1 y2 y3 y4))
 | 0 => fun _ _ _ _ _ r h => by simp [spec_l07Time.l0] at h
 | k + 1 => by
  have ih0 := spec_l07Time.mono_l k
  ·intro y0 y1 y2 y3 y4
   unfold spec_l07Time.l0
   repeat' first
   | (with_reducible exact ih0 _ _ _ _ _)
   | (with_reducible exact LeO.refl _)
   | (with_reducible exact LeO.none _)
   | (with_reducible refine LeO.ite ?_ ?_)
   | (with_reducible refine LeO.bind ?_ (fun _ => ?_))
   | exact ih0 _ _ _ _ _
   | exact LeO.none _
   | refine LeO.ite ?_ ?_
   | refine LeO.bind ?_ (fun _ => ?_)
theorem spec_l07Time.mono : ∀ a0 a1 a2 k, LeO (spec_l07Time.f k a0 a1 a2) (spec_l07Time.f (k + 1) a0 a1 a2) := by
 intro a0 a1 a2 k
 have ih0 := spec_l07Time.mono_l k
 unfold spec_l07Time.f
 repeat' first
   | (with_reducible exact ih0 _ _ _ _ _)
   | (with_reducible exact LeO.refl _)
   | (with_reducible exact LeO.none _)
   | (with_reducible refine LeO.ite ?_ ?_)
   | (with_reducible refine LeO.bind ?_ (fun _ => ?_))
   | exact ih0 _ _ _ _ _
   | exact LeO.none _
   | refine LeO.ite ?_ ?_
   | refine LeO.bind ?_ (fun _ => ?_)
set_option maxHeartbeats 8000000 in
set_option maxRecDepth 100000 in
theorem spec_l07Time.calls (k : Nat) (A0 : Option Addr) (c0 : Nat) (l0 : List (S56)) (a1 : Int) (a2 : Int) (r : Int) (w : World) (hr0 : Kd.C k56 w A0 l0.length l0) (hc0 : l0.length ≤ c0) (h : spec_l07Time.f k l0 a1 a2 = some r) :
  Calls Try.prog 47 #[.slice A0 l0.length c0, .int .i64 a1, .int .i64 a2] w fun e w' => e = .returned (.int .i64 r) ∧ Drawn0 w w' := by
 have HR0 := Aside0.mk hr0
 have HC0 := Aside0.mk hc0
 clear hr0 hc0
 have H : (spec_l07Time.l0 k l0 a1 a2 0 0) = some r := h
 clear h
 have H' := Aside0.mk H
 clear H
 go_enter Try.func47, Try.ntmps47
 go_wp2
 repeat (go_quiet (fail); try go_wp2)
 go_loopg [7, 8] k (fun kq v7 v8 w' => ∃ (x7_1 : Int) (x8_1 : Int), v7 = .int .i64 x7_1 ∧ v8 = .int .i64 x8_1 ∧ Aside0 (spec_l07Time.l0 kq l0 a1 a2 x7_1 x8_1 = some r) ∧ Aside0 (kq ≤ k) ∧ Drawn0 w w')
 case atStart => exact ⟨(0), (0), (by first | rfl | (simp; done) | (simp [*]; done)), (by first | rfl | (simp; done) | (simp [*]; done)), H', ⟨Nat.le_refl _⟩, by repeat (first | exact Drawn0.refl _ | apply Drawn0.step)⟩
 case round =>
  clear H'
  try clear p2
  obtain ⟨x7_1, x8_1, rfl, rfl, HA, HK1, ⟨m1, rfl⟩⟩ := hrel
  cases gk with
  | zero => exact absurd HA.out (by simp [spec_l07Time.l0])
  | succ k1 =>
   have H := HA.out
   clear HA
   simp only [spec_l07Time.l0] at H
   by_cases c4 : x8_1 < a1
   ·rw [if_pos c4] at H
    have c4b0 : decide (x8_1 < a1) = true := decide_eq_true c4
    clear c4
    by_cases c5 : 0 ≤ x8_1
    ·rw [if_pos c5] at H
     have c5b0 : decide (0 ≤ x8_1) = true := decide_eq_true c5
     clear c5
     by_cases c6 : x8_1 < (l0.length : Int)
     ·rw [if_pos c6] at H
      have c6b0 : decide (x8_1 < (l0.length : Int)) = true := decide_eq_true c6
      clear c6
      have H' := Aside0.mk H
      clear H
      have p332 : 0 ≤ (x8_1 : Int) := of_decide_eq_true (by first | (with_reducible assumption) | assumption)
      have q332 : x8_1 < (l0.length : Int) := of_decide_eq_true (by first | (with_reducible assumption) | assumption)
      obtain ⟨ad332, e332, hx332_0, hx332_1⟩ := at_T56 HR0.out x8_1 p332 q332
      cases e332
      replace p332 := eq_true p332
      replace q332 := eq_true q332
      have p333 : 0 ≤ (x8_1 : Int) := of_decide_eq_true (by first | (with_reducible assumption) | assumption)
      have q333 : x8_1 < (l0.length : Int) := of_decide_eq_true (by first | (with_reducible assumption) | assumption)
      obtain ⟨ad333, e333, hx333_0, hx333_1⟩ := at_T56 HR0.out x8_1 p333 q333
      obtain rfl : ad332 = ad333 := (by injection e333)
      replace p333 := eq_true p333
      replace q333 := eq_true q333
      go_wp2
      repeat (go_quiet (fail); try go_wp2)
      go_roundg k1
      case measure => have := HK1.out; omega
      case rel => exact ⟨(wrap64 (x7_1 + (wrap64 (((rd_T56 l0 x8_1).f0) * ((rd_T56 l0 x8_1).f1))))), (wrap64 (x8_1 + 1)), (by first | rfl | (simp; done) | (simp [*]; done)), (by first | rfl | (simp; done) | (simp [*]; done)), H', ⟨by have := HK1.out; omega⟩, by repeat (first | exact Drawn0.refl _ | apply Drawn0.step)⟩
     ·rw [if_neg c6] at H
      exact absurd H (by simp)
    ·rw [if_neg c5] at H
     exact absurd H (by simp)
   ·rw [if_neg c4] at H
    have c4b0 : decide (x8_1 < a1) = false := decide_eq_false c4
    clear c4
    by_cases c7 : 0 ≤ a1
    ·rw [if_pos c7] at H
     have c7b0 : decide (0 ≤ a1) = true := decide_eq_true c7
     clear c7
     by_cases c8 : a1 < (l0.length : Int)
     ·rw [if_pos c8] at H
      have c8b0 : decide (a1 < (l0.length : Int)) = true := decide_eq_true c8
      clear c8
      obtain rfl := Option.some.inj H
      have p334 : 0 ≤ (a1 : Int) := of_decide_eq_true (by first | (with_reducible assumption) | assumption)
      have q334 : a1 < (l0.length : Int) := of_decide_eq_true (by first | (with_reducible assumption) | assumption)
      obtain ⟨ad334, e334, hx334_0, hx334_1⟩ := at_T56 HR0.out a1 p334 q334
      cases e334
      replace p334 := eq_true p334
      replace q334 := eq_true q334
      go_wp2
      repeat (go_quiet (fail); try go_wp2)
      go_ret
      exact ⟨by first | rfl | (simp; done) | (simp [*]; done), by repeat (first | exact Drawn0.refl _ | apply Drawn0.step)⟩
     ·rw [if_neg c8] at H
      exact absurd H (by simp)
    ·rw [if_neg c7] at H
     exact absurd H (by simp)
end Go.Proofs.Ytigkgihnijaefaa.F
namespace Go.Proofs.Ytigkgihnijaefaa.F
open Go.RowKit Go.Proofs.YtigkgihnijaefaaW.PrintWords Go.Proofs.YtigkgihnijaefaaW.PrintLast Go.Proofs.YtigkgihnijaefaaW.PrintMore
attribute [local go_sem] max2_int min2_int max_two min_two max_three min_three max_four min_four   -- for this text's walks alone
set_option linter.unusedVariables false
set_option linter.unusedSimpArgs false
def impl_beatTime.l0 : Nat → List (S56) → Int → Int → Int → List (S56) → Int → Int → Option (Int)
 | 0, _, _, _, _, _, _, _ => none
 | k + 1, x0, x1, x2, x7, x12, x13, x14 => if x14 < x13 then (if 0 ≤ x14 then (if x14 < (x12.length : Int) then (impl_beatTime.l0 k x0 x1 x2 (wrap64 (x7 + (wrap64 (((rd_T56 x12 x14).f0) * ((rd_T56 x12 x14).f1))))) x12 x13 (wrap64 (x14 + 1))) else (none)) else (none)) else (if x2 > 0 then (if 0 ≤ x1 then (if x1 < (x0.length : Int) then (some (wrap64 (x7 + (wrap64 (x2 * ((rd_T56 x0 x1).f1)))))) else (none)) else (none)) else (some x7))
def impl_beatTime.f (k : Nat) (l0 : List (S56)) (a1 : Int) (a2 : Int) : Option (Int) := if 0 ≤ a1 then (if a1 ≤ (l0.length : Int) then ((some (l0.take (a1 : Int).toNat : List (S56))).bind fun y243 => (impl_beatTime.l0 k l0 a1 a2 0 y243 (y243.length : Int) 0)) else (none)) else (none)
theorem impl_beatTime.mono_l : ∀ k, (∀ y0 y1 y2 y3 y4 y5 y6, LeO (impl_beatTime.l0 k y0 y1 y2 y3 y4 y5 y6) (impl_beatTime.l0 (k + 1) y0 y1 y2 y3 y4 y5 y6))
 | 0 => fun _ _ _ _ _ _ _ r h => by simp [impl_beatTime.l0] at h
 | k + 1 => by
  have ih0 := impl_beatTime.mono_l k
  ·intro y0 y1 y2 y3 y4 y5 y6
   unfold impl_beatTime.l0
   repeat' first
   | (with_reducible exact ih0 _ _ _ _ _ _ _)
   | (with_reducible exact LeO.refl _)
   | (with_reducible exact LeO.none _)
   | (with_reducible refine LeO.ite ?_ ?_)
   | (with_reducible refine LeO.bind ?_ (fun _ => ?_))
   | exact ih0 _ _ _ _ _ _ _
   | exact LeO.none _
   | refine LeO.ite ?_ ?_
   | refine LeO.bind ?_ (fun _ => ?_)
theorem impl_beatTime.mono : ∀ a0 a1 a2 k, LeO (impl_beatTime.f k a0 a1 a2) (impl_beatTime.f (k + 1) a0 a1 a2) := by
 intro a0 a1 a2 k
 have ih0 := impl_beatTime.mono_l k
 unfold impl_beatTime.f
 repeat' first
   | (with_reducible exact ih0 _ _ _ _ _ _ _)
   | (with_reducible exact LeO.refl _)
   | (with_reducible exact LeO.none _)
   | (with_reducible refine LeO.ite ?_ ?_)
   | (with_reducible refine LeO.bind ?_ (fun _ => ?_))
   | exact ih0 _ _ _ _ _ _ _
   | exact LeO.none _
   | refine LeO.ite ?_ ?_
   | refine LeO.bind ?_ (fun _ => ?_)
set_option maxHeartbeats 8000000 in
set_option maxRecDepth 100000 in
theorem impl_beatTime.calls (k : Nat) (A0 : Option Addr) (c0 : Nat) (l0 : List (S56)) (a1 : Int) (a2 : Int) (r : Int) (w : World) (hr0 : Kd.C k56 w A0 l0.length l0) (hc0 : l0.length ≤ c0) (h : impl_beatTime.f k l0 a1 a2 = some r) :
  Calls Try.prog 45 #[.slice A0 l0.length c0, .int .i64 a1, .int .i64 a2] w fun e w' => e = .returned (.int .i64 r) ∧ Below w.heap.size w w' := by
 have hu56 := Try.underlying56
 have HR0 := Aside0.mk hr0
 have HC0 := Aside0.mk hc0
 clear hr0 hc0
 have HB := Aside0.mk (Below.refl w.heap.size w)
 have H : (if 0 ≤ a1 then (if a1 ≤ (l0.length : Int) then ((some (l0.take (a1 : Int).toNat : List (S56))).bind fun y243 => (impl_beatTime.l0 k l0 a1 a2 0 y243 (y243.length : Int) 0)) else (none)) else (none)) = some r := h
 clear h
 by_cases c4 : 0 ≤ a1
 ·rw [if_pos c4] at H
  have c4b0 := eq_true c4
  have c4b1 : decide (0 ≤ a1) = true := decide_eq_true c4
  clear c4
  by_cases c5 : a1 ≤ (l0.length : Int)
  ·rw [if_pos c5] at H
   have c5b0 := eq_true c5
   have c5b1 : decide (a1 ≤ (l0.length : Int)) = true := decide_eq_true c5
   clear c5
   obtain ⟨y243, hy243⟩ : ∃ y_ : List (S56), y_ = (l0.take (a1 : Int).toNat) := ⟨_, rfl⟩
   replace H : (impl_beatTime.l0 k l0 a1 a2 0 y243 (y243.length : Int) 0) = some r := by first | (rw [hy243]; with_reducible exact H) | (have H2_ := (Option.bind_some _ _).symm.trans H; rw [hy243]; with_reducible exact H2_) | (have H2_ := (Option.bind_some _ _).symm.trans H; with_reducible exact H2_) | with_reducible exact H | (rw [hy243]; exact H) | exact H
   have Ny243 := Aside0.mk hy243
   clear hy243
   have H' := Aside0.mk H
   clear H
   have q6 : (a1 : Int) ≤ ((l0.length : Int) : Int) := of_decide_eq_true (by first | (with_reducible assumption) | assumption)
   obtain ⟨i06, hi06, _, hsz6, _⟩ := info_parts info56
   have hroom6 : l0.length ≤ c0 := HC0.out
   have hC6 : Kd.C k56 _ A0 l0.length l0 := HR0.out
   have hcut6 := cut_to (P := Try.prog) 24 56 .i64 Try.underlying24 hi06 A0 l0.length c0 a1 (of_decide_eq_true (by first | (with_reducible assumption) | assumption)) q6 hroom6
   have hr6 := Kd.C_take (m := (a1 : Int).toNat) hC6 (by omega)
   have hy6 : y243.length = (a1 : Int).toNat := (by rw [Ny243.out, List.length_take]; omega)
   rw [← Ny243.out] at hr6
   rw [← hy6] at hcut6
   have HR246 := Aside0.mk hr6
   have HC246 := Aside0.mk (show y243.length ≤ c0 from by omega)
   clear hr6 hC6 hroom6 hi06 hsz6
   have KY6 := Aside0.mk hy6
   clear hy6
   replace q6 := eq_true q6
   go_enter Try.func45, Try.ntmps45
   go_wp2
   go_loopg [7, 14] k (fun kq v7 v14 w' => ∃ (x7_1 : Int) (x14_1 : Int), v7 = .int .i64 x7_1 ∧ v14 = .int .i64 x14_1 ∧ Aside0 (impl_beatTime.l0 kq l0 a1 a2 x7_1 y243 (y243.length : Int) x14_1 = some r) ∧ Aside0 (kq ≤ k) ∧ Aside0 (Below w.heap.size w w'))
   case atStart => exact ⟨(0), (0), (by first | rfl | (simp; done) | (simp [*]; done)), (by first | rfl | (simp; done) | (simp [*]; done)), H', ⟨Nat.le_refl _⟩, ⟨by repeat (first | (with_reducible first | exact HB.out | apply below_alloc | apply pw_below_drewN | apply below_drew1) | exact HB.out)⟩⟩
   case round =>
    clear H'
    try clear p2
    try clear c4
    try clear c4b0
    try clear c4b1
    try clear c5
    try clear c5b0
    try clear c5b1
    try clear q6
    try clear q6
    obtain ⟨x7_1, x14_1, rfl, rfl, HA, HK1, HB⟩ := hrel
    cases gk with
    | zero => exact absurd HA.out (by simp [impl_beatTime.l0])
    | succ k1 =>
     have H := HA.out
     clear HA
     simp only [impl_beatTime.l0] at H
     by_cases c7 : x14_1 < (y243.length : Int)
     ·rw [if_pos c7] at H
      have c7b0 : decide (x14_1 < (y243.length : Int)) = true := decide_eq_true c7
      clear c7
      by_cases c8 : 0 ≤ x14_1
      ·rw [if_pos c8] at H
       have c8b0 : decide (0 ≤ x14_1) = true := decide_eq_true c8
       clear c8
       by_cases c9 : x14_1 < (y243.length : Int)
       ·rw [if_pos c9] at H
        have c9b0 : decide (x14_1 < (y243.length : Int)) = true := decide_eq_true c9
        clear c9
        have H' := Aside0.mk H
        clear H
        have p247 : 0 ≤ (x14_1 : Int) := of_decide_eq_true (by first | (with_reducible assumption) | assumption)
        have q247 : x14_1 < (y243.length : Int) := of_decide_eq_true (by first | (with_reducible assumption) | assumption)
        obtain ⟨ad247, e247, hx247_0, hx247_1⟩ := at_T56 HR246.out x14_1 p247 q247
        cases e247
        replace hx247_0 := (HB.out.cell (World.block_lt_of_cell? w _ hx247_0)).trans hx247_0
        replace hx247_1 := (HB.out.cell (World.block_lt_of_cell? w _ hx247_1)).trans hx247_1
        replace p247 := eq_true p247
        replace q247 := eq_true q247
        go_wp2_with (first | ((with_reducible refine gate_dst (N := 9) rfl ?_); refine box_event ?hg (N := 9) ?hd (cs := #[.int .i64 0, .int .i64 0]) (t := 56) ?hr ?_; (case hd => rfl); (case hg => rfl); (case hr => first | (go_simp; done) | (go_simp; rfl)); intro gb248 hg w10 hbox hb; have n0_ := Aside0.mk (below_step (by repeat (first | (with_reducible first | exact HB.out | apply below_alloc | apply pw_below_drewN | apply below_drew1) | exact HB.out)) hb); have n1_ := Aside0.mk (hbox); have n2_ := Aside0.mk ((by rw [hg]; exact (below_size (by repeat (first | (with_reducible first | exact HB.out | apply below_alloc | apply pw_below_drewN | apply below_drew1) | exact HB.out))) : w.heap.size ≤ gb248)); have n3_ := Aside0.mk ((by rw [hg]; exact (below_size (by repeat (first | (with_reducible first | exact HB.out | apply below_alloc | apply pw_below_drewN | apply below_drew1) | exact HB.out))) : w.heap.size ≤ gb248)); clear HB; have HB := n0_; have BK248 := n1_; have GW248 := n2_; have GE248 := n3_; clear n0_ n1_ n2_ n3_; clear hb hbox hg; have hcz11_0 : w10.cell? ⟨gb248, 0, none⟩ = some (.int .i64 0) := (blk_cell BK248.out 0).trans rfl; have hcz11_1 : w10.cell? ⟨gb248, 1, none⟩ = some (.int .i64 0) := (blk_cell BK248.out 1).trans rfl; have hfz11_0 := blk_frozen BK248.out 0; have hfz11_1 := blk_frozen BK248.out 1))
        go_roundg k1
        case measure => have := HK1.out; omega
        case rel => exact ⟨(wrap64 (x7_1 + (wrap64 (((rd_T56 y243 x14_1).f0) * ((rd_T56 y243 x14_1).f1))))), (wrap64 (x14_1 + 1)), (by first | rfl | (simp; done) | (simp [*]; done)), (by first | rfl | (simp; done) | (simp [*]; done)), H', ⟨by have := HK1.out; omega⟩, ⟨by repeat (first | (with_reducible first | exact HB.out | apply below_alloc | apply pw_below_drewN | apply below_drew1 | refine below_set ?_ GE248.out) | exact HB.out)⟩⟩
       ·rw [if_neg c9] at H
        exact absurd H (by simp)
      ·rw [if_neg c8] at H
       exact absurd H (by simp)
     ·rw [if_neg c7] at H
      have c7b0 : decide (x14_1 < (y243.length : Int)) = false := decide_eq_false c7
      clear c7
      by_cases c12 : a2 > 0
      ·rw [if_pos c12] at H
       have c12b0 : decide (0 < a2) = true := decide_eq_true c12
       clear c12
       by_cases c13 : 0 ≤ a1
       ·rw [if_pos c13] at H
        have c13b0 : decide (0 ≤ a1) = true := decide_eq_true c13
        clear c13
        by_cases c14 : a1 < (l0.length : Int)
        ·rw [if_pos c14] at H
         have c14b0 : decide (a1 < (l0.length : Int)) = true := decide_eq_true c14
         clear c14
         obtain rfl := Option.some.inj H
         have p249 : 0 ≤ (a1 : Int) := of_decide_eq_true (by first | (with_reducible assumption) | assumption)
         have q249 : a1 < (l0.length : Int) := of_decide_eq_true (by first | (with_reducible assumption) | assumption)
         obtain ⟨ad249, e249, hx249_0, hx249_1⟩ := at_T56 HR0.out a1 p249 q249
         cases e249
         replace hx249_0 := (HB.out.cell (World.block_lt_of_cell? w _ hx249_0)).trans hx249_0
         replace hx249_1 := (HB.out.cell (World.block_lt_of_cell? w _ hx249_1)).trans hx249_1
         replace p249 := eq_true p249
         replace q249 := eq_true q249
         go_wp2
         go_ret
         exact ⟨by first | rfl | (simp [errW_none, errW_some] <;> rfl) | (simp [*, errW_none, errW_some] <;> rfl), by repeat (first | (with_reducible first | exact HB.out | apply below_alloc | apply pw_below_drewN | apply below_drew1) | exact HB.out)⟩
        ·rw [if_neg c14] at H
         exact absurd H (by simp)
       ·rw [if_neg c13] at H
        exact absurd H (by simp)
      ·rw [if_neg c12] at H
       have c12b0 : decide (0 < a2) = false := decide_eq_false c12
       clear c12
       obtain rfl := Option.some.inj H
       go_wp2
       go_ret
       exact ⟨by first | rfl | (simp [errW_none, errW_some] <;> rfl) | (simp [*, errW_none, errW_some] <;> rfl), by repeat (first | (with_reducible first | exact HB.out | apply below_alloc | apply pw_below_drewN | apply below_drew1) | exact HB.out)⟩
  ·rw [if_neg c5] at H
   exact absurd H (by simp)
 ·rw [if_neg c4] at H
  exact absurd H (by simp)
end Go.Proofs.Ytigkgihnijaefaa.F
namespace Go.Proofs.Ytigkgihnijaefaa.F
open Go.RowKit Go.Proofs.YtigkgihnijaefaaW.PrintWords Go.Proofs.YtigkgihnijaefaaW.PrintLast Go.Proofs.YtigkgihnijaefaaW.PrintMore
set_option linter.unusedVariables false
set_option linter.unusedSimpArgs false
end Go.Proofs.Ytigkgihnijaefaa.F
namespace Go.Proofs.Ytigkgihnijaefaa.F
open Go.RowKit Go.Proofs.YtigkgihnijaefaaW.PrintWords Go.Proofs.YtigkgihnijaefaaW.PrintLast Go.Proofs.YtigkgihnijaefaaW.PrintMore
attribute [local go_sem] max2_int min2_int max_two min_two max_three min_three max_four min_four   -- for this text's walks alone
set_option linter.unusedVariables false
set_option linter.unusedSimpArgs false
def impl_scoreEnd.f (k : Nat) (l0 : List (S56)) : Option (Int) := (impl_beatTime.f k l0 (l0.length : Int) 0).bind fun t250 => (some t250)
theorem impl_scoreEnd.mono : ∀ a0 k, LeO (impl_scoreEnd.f k a0) (impl_scoreEnd.f (k + 1) a0) := by
 intro a0 k
 unfold impl_scoreEnd.f
 repeat' first
   | (with_reducible exact impl_beatTime.mono _ _ _ _)
   | (with_reducible exact LeO.refl _)
   | (with_reducible exact LeO.none _)
   | (with_reducible refine LeO.ite ?_ ?_)
   | (with_reducible refine LeO.bind ?_ (fun _ => ?_))
   | exact impl_beatTime.mono _ _ _ _
   | exact LeO.none _
   | refine LeO.ite ?_ ?_
   | refine LeO.bind ?_ (fun _ => ?_)
set_option maxHeartbeats 8000000 in
set_option maxRecDepth 100000 in
theorem impl_scoreEnd.calls (k : Nat) (A0 : Option Addr) (c0 : Nat) (l0 : List (S56)) (r : Int) (w : World) (hr0 : Kd.C k56 w A0 l0.length l0) (hc0 : l0.length ≤ c0) (h : impl_scoreEnd.f k l0 = some r) :
  Calls Try.prog 43 #[.slice A0 l0.length c0] w fun e w' => e = .returned (.int .i64 r) ∧ Below w.heap.size w w' := by
 have HR0 := Aside0.mk hr0
 have HC0 := Aside0.mk hc0
 clear hr0 hc0
 have HB := Aside0.mk (Below.refl w.heap.size w)
 have H : ((impl_beatTime.f k l0 (l0.length : Int) 0).bind fun t250 => (some t250)) = some r := h
 clear h
 replace H := Option.bind_eq_some_iff.mp H
 obtain ⟨t250, A20, H⟩ := H
 replace H : (some t250) = some r := H
 have A2 := Aside0.mk A20
 clear A20
 obtain rfl := Option.some.inj H
 go_enter Try.func43, Try.ntmps43
 go_wp2_with (first | ((with_reducible refine gate_callee (f := 45) rfl ?_); refine goesL_ (some 6) rfl rfl Try.func45 (by kernel_rfl) rfl #[.slice A0 l0.length c0, .int .i64 (l0.length : Int), .int .i64 0] rfl (by (try simp only [List.map_toArray, List.map_cons, List.map_nil]); first | done | rfl | (simp only [List.length_drop, List.length_take]; rfl)) ?_; (with_reducible refine (impl_beatTime.calls k _ _ l0 (l0.length : Int) 0 t250 _ ?side1 ?side2 A2.out).mono ?_); (case side1 => repeat (first | exact HR0.out | (with_reducible refine Kd.C_alloc ?_ _) | (with_reducible refine Kd.C_drewN ?_ _) | (with_reducible refine Kd.C_drew ?_))); (case side2 => exact HC0.out); rintro e w3 ⟨rfl, hb⟩; refine ⟨_, rfl, ?_⟩; have n0_ := Aside0.mk (below_step (by repeat (first | (with_reducible first | exact HB.out | apply below_alloc | apply pw_below_drewN | apply below_drew1) | exact HB.out)) hb); clear HB; have HB := n0_; clear n0_; (try clear hb); (try clear hb2); (try clear hk); (try clear hi)))
 go_ret
 exact ⟨by first | rfl | (simp [errW_none, errW_some] <;> rfl) | (simp [*, errW_none, errW_some] <;> rfl), by repeat (first | (with_reducible first | exact HB.out | apply below_alloc | apply pw_below_drewN | apply below_drew1) | exact HB.out)⟩
end Go.Proofs.Ytigkgihnijaefaa.F
namespace Go.Proofs.Ytigkgihnijaefaa.F
open Go.RowKit Go.Proofs.YtigkgihnijaefaaW.PrintWords Go.Proofs.YtigkgihnijaefaaW.PrintLast Go.Proofs.YtigkgihnijaefaaW.PrintMore
attribute [local go_sem] max2_int min2_int max_two min_two max_three min_three max_four min_four   -- for this text's walks alone
set_option linter.unusedVariables false
set_option linter.unusedSimpArgs false
def impl_ScoreEnd.f (k : Nat) (l0 : List (S56)) : Option (Int × Int) := (impl_IsScore.f k l0).bind fun t251 => (if t251 = true then ((impl_scoreEnd.f k l0).bind fun t252 => (some (t252, 0))) else (some (0, 1)))
theorem impl_ScoreEnd.mono : ∀ a0 k, LeO (impl_ScoreEnd.f k a0) (impl_ScoreEnd.f (k + 1) a0) := by
 intro a0 k
 unfold impl_ScoreEnd.f
 repeat' first
   | (with_reducible exact impl_IsScore.mono _ _)
   | (with_reducible exact impl_scoreEnd.mono _ _)
   | (with_reducible exact LeO.refl _)
   | (with_reducible exact LeO.none _)
   | (with_reducible refine LeO.ite ?_ ?_)
   | (with_reducible refine LeO.bind ?_ (fun _ => ?_))
   | exact impl_IsScore.mono _ _
   | exact impl_scoreEnd.mono _ _
   | exact LeO.none _
   | refine LeO.ite ?_ ?_
   | refine LeO.bind ?_ (fun _ => ?_)
set_option maxHeartbeats 8000000 in
set_option maxRecDepth 100000 in
theorem impl_ScoreEnd.calls (k : Nat) (A0 : Option Addr) (c0 : Nat) (l0 : List (S56)) (r1 : Int) (r2 : Int) (w : World) (hr0 : Kd.C k56 w A0 l0.length l0) (hc0 : l0.length ≤ c0) (h : impl_ScoreEnd.f k l0 = some (r1, r2)) :
  Calls Try.prog 14 #[.slice A0 l0.length c0] w fun e w' => e = .returned (.tuple #[.int .i64 r1, .int .i64 r2]) ∧ Below w.heap.size w w' := by
 have HR0 := Aside0.mk hr0
 have HC0 := Aside0.mk hc0
 clear hr0 hc0
 have HB := Aside0.mk (Below.refl w.heap.size w)
 have H : ((impl_IsScore.f k l0).bind fun t251 => (if t251 = true then ((impl_scoreEnd.f k l0).bind fun t252 => (some (t252, 0))) else (some (0, 1)))) = some (r1, r2) := h
 clear h
 replace H := Option.bind_eq_some_iff.mp H
 obtain ⟨t251, A20, H⟩ := H
 replace H : (if t251 = true then ((impl_scoreEnd.f k l0).bind fun t252 => (some (t252, 0))) else (some (0, 1))) = some (r1, r2) := H
 have A2 := Aside0.mk A20
 clear A20
 by_cases c3 : t251 = true
 ·subst c3
  have H1 : ((impl_scoreEnd.f k l0).bind fun t252 => (some (t252, 0))) = some (r1, r2) := by rw [if_pos rfl] at H; exact H
  clear H
  have H := H1
  clear H1
  replace H := Option.bind_eq_some_iff.mp H
  obtain ⟨t252, A40, H⟩ := H
  replace H : (some (t252, 0)) = some (r1, r2) := H
  have A4 := Aside0.mk A40
  clear A40
  simp only [Option.some.injEq, Prod.mk.injEq] at H
  obtain ⟨rfl, rfl⟩ := H
  go_enter Try.func14, Try.ntmps14
  go_wp2_with (first | ((with_reducible refine gate_callee (f := 25) rfl ?_); refine goesL_ (some 5) rfl rfl Try.func25 (by kernel_rfl) rfl #[.slice A0 l0.length c0] rfl (by (try simp only [List.map_toArray, List.map_cons, List.map_nil]); first | done | rfl | (simp only [List.length_drop, List.length_take]; rfl)) ?_; (with_reducible refine (impl_IsScore.calls k _ _ l0 true _ ?side1 ?side2 A2.out).mono ?_); (case side1 => repeat (first | exact HR0.out | (with_reducible refine Kd.C_alloc ?_ _) | (with_reducible refine Kd.C_drewN ?_ _) | (with_reducible refine Kd.C_drew ?_))); (case side2 => exact HC0.out); rintro e w5 ⟨rfl, hb⟩; refine ⟨_, rfl, ?_⟩; have n0_ := Aside0.mk (below_step (by repeat (first | (with_reducible first | exact HB.out | apply below_alloc | apply pw_below_drewN | apply below_drew1) | exact HB.out)) hb); clear HB; have HB := n0_; clear n0_; (try clear hb); (try clear hb2); (try clear hk); (try clear hi)) | ((with_reducible refine gate_callee (f := 43) rfl ?_); refine goesL_ (some 8) rfl rfl Try.func43 (by kernel_rfl) rfl #[.slice A0 l0.length c0] rfl (by (try simp only [List.map_toArray, List.map_cons, List.map_nil]); first | done | rfl | (simp only [List.length_drop, List.length_take]; rfl)) ?_; (with_reducible refine (impl_scoreEnd.calls k _ _ l0 t252 _ ?side1 ?side2 A4.out).mono ?_); (case side1 => repeat (first | exact (Kd.C_below HR0.out HB.out) | (with_reducible refine Kd.C_alloc ?_ _) | (with_reducible refine Kd.C_drewN ?_ _) | (with_reducible refine Kd.C_drew ?_))); (case side2 => exact HC0.out); rintro e w6 ⟨rfl, hb⟩; refine ⟨_, rfl, ?_⟩; have n0_ := Aside0.mk (below_step (by repeat (first | (with_reducible first | exact HB.out | apply below_alloc | apply pw_below_drewN | apply below_drew1) | exact HB.out)) hb); clear HB; have HB := n0_; clear n0_; (try clear hb); (try clear hb2); (try clear hk); (try clear hi)))
  go_ret2
  exact ⟨by first | rfl | (simp [errW_none, errW_some] <;> rfl) | (simp [*, errW_none, errW_some] <;> rfl), by repeat (first | (with_reducible first | exact HB.out | apply below_alloc | apply pw_below_drewN | apply below_drew1) | exact HB.out)⟩
 ·replace c3 := Bool.eq_false_iff.mpr c3
  subst c3
  have H1 : (some (0, 1)) = some (r1, r2) := by rw [if_neg (show ¬ (false = true) by decide)] at H; exact H
  clear H
  have H := H1
  clear H1
  simp only [Option.some.injEq, Prod.mk.injEq] at H
  obtain ⟨rfl, rfl⟩ := H
  go_enter Try.func14, Try.ntmps14
  go_wp2_with (first | ((with_reducible refine gate_callee (f := 25) rfl ?_); refine goesL_ (some 5) rfl rfl Try.func25 (by kernel_rfl) rfl #[.slice A0 l0.length c0] rfl (by (try simp only [List.map_toArray, List.map_cons, List.map_nil]); first | done | rfl | (simp only [List.length_drop, List.length_take]; rfl)) ?_; (with_reducible refine (impl_IsScore.calls k _ _ l0 false _ ?side1 ?side2 A2.out).mono ?_); (case side1 => repeat (first | exact HR0.out | (with_reducible refine Kd.C_alloc ?_ _) | (with_reducible refine Kd.C_drewN ?_ _) | (with_reducible refine Kd.C_drew ?_))); (case side2 => exact HC0.out); rintro e w7 ⟨rfl, hb⟩; refine ⟨_, rfl, ?_⟩; have n0_ := Aside0.mk (below_step (by repeat (first | (with_reducible first | exact HB.out | apply below_alloc | apply pw_below_drewN | apply below_drew1) | exact HB.out)) hb); clear HB; have HB := n0_; clear n0_; (try clear hb); (try clear hb2); (try clear hk); (try clear hi)))
  go_ret2
  exact ⟨by first | rfl | (simp [errW_none, errW_some] <;> rfl) | (simp [*, errW_none, errW_some] <;> rfl), by repeat (first | (with_reducible first | exact HB.out | apply below_alloc | apply pw_below_drewN | apply below_drew1) | exact HB.out)⟩
end Go.Proofs.Ytigkgihnijaefaa.F
namespace Go.Proofs.Ytigkgihnijaefaa.F
open Go.RowKit Go.Proofs.YtigkgihnijaefaaW.PrintWords Go.Proofs.YtigkgihnijaefaaW.PrintLast Go.Proofs.YtigkgihnijaefaaW.PrintMore
set_option linter.unusedVariables false
set_option linter.unusedSimpArgs false
theorem isScore_intro {xs : List S56} (h1 : 1 ≤ xs.length) (h2 : xs.length ≤ 20) (h : ∀ i, i < xs.length → 1 ≤ bt_at xs i ∧ bt_at xs i ≤ 16 ∧ 100 ≤ ln_at xs i ∧ ln_at xs i ≤ 5000) : isScore xs = true := by
 unfold isScore
 rw [Bool.and_eq_true, allF_true, inB_true]
 refine ⟨fun i _ hi => ?_, by omega, by omega⟩
 have := h i (by omega)
 unfold barAt
 rw [Bool.and_eq_true, inB_true, inB_true]
 omega
end Go.Proofs.Ytigkgihnijaefaa.F
namespace Go.Proofs.Ytigkgihnijaefaa.F
open Go.RowKit Go.Proofs.YtigkgihnijaefaaW.PrintWords Go.Proofs.YtigkgihnijaefaaW.PrintLast Go.Proofs.YtigkgihnijaefaaW.PrintMore
set_option linter.unusedVariables false
set_option linter.unusedSimpArgs false
def Code (c : List Int) : Prop := c.length ≤ 4096 ∧ ∀ x ∈ c, 0 ≤ x ∧ x ≤ 255
def St (c : List Int) (a s : Int) : Prop := 0 ≤ a ∧ a ≤ (c.length : Int) ∧ 0 ≤ s ∧ s < 2147483647
theorem rd_code {c : List Int} (hc : Code c) (i : Int) : 0 ≤ rd c i ∧ rd c i ≤ 255 := by
 unfold rd
 rw [List.getD_eq_getElem?_getD]
 cases h : c[i.toNat]? with
 | none => exact ⟨Int.le_refl _, by decide⟩
 | some x => exact hc.2 x (List.mem_of_getElem? h)
theorem tmod_nn {a b : Int} (ha : 0 ≤ a) (hb : 0 < b) : 0 ≤ Int.tmod a b ∧ Int.tmod a b < b := by
 rw [Int.tmod_eq_emod_of_nonneg ha]
 exact ⟨Int.emod_nonneg _ (by omega), Int.emod_lt_of_pos _ hb⟩
theorem next_ok {c : List Int} (hc : Code c) {a s : Int} (h : St c a s) (n : Int) (hn : n ≤ 4611686018427387904) : ∃ r a' s', spec_l01Next.f c a s n = some (r, a', s') ∧ St c a' s' ∧ 0 ≤ r ∧ (r < n ∨ (n ≤ 1 ∧ r = 0)) := by
 obtain ⟨h1, h2, h3, h4⟩ := h
 have hl := hc.1
 unfold spec_l01Next.f
 by_cases c1 : n ≤ 1
 ·rw [if_pos c1]
  exact ⟨0, a, s, rfl, ⟨h1, h2, h3, h4⟩, Int.le_refl _, .inr ⟨c1, rfl⟩⟩
 ·have hs := tmod_nn (a := s * 48271 + 29) (b := 2147483647) (by omega) (by omega)
  rw [if_neg c1, w64 (n := s * 48271) (by omega), w64 (n := s * 48271 + 29) (by omega)]
  generalize Int.tmod (s * 48271 + 29) 2147483647 = z at hs ⊢
  have hd : Int.tdiv z 31 = z / 31 := Int.tdiv_eq_ediv_of_nonneg hs.1
  rw [hd]
  have n0 : ¬ n = 0 := by omega
  by_cases c2 : a < (c.length : Int)
  ·have hr := rd_code hc a
   have p := tmod_nn (a := z / 31 + rd c a) (b := n) (by omega) (by omega)
   have q := tmod_nn (a := rd c a) (b := n) (by omega) (by omega)
   simp only [if_neg n0]
   rw [if_pos c2, if_pos h1, w64 (n := a + 1) (by omega), w64 (n := z / 31) (by omega), w64 (n := rd c a) (by omega), w64 (n := z / 31 + rd c a) (by omega), w64 (n := a + 1 - 1) (by omega), show a + 1 - 1 = a by omega, w64 (n := rd c a) (by omega)]
   by_cases c3 : n ≤ 256
   ·rw [if_pos c3]
    by_cases c4 : Int.tmod (a + 1) 2 = 0
    ·rw [if_pos c4, if_pos h1, if_pos c2]
     exact ⟨_, _, _, rfl, ⟨by omega, by omega, hs.1, hs.2⟩, q.1, .inl q.2⟩
    ·rw [if_neg c4]
     exact ⟨_, _, _, rfl, ⟨by omega, by omega, hs.1, hs.2⟩, p.1, .inl p.2⟩
   ·rw [if_neg c3]
    exact ⟨_, _, _, rfl, ⟨by omega, by omega, hs.1, hs.2⟩, p.1, .inl p.2⟩
  ·have p := tmod_nn (a := z / 31) (b := n) (by omega) (by omega)
   simp only [if_neg n0]
   rw [if_neg c2, w64 (n := z / 31) (by omega)]
   exact ⟨_, _, _, rfl, ⟨h1, h2, hs.1, hs.2⟩, p.1, .inl p.2⟩
theorem pick_ok {c : List Int} (hc : Code c) {a s : Int} (h : St c a s) (l : List Int) (hl : 0 < l.length) (hl2 : l.length ≤ 1000) : ∃ r a' s', spec_l01Pick.f c a s l = some (r, a', s') ∧ St c a' s' ∧ r ∈ l := by
 obtain ⟨r, a', s', e, h', h0, h1⟩ := next_ok hc h (l.length : Int) (by omega)
 refine ⟨rd l r, a', s', ?_, h', ?_⟩
 ·unfold spec_l01Pick.f
  rw [e]
  simp only [Option.bind_some]
  rw [if_pos h0, if_pos (by omega)]
 ·have hr : r.toNat < l.length := by omega
  unfold rd
  rw [List.getD_eq_getElem?_getD, List.getElem?_eq_getElem hr]
  exact List.getElem_mem hr
theorem from_ok {c : List Int} (hc : Code c) : ∃ s, (∀ k, 70 ≤ k → spec_l01From.f k c = some (c, 0, s)) ∧ St c 0 s := by
 have loop : ∀ (d : Nat) (i s : Int), 0 ≤ i → i ≤ 64 → 64 - i ≤ d → 0 ≤ s → s < 2147483647 → ∃ s', (∀ k, d < k → spec_l01From.l0 k c i c 0 s = some (c, 0, s')) ∧ St c 0 s' := by
  intro d
  induction d with
  | zero =>
   intro i s h1 h2 h3 h4 h5
   refine ⟨s, fun k hk => ?_, by omega, by omega, h4, h5⟩
   obtain ⟨k, rfl⟩ : ∃ m, k = m + 1 := ⟨k - 1, by omega⟩
   simp only [spec_l01From.l0]
   rw [if_neg (show ¬ i < 64 by omega)]
   split <;> rfl
  | succ d ih =>
   intro i s h1 h2 h3 h4 h5
   by_cases c1 : i < (c.length : Int) ∧ i < 64
   ·have hr := rd_code hc i
    have hm := tmod_nn (a := s * 83 + rd c i) (b := 2147483647) (by omega) (by omega)
    obtain ⟨s', e, hs⟩ := ih (i + 1) (Int.tmod (s * 83 + rd c i) 2147483647) (by omega) (by omega) (by omega) hm.1 hm.2
    refine ⟨s', fun k hk => ?_, hs⟩
    obtain ⟨k, rfl⟩ : ∃ m, k = m + 1 := ⟨k - 1, by omega⟩
    simp only [spec_l01From.l0]
    rw [if_pos c1.1, if_pos c1.2, if_pos h1, w64 (n := i + 1) (by omega), w64 (n := s * 83) (by omega), w64 (n := rd c i) (by omega), w64 (n := s * 83 + rd c i) (by omega)]
    exact e k (by omega)
   ·refine ⟨s, fun k hk => ?_, by omega, by omega, h4, h5⟩
    obtain ⟨k, rfl⟩ : ∃ m, k = m + 1 := ⟨k - 1, by omega⟩
    simp only [spec_l01From.l0]
    by_cases c2 : i < (c.length : Int)
    ·rw [if_pos c2, if_neg (fun x => c1 ⟨c2, x⟩)]
    ·rw [if_neg c2]
 obtain ⟨s', e, hs⟩ := loop 64 0 61043 (by omega) (by omega) (by omega) (by omega) (by omega)
 exact ⟨s', fun k hk => e k (by omega), hs⟩
theorem code_of {l : List Int} (h : ¬ (l.length : Int) > 4096) (hb : ∀ x ∈ l, (Go.Lit.int .u8 x).wf = true) : Code l := ⟨by omega, fun x hx => by
 have h := hb x hx
 simp [Go.Lit.wf, Go.IntKind.min, Go.IntKind.max, Go.IntKind.signed, Go.IntKind.bits] at h
 omega⟩
end Go.Proofs.Ytigkgihnijaefaa.F
namespace Go.Proofs.Ytigkgihnijaefaa.F
open Go.RowKit Go.Proofs.YtigkgihnijaefaaW.PrintWords Go.Proofs.YtigkgihnijaefaaW.PrintLast Go.Proofs.YtigkgihnijaefaaW.PrintMore
set_option linter.unusedVariables false
set_option linter.unusedSimpArgs false
def GoodBars (xs : List S56) : Prop := ∀ x ∈ xs, (2 ≤ x.f0 ∧ x.f0 ≤ 5) ∧ 400 ≤ x.f1 ∧ x.f1 ≤ 999
theorem score_good {c : List Int} (hc : Code c) {a s : Int} (h : St c a s) : ∃ xs a' s', (∀ k, 20 ≤ k → spec_l07Good.f k c a s = some (xs, a', s')) ∧ St c a' s' ∧ 1 ≤ xs.length ∧ xs.length ≤ 6 ∧ GoodBars xs := by
 have loop : ∀ (d : Nat) (n : Int) (xs : List S56) (a s : Int), n = d → GoodBars xs → xs.length + d ≤ 6 → St c a s → ∃ r a' s', (∀ k, d < k → spec_l07Good.l0 k xs n c a s = some (r, a', s')) ∧ St c a' s' ∧ r.length = xs.length + d ∧ GoodBars r := by
  intro d
  induction d with
  | zero =>
   intro n xs a s hn hg hl h
   refine ⟨xs, a, s, fun k hk => ?_, h, rfl, hg⟩
   obtain ⟨k, rfl⟩ : ∃ m, k = m + 1 := ⟨k - 1, by omega⟩
   simp only [spec_l07Good.l0]
   rw [if_neg (by omega)]
  | succ d ih =>
   intro n xs a s hn hg hl h
   obtain ⟨r1, a1, s1, e1, h1, b1, c1⟩ := next_ok hc h 4 (by omega)
   obtain ⟨r2, a2, s2, e2, h2, b2, c2⟩ := next_ok hc h1 600 (by omega)
   obtain ⟨r, a', s', e, h', hr, hg'⟩ := ih (n - 1) (xs ++ [(⟨2 + r1, 400 + r2⟩ : S56)]) a2 s2 (by omega) (by
    intro x hx
    rcases List.mem_append.1 hx with y | y
    ·exact hg x y
    ·rw [List.mem_singleton.1 y]
     exact ⟨by show 2 ≤ 2 + r1 ∧ 2 + r1 ≤ 5; omega, by show 400 ≤ 400 + r2 ∧ 400 + r2 ≤ 999; omega⟩) (by rw [List.length_append]; show xs.length + 1 + d ≤ 6; omega) h2
   refine ⟨r, a', s', fun k hk => ?_, h', by rw [hr, List.length_append]; show xs.length + 1 + d = _; omega, hg'⟩
   obtain ⟨k, rfl⟩ : ∃ m, k = m + 1 := ⟨k - 1, by omega⟩
   simp only [spec_l07Good.l0]
   rw [if_pos (by omega)]
   simp only [e1, e2, Option.bind_some]
   rw [if_pos (by omega), w64 (n := 2 + r1) (by omega), w64 (n := 400 + r2) (by omega), w64 (n := n - 1) (by omega)]
   exact e k (by omega)
 obtain ⟨r1, a1, s1, e1, h1, b1, c1⟩ := next_ok hc h 6 (by omega)
 obtain ⟨r, a', s', e, h', hr, hg⟩ := loop (1 + r1).toNat (1 + r1) [] a1 s1 (by omega) (fun x hx => absurd hx (by simp)) (by show 0 + _ ≤ 6; omega) h1
 have hr' : r.length = (1 + r1).toNat := by rw [hr]; show 0 + _ = _; omega
 refine ⟨r, a', s', fun k hk => ?_, h', by omega, by omega, hg⟩
 unfold spec_l07Good.f
 rw [e1]
 simp only [Option.bind_some]
 rw [w64 (n := 1 + r1) (by omega)]
 exact e k (by omega)
theorem score_draw {c : List Int} (hc : Code c) {a s : Int} (h : St c a s) : ∃ xs a' s', (∀ k, 60 ≤ k → spec_l07Draw.f k c a s = some (xs, a', s')) ∧ St c a' s' ∧ xs.length ≤ 30 := by
 have loop : ∀ (d : Nat) (xs : List S56) (a s : Int), 21 - xs.length = d → xs.length ≤ 30 → St c a s → ∃ r a' s', (∀ k, d < k → spec_l07Draw.l0 k xs c a s = some (r, a', s')) ∧ St c a' s' ∧ r.length ≤ 30 := by
  intro d
  induction d with
  | zero =>
   intro xs a s hd hx h
   obtain ⟨r1, a1, s1, e1, h1, b1, b2⟩ := next_ok hc h 2 (by omega)
   refine ⟨xs, a1, s1, fun k hk => ?_, h1, hx⟩
   obtain ⟨k, rfl⟩ : ∃ m, k = m + 1 := ⟨k - 1, by omega⟩
   simp only [spec_l07Draw.l0, e1, Option.bind_some]
   rw [w64 (n := 20 + r1) (by omega), if_neg (by omega)]
  | succ d ih =>
   intro xs a s hd hx h
   obtain ⟨r1, a1, s1, e1, h1, b1, b2⟩ := next_ok hc h 2 (by omega)
   by_cases c1 : (xs.length : Int) < 20 + r1
   ·obtain ⟨r, a', s', e, h', hl⟩ := ih (xs ++ [(⟨4, 500⟩ : S56)]) a1 s1 (by rw [List.length_append]; show 21 - (xs.length + 1) = d; omega) (by rw [List.length_append]; show xs.length + 1 ≤ 30; omega) h1
    refine ⟨r, a', s', fun k hk => ?_, h', hl⟩
    obtain ⟨k, rfl⟩ : ∃ m, k = m + 1 := ⟨k - 1, by omega⟩
    simp only [spec_l07Draw.l0, e1, Option.bind_some]
    rw [w64 (n := 20 + r1) (by omega), if_pos c1, if_pos (by omega)]
    exact e k (by omega)
   ·refine ⟨xs, a1, s1, fun k hk => ?_, h1, hx⟩
    obtain ⟨k, rfl⟩ : ∃ m, k = m + 1 := ⟨k - 1, by omega⟩
    simp only [spec_l07Draw.l0, e1, Option.bind_some]
    rw [w64 (n := 20 + r1) (by omega), if_neg c1]
 obtain ⟨xs, a1, s1, e1, h1, l1, l2, hg⟩ := score_good hc h
 obtain ⟨r2, a2, s2, e2, h2, b2, c2⟩ := next_ok hc h1 40 (by omega)
 by_cases d0 : r2 = 0
 ·obtain ⟨r3, a3, s3, e3, h3, _⟩ := pick_ok hc h2 [0, 1, 16, 17] (by simp) (by simp)
  refine ⟨xs.set (0 : Int).toNat (⟨r3, (rd_T56 xs 0).f1⟩ : S56), a3, s3, fun k hk => ?_, h3, by rw [List.length_set]; omega⟩
  unfold spec_l07Draw.f
  simp only [e1 k (by omega), e2, e3, Option.bind_some]
  rw [if_pos d0, if_pos (by omega)]
 by_cases d1 : r2 = 1
 ·obtain ⟨r3, a3, s3, e3, h3, _⟩ := pick_ok hc h2 [99, 100, 5000, 5001] (by simp) (by simp)
  refine ⟨xs.set (0 : Int).toNat (⟨(rd_T56 xs 0).f0, r3⟩ : S56), a3, s3, fun k hk => ?_, h3, by rw [List.length_set]; omega⟩
  unfold spec_l07Draw.f
  simp only [e1 k (by omega), e2, e3, Option.bind_some]
  rw [if_neg d0, if_pos d1, if_pos (by omega)]
 by_cases d2 : r2 = 2
 ·obtain ⟨r, a', s', e, h', hl⟩ := loop (21 - xs.length) xs a2 s2 rfl (by omega) h2
  refine ⟨r, a', s', fun k hk => ?_, h', hl⟩
  unfold spec_l07Draw.f
  simp only [e1 k (by omega), e2, Option.bind_some]
  rw [if_neg d0, if_neg d1, if_pos d2]
  exact e k (by omega)
 by_cases d3 : r2 = 3
 ·refine ⟨xs.take (0 : Int).toNat, a2, s2, fun k hk => ?_, h2, Nat.zero_le _⟩
  unfold spec_l07Draw.f
  simp only [e1 k (by omega), e2, Option.bind_some]
  rw [if_neg d0, if_neg d1, if_neg d2, if_pos d3, if_pos (by omega)]
 ·refine ⟨xs, a2, s2, fun k hk => ?_, h2, by omega⟩
  unfold spec_l07Draw.f
  simp only [e1 k (by omega), e2, Option.bind_some]
  rw [if_neg d0, if_neg d1, if_neg d2, if_neg d3]
end Go.Proofs.Ytigkgihnijaefaa.F
namespace Go.Proofs.Ytigkgihnijaefaa.F
open Go.RowKit Go.Proofs.YtigkgihnijaefaaW.PrintWords Go.Proofs.YtigkgihnijaefaaW.PrintLast Go.Proofs.YtigkgihnijaefaaW.PrintMore
set_option linter.unusedVariables false
set_option linter.unusedSimpArgs false
theorem like_bars (xs : List S56) (hx : xs.length ≤ 4000000) (k : Nat) (hk : xs.length < k) : laws_likeBars.f k xs xs = some true := by
 have loop : ∀ d i k, xs.length - i = d → i ≤ xs.length → d < k → laws_likeBars.l0 k xs xs (i : Int) = some true := by
  intro d
  induction d with
  | zero =>
   intro i k hd hi hk
   obtain ⟨k, rfl⟩ : ∃ m, k = m + 1 := ⟨k - 1, by omega⟩
   simp only [laws_likeBars.l0]
   rw [if_neg (by omega)]
  | succ d ih =>
   intro i k hd hi hk
   obtain ⟨k, rfl⟩ : ∃ m, k = m + 1 := ⟨k - 1, by omega⟩
   simp only [laws_likeBars.l0]
   rw [if_pos (by omega), if_pos (by omega), if_pos (by omega), w64 (by omega)]
   simp only [BEq.rfl, Bool.not_true, Bool.or_self, Bool.false_eq_true, if_false]
   exact ih (i + 1) k (by omega) (by omega) (by omega)
 unfold laws_likeBars.f
 rw [if_pos rfl]
 exact loop xs.length 0 k (by omega) (by omega) hk
end Go.Proofs.Ytigkgihnijaefaa.F
namespace Go.Proofs.Ytigkgihnijaefaa.F
open Go.RowKit Go.Proofs.YtigkgihnijaefaaW.PrintWords Go.Proofs.YtigkgihnijaefaaW.PrintLast Go.Proofs.YtigkgihnijaefaaW.PrintMore
set_option linter.unusedVariables false
set_option linter.unusedSimpArgs false
def btx (b : S56) : ByteArray := (dcs 6 b.f0 ++ (⟨#[42]⟩ : ByteArray)) ++ dcs 6 b.f1
def goodBar (b : S56) : Prop := (1 ≤ b.f0 ∧ b.f0 ≤ 16) ∧ 100 ≤ b.f1 ∧ b.f1 ≤ 5000
theorem good_of {xs : List S56} (h : isScore xs = true) : ∀ b ∈ xs, goodBar b := fun b hb => by
 obtain ⟨i, hi, rfl⟩ := List.getElem_of_mem hb
 have := (isScore_true h).2.2 i hi
 unfold bt_at ln_at at this
 rw [List.getD_eq_getElem?_getD, List.getElem?_eq_getElem hi] at this
 simp only [Option.getD_some] at this
 unfold goodBar
 omega
theorem pts_map (xs : List S56) : ∀ n, n ≤ xs.length → pts xs n = (xs.take n).map btx
 | 0, _ => by unfold pts; simp
 | n + 1, h => by
  unfold pts
  rw [pts_map xs n (by omega), List.take_succ_eq_append_getElem (by omega), List.map_append]
  congr 1
  have e : xs.getD n z56 = xs[n] := by rw [List.getD_eq_getElem?_getD, List.getElem?_eq_getElem (by omega)]; rfl
  show [ptxt xs n] = [btx xs[n]]
  rw [← e]
  rfl
theorem btx_L (b : S56) : L (btx b) = joinL 42 [L (dcs 6 b.f0), L (dcs 6 b.f1)] := by
 unfold btx
 rw [L_app, L_app]
 show (L (dcs 6 b.f0) ++ [42]) ++ L (dcs 6 b.f1) = L (dcs 6 b.f0) ++ 42 :: L (dcs 6 b.f1)
 rw [List.append_assoc]
 rfl
theorem dig_of {b : S56} (h : goodBar b) : (∀ j, j < (dcs 6 b.f0).size → isDig (dcs 6 b.f0) j = true) ∧ ∀ j, j < (dcs 6 b.f1).size → isDig (dcs 6 b.f1) j = true := by
 unfold goodBar at h
 exact ⟨(dcs_dig 6 b.f0 (by omega) (by show _ < (10 ^ 6 : Int); omega) (by omega)).2.1, (dcs_dig 6 b.f1 (by omega) (by show _ < (10 ^ 6 : Int); omega) (by omega)).2.1⟩
theorem btx_size (b : S56) : (btx b).size ≤ 13 := by
 unfold btx
 rw [ByteArray.size_append, ByteArray.size_append]
 have h1 := dcs_size 6 b.f0
 have h2 := dcs_size 6 b.f1
 have h3 : (⟨#[42]⟩ : ByteArray).size = 1 := rfl
 omega
theorem btx_no {b : S56} (h : goodBar b) : (44 : UInt8) ∉ L (btx b) := by
 rw [btx_L]
 obtain ⟨d0, d1⟩ := dig_of h
 have a := no_byte d0 (c := 44) (by decide)
 have e := no_byte d1 (c := 44) (by decide)
 show 44 ∉ L (dcs 6 b.f0) ++ 42 :: L (dcs 6 b.f1)
 intro m
 rcases List.mem_append.1 m with x | x
 ·exact a x
 ·rcases List.mem_cons.1 x with y | y
  ·exact absurd y (by decide)
  ·exact e y
theorem piece_of {b : S56} (h : goodBar b) : (∀ k, 30 ≤ k → spec_l01Split.f k (btx b) 42 = some [dcs 6 b.f0, dcs 6 b.f1]) ∧ ∀ k, 200 ≤ k → spec_l01Numbers.f k [dcs 6 b.f0, dcs 6 b.f1] = some ([b.f0, b.f1], true) := by
 obtain ⟨d0, d1⟩ := dig_of h
 have hs := btx_size b
 refine ⟨fun k hk => ?_, fun k hk => ?_⟩
 ·exact split_of (c := 42) (s := btx b) (by omega) (ws := [dcs 6 b.f0, dcs 6 b.f1]) (by simp) (btx_L b).symm (fun x hx => by
   rcases List.mem_cons.1 hx with y | y
   ·rw [y]; exact no_byte d0 (by decide)
   ·rw [List.mem_singleton.1 y]; exact no_byte d1 (by decide)) k (by omega)
 ·unfold goodBar at h
  obtain ⟨k, rfl⟩ : ∃ m, k = m + 3 := ⟨k - 3, by omega⟩
  have w1 : wrap64 (0 + 1) = 1 := by rw [w64 (by omega)]; rfl
  have w2 : wrap64 (1 + 1) = 2 := by rw [w64 (by omega)]; rfl
  have r0 : rdOf ByteArray.empty [dcs 6 b.f0, dcs 6 b.f1] 0 = dcs 6 b.f0 := rfl
  have r1 : rdOf ByteArray.empty [dcs 6 b.f0, dcs 6 b.f1] 1 = dcs 6 b.f1 := rfl
  have len : (([dcs 6 b.f0, dcs 6 b.f1] : List ByteArray).length : Int) = 2 := rfl
  unfold spec_l01Numbers.f
  simp only [spec_l01Numbers.l0, len, r0, r1, w1, w2, signed_of (n := b.f0) (by omega) (by omega) (k + 2) (by omega), signed_of (n := b.f1) (by omega) (by omega) (k + 1) (by omega), Option.bind_some, if_true]
  rfl
theorem read_fwd (xs : List S56) (hx : isScore xs = true) : ∀ (d i : Nat) (k : Nat), xs.length - i = d → i ≤ xs.length → d + 300 ≤ k → spec_ReadScore.l0 k (xs.take i) (xs.map btx) (i : Int) = some (xs, 0) := by
 have hs := isScore_true hx
 have hg := good_of hx
 intro d
 induction d with
 | zero =>
  intro i k hd hi hk
  obtain ⟨k, rfl⟩ : ∃ m, k = m + 1 := ⟨k - 1, by omega⟩
  unfold spec_ReadScore.l0
  rw [List.length_map, if_neg (by omega), List.take_of_length_le (by omega), spec_score xs (by omega) k (by omega), hx]
  rfl
 | succ d ih =>
  intro i k hd hi hk
  obtain ⟨k, rfl⟩ : ∃ m, k = m + 1 := ⟨k - 1, by omega⟩
  have hl : i < xs.length := by omega
  have hr : rdOf ByteArray.empty (xs.map btx) (i : Int) = btx xs[i] := by
   unfold rdOf
   rw [Int.toNat_natCast, List.getD_eq_getElem?_getD, List.getElem?_map, List.getElem?_eq_getElem hl]
   rfl
  obtain ⟨p1, p2⟩ := piece_of (hg xs[i] (List.getElem_mem hl))
  have nx := ih (i + 1) k (by omega) (by omega) (by omega)
  rw [List.take_succ_eq_append_getElem hl] at nx
  unfold spec_ReadScore.l0
  rw [List.length_map, if_pos (by omega), if_pos (by omega), hr, p1 k (by omega)]
  simp only [Option.bind_some]
  rw [p2 k (by omega)]
  simp only [Option.bind_some, if_true]
  have len : (([xs[i].f0, xs[i].f1] : List Int).length : Int) = 2 := rfl
  have r0 : rd [xs[i].f0, xs[i].f1] 0 = xs[i].f0 := rfl
  have r1 : rd [xs[i].f0, xs[i].f1] 1 = xs[i].f1 := rfl
  simp only [len, r0, r1, if_true]
  rw [if_pos (by omega), if_pos (by omega), if_pos (by rw [List.length_take]; omega), w64 (n := (i : Int) + 1) (by omega)]
  exact nx
theorem read_inv (B : Nat) (hB : B ≤ 1000000) (ps : List ByteArray) (hp : ps.length ≤ 1000001) (hs : ∀ x ∈ ps, x.size ≤ B) (y : List S56) : ∀ (d i : Nat) (Y : List S56) (k : Nat), ps.length - i = d → i ≤ ps.length → Y.length = i → 5000000 + d ≤ k → spec_ReadScore.l0 k Y ps (i : Int) = some (y, 0) → isScore y = true ∧ y.length = ps.length ∧ y.take i = Y ∧ ∀ j, i ≤ j → j < ps.length → ps.getD j ByteArray.empty = btx (y.getD j z56) := by
 intro d
 induction d with
 | zero =>
  intro i Y k hd hi hY hk h
  obtain ⟨k, rfl⟩ : ∃ m, k = m + 1 := ⟨k - 1, by omega⟩
  unfold spec_ReadScore.l0 at h
  rw [if_neg (by omega), spec_score Y (by omega) k (by omega)] at h
  simp only [Option.bind_some] at h
  by_cases c : isScore Y = true
  ·rw [if_pos c] at h
   simp only [Option.some.injEq, Prod.mk.injEq] at h
   obtain ⟨rfl, _⟩ := h
   exact ⟨c, by omega, by rw [List.take_of_length_le (by omega)], fun j h1 h2 => absurd h2 (by omega)⟩
  ·rw [if_neg c] at h
   simp only [Option.some.injEq, Prod.mk.injEq] at h
   omega
 | succ d ih =>
  intro i Y k hd hi hY hk h
  obtain ⟨k, rfl⟩ : ∃ m, k = m + 1 := ⟨k - 1, by omega⟩
  have hm : (ps.getD i ByteArray.empty).size ≤ B := by
   rw [List.getD_eq_getElem?_getD, List.getElem?_eq_getElem (show i < ps.length by omega)]
   exact hs _ (List.getElem_mem _)
  have hr : rdOf ByteArray.empty ps (i : Int) = ps.getD i ByteArray.empty := by unfold rdOf; rw [Int.toNat_natCast]
  obtain ⟨ts, t0, t1, t2, t3, _⟩ := splitq (ps.getD i ByteArray.empty) 42 (by omega)
  obtain ⟨ns, ok, e1, e2, _⟩ := numbers_go ts (by omega) ts.length 0 [] (by omega) (by omega) rfl
  unfold spec_ReadScore.l0 at h
  rw [if_pos (by omega), if_pos (by omega), hr, show spec_l01Split.f k (ps.getD i ByteArray.empty) 42 = _ from t2 k (by omega)] at h
  simp only [Option.bind_some] at h
  rw [show spec_l01Numbers.f k ts = _ from e1 k (by omega)] at h
  simp only [Option.bind_some] at h
  cases ok with
  | false => rw [if_neg (by decide)] at h; simp only [Option.some.injEq, Prod.mk.injEq] at h; omega
  | true =>
   obtain ⟨l1, _, l3⟩ := e2 rfl
   rw [if_pos rfl] at h
   by_cases c2 : (ns.length : Int) = 2
   ·rw [if_pos c2, if_pos (by omega), if_pos (by omega), if_pos (by omega), w64 (n := (i : Int) + 1) (by omega)] at h
    have z := ih (i + 1) (Y ++ [(⟨rd ns 0, rd ns 1⟩ : S56)]) k (by omega) (by omega) (by rw [List.length_append, List.length_singleton]; omega) (by omega) h
    obtain ⟨z1, z2, z3, z4⟩ := z
    have hyl : i < y.length := by omega
    rw [List.take_succ_eq_append_getElem hyl] at z3
    obtain ⟨z5, z6⟩ := List.append_inj z3 (by rw [List.length_take]; omega)
    have ey : y[i] = (⟨rd ns 0, rd ns 1⟩ : S56) := by simpa using z6
    refine ⟨z1, z2, z5, fun j h1 h2 => ?_⟩
    by_cases e : j = i
    ·subst e
     have eg : y.getD j z56 = y[j] := by rw [List.getD_eq_getElem?_getD, List.getElem?_eq_getElem hyl]; rfl
     rw [eg]
     have gb := good_of z1 y[j] (List.getElem_mem hyl)
     rw [ey] at gb ⊢
     unfold goodBar at gb
     simp only at gb
     have s0 := signed_inv (z := ts.getD 0 ByteArray.empty) (v := rd ns 0) (by omega) (by omega) (fun k hk => l3 0 (by omega) (by omega) k hk)
     have s1 := signed_inv (z := ts.getD 1 ByteArray.empty) (v := rd ns 1) (by omega) (by omega) (fun k hk => l3 1 (by omega) (by omega) k hk)
     apply L_ext
     rw [btx_L, ← t3]
     simp only
     match ts, l1 with
     | [a, b], _ =>
      have a0 : ([a, b] : List ByteArray).getD 0 ByteArray.empty = a := rfl
      have b0 : ([a, b] : List ByteArray).getD 1 ByteArray.empty = b := rfl
      rw [a0] at s0
      rw [b0] at s1
      rw [← s0, ← s1]
      rfl
     | [], hh => exact absurd c2 (by intro z; rw [hh] at z; simp only [List.length_cons, List.length_nil] at z; omega)
     | [a], hh => exact absurd c2 (by intro z; rw [hh] at z; simp only [List.length_cons, List.length_nil] at z; omega)
     | a :: b :: u :: r, hh => exact absurd c2 (by intro z; rw [hh] at z; simp only [List.length_cons, List.length_nil] at z; omega)
    ·exact z4 j (by omega) h2
   ·rw [if_neg c2] at h; simp only [Option.some.injEq, Prod.mk.injEq] at h; omega
def stx (xs : List S56) : ByteArray := jnT (pts xs xs.length) (⟨#[44]⟩ : ByteArray) xs.length
theorem joinL_snoc (c : UInt8) (y : List UInt8) : ∀ xs : List (List UInt8), xs ≠ [] → joinL c (xs ++ [y]) = joinL c xs ++ c :: y
 | [], h => absurd rfl h
 | [x], _ => rfl
 | x :: z :: r, _ => by
  have ih := joinL_snoc c y (z :: r) (by simp)
  show x ++ c :: joinL c ((z :: r) ++ [y]) = (x ++ c :: joinL c (z :: r)) ++ c :: y
  rw [ih, List.append_assoc]
  rfl
theorem jnT_L (ws : List ByteArray) : ∀ n, n ≤ ws.length → L (jnT ws (⟨#[44]⟩ : ByteArray) n) = joinL 44 ((ws.take n).map L)
 | 0, _ => by unfold jnT; rw [List.take_zero]; rfl
 | n + 1, h => by
  have ih := jnT_L ws n (by omega)
  have e : ws.getD n ByteArray.empty = ws[n] := by rw [List.getD_eq_getElem?_getD, List.getElem?_eq_getElem (by omega)]; rfl
  rw [List.take_succ_eq_append_getElem (by omega), List.map_append, jnT, e]
  by_cases c : 0 < n
  ·rw [if_pos c, L_app, L_app, ih]
   show (_ ++ [44]) ++ L ws[n] = joinL 44 (_ ++ [L ws[n]])
   rw [joinL_snoc 44 _ _ (by
    intro z
    have := congrArg List.length z
    rw [List.length_map, List.length_take, List.length_nil] at this
    omega), List.append_assoc]
   rfl
  ·have n0 : n = 0 := by omega
   subst n0
   rw [if_neg c, L_app, ih]
   rfl
theorem stx_L {xs : List S56} : L (stx xs) = joinL 44 ((xs.map btx).map L) := by
 unfold stx
 have e := jnT_L (pts xs xs.length) xs.length (by rw [pts_len]; omega)
 rw [e, List.take_of_length_le (by rw [pts_len]; omega), pts_map xs xs.length (Nat.le_refl _), List.take_of_length_le (Nat.le_refl _)]
theorem stx_size {xs : List S56} (h : isScore xs = true) : (stx xs).size ≤ 3000 := by
 have hs := isScore_true h
 have z := jnT_size (pts xs xs.length) (⟨#[44]⟩ : ByteArray) 13 (by show 1 ≤ 100; omega) (pts_size xs xs.length) xs.length (by rw [pts_len]; omega)
 unfold stx
 have : xs.length * (13 + 100) ≤ 20 * 113 := Nat.mul_le_mul hs.2.1 (Nat.le_refl _)
 omega
theorem read_text {xs : List S56} (h : isScore xs = true) : ∀ k, 5000 ≤ k → spec_ReadScore.f k (stx xs) = some (xs, 0) := fun k hk => by
 have hs := isScore_true h
 have hz := stx_size h
 have hg := good_of h
 have sp := split_of (c := 44) (s := stx xs) (by omega) (ws := xs.map btx) (by
  intro z
  have := congrArg List.length z
  rw [List.length_map, List.length_nil] at this
  omega) stx_L.symm (fun x hx => by
  obtain ⟨b, hb, rfl⟩ := List.mem_map.1 hx
  exact btx_no (hg b hb)) k (by omega)
 unfold spec_ReadScore.f
 rw [show spec_l01Split.f k (stx xs) 44 = _ from sp]
 exact read_fwd xs h xs.length 0 k (by omega) (by omega) (by omega)
theorem text_read {s : ByteArray} (hs : s.size ≤ 1000000) {y : List S56} (h : ∃ k, 8000000 ≤ k ∧ spec_ReadScore.f k s = some (y, 0)) : isScore y = true ∧ stx y = s := by
 obtain ⟨k, hk, h⟩ := h
 obtain ⟨ps, p0, p1, p2, p3, _⟩ := splitq s 44 hs
 obtain ⟨_, q1, q2, q3, q4⟩ := split_is s 44 hs
 have same := (q3 k (by omega)).symm.trans (show spec_l01Split.f k s 44 = _ from p2 k (by omega))
 rw [Option.some.inj same] at q2
 unfold spec_ReadScore.f at h
 rw [show spec_l01Split.f k s 44 = _ from p2 k (by omega)] at h
 have z := read_inv s.size hs ps (by omega) q2 y ps.length 0 [] k (by omega) (by omega) rfl (by omega) h
 refine ⟨z.1, L_ext ?_⟩
 rw [stx_L, ← p3]
 congr 2
 apply List.ext_getElem
 ·rw [List.length_map]; exact z.2.1
 ·intro j h1 h2
  have e := z.2.2.2 j (Nat.zero_le _) h2
  rw [List.length_map] at h1
  rw [List.getD_eq_getElem?_getD, List.getElem?_eq_getElem h2, List.getD_eq_getElem?_getD, List.getElem?_eq_getElem h1] at e
  rw [List.getElem_map]
  exact e.symm
theorem damage_ok {c : List Int} (hc : Code c) {a s : Int} (h : St c a s) (t : ByteArray) (ht : t.size ≤ 10000) : ∃ u a' s', spec_l01Damage.f c a s t = some (u, a', s') ∧ St c a' s' ∧ u.size ≤ 30000 := by
 obtain ⟨r1, a1, s1, e1, h1, b1, b2⟩ := next_ok hc h ((t.size : Int) + 1) (by omega)
 obtain ⟨r2, a2, s2, e2, h2, _⟩ := next_ok hc h1 8 (by omega)
 unfold spec_l01Damage.f
 rw [w64 (n := (t.size : Int) + 1) (by omega), e1]
 simp only [Option.bind_some]
 rw [e2]
 simp only [Option.bind_some]
 have x0 : ∀ i j : Nat, (t.extract i j).size ≤ t.size := fun i j => by rw [ByteArray.size_extract]; omega
 by_cases c0 : r2 = 0
 ·rw [if_pos c0, if_pos b1, if_pos (by omega)]
  have := x0 0 r1.toNat
  exact ⟨_, _, _, rfl, h2, by omega⟩
 rw [if_neg c0]
 by_cases c1 : r2 = 1
 ·obtain ⟨r3, a3, s3, e3, h3, b3, b4⟩ := next_ok hc h2 8 (by omega)
  rw [if_pos c1, if_pos b1, if_pos (by omega), e3]
  simp only [Option.bind_some]
  have len : (([(⟨#[48]⟩ : ByteArray), (⟨#[35]⟩ : ByteArray), (⟨#[46]⟩ : ByteArray), (⟨#[47]⟩ : ByteArray), (⟨#[32]⟩ : ByteArray), (⟨#[97]⟩ : ByteArray), (⟨#[45]⟩ : ByteArray), (⟨#[10]⟩ : ByteArray)] : List ByteArray).length : Int) = 8 := rfl
  have one : ∀ x ∈ ([(⟨#[48]⟩ : ByteArray), (⟨#[35]⟩ : ByteArray), (⟨#[46]⟩ : ByteArray), (⟨#[47]⟩ : ByteArray), (⟨#[32]⟩ : ByteArray), (⟨#[97]⟩ : ByteArray), (⟨#[45]⟩ : ByteArray), (⟨#[10]⟩ : ByteArray)] : List ByteArray), x.size = 1 := by
   intro x hx
   simp only [List.mem_cons, List.not_mem_nil, or_false] at hx
   rcases hx with rfl | rfl | rfl | rfl | rfl | rfl | rfl | rfl <;> rfl
  rw [len]
  generalize ([(⟨#[48]⟩ : ByteArray), (⟨#[35]⟩ : ByteArray), (⟨#[46]⟩ : ByteArray), (⟨#[47]⟩ : ByteArray), (⟨#[32]⟩ : ByteArray), (⟨#[97]⟩ : ByteArray), (⟨#[45]⟩ : ByteArray), (⟨#[10]⟩ : ByteArray)] : List ByteArray) = ys at one len ⊢
  have hr : (rdOf ByteArray.empty ys r3).size = 1 := by
   unfold rdOf
   rw [List.getD_eq_getElem?_getD, List.getElem?_eq_getElem (show r3.toNat < ys.length by omega)]
   exact one _ (List.getElem_mem _)
  have y1 := x0 0 r1.toNat
  have y2 := x0 r1.toNat t.size
  rw [if_pos b3, if_pos (by omega), if_pos (by omega), if_pos (by rw [ByteArray.size_append]; omega)]
  exact ⟨_, _, _, rfl, h3, by rw [ByteArray.size_append, ByteArray.size_append]; omega⟩
 rw [if_neg c1]
 by_cases c2 : r2 = 2
 ·rw [if_pos c2]
  by_cases c3 : r1 < (t.size : Int)
  ·have y1 := x0 0 r1.toNat
   have y2 := x0 (r1 + 1).toNat t.size
   rw [if_pos c3, if_pos b1, if_pos (by omega), w64 (n := r1 + 1) (by omega), if_pos (by omega), if_pos (by omega), if_pos (by omega)]
   exact ⟨_, _, _, rfl, h2, by rw [ByteArray.size_append]; omega⟩
  ·rw [if_neg c3]
   exact ⟨t, _, _, rfl, h2, by omega⟩
 ·rw [if_neg c2]
  exact ⟨t, _, _, rfl, h2, by omega⟩
theorem pure_FnScoreTexts : laws_FnScoreTexts.Pure := by
 intro c _ _ hb
 by_cases big : (c.length : Int) > 4096
 ·refine ⟨0, ?_⟩
  unfold laws_FnScoreTexts.f laws_big.f
  simp only [Option.bind_some, decide_eq_true big, if_true]
 have hc : Code c := code_of big hb
 obtain ⟨z, e0, h0⟩ := from_ok hc
 obtain ⟨xs, a1, s1, e1, h1, lx⟩ := score_draw hc h0
 have d1 : ∀ k, 100 ≤ k → spec_DrawScoreText.f k c = some xs := fun k hk => by
  unfold spec_DrawScoreText.f
  rw [e0 k (by omega), Option.bind_some]
  dsimp only
  rw [e1 k (by omega), Option.bind_some]
 obtain ⟨s, hs, d2⟩ : ∃ s : ByteArray, s.size ≤ 1000000 ∧ ∀ k, 200 ≤ k → spec_DrawReadScore.f k c = some s := by
  obtain ⟨ys, a2, s2, e2, h2, g1, g2, g3⟩ := score_good hc h0
  have hy : isScore ys = true := isScore_intro g1 (by omega) (fun i hi => by
   have := g3 (ys.getD i z56) (by rw [List.getD_eq_getElem?_getD, List.getElem?_eq_getElem hi]; exact List.getElem_mem hi)
   unfold bt_at ln_at
   omega)
  have hz := stx_size hy
  have ht : ∀ k, 200 ≤ k → spec_l07Text.f k ys = some (stx ys) := fun k hk => spec_text hy ys.length 0 k (by omega) (by omega) (by omega)
  obtain ⟨r3, a3, s3, e3, h3, _⟩ := next_ok hc h2 3 (by omega)
  by_cases c0 : r3 = 0
  ·obtain ⟨u, a4, s4, e4, h4, hu⟩ := damage_ok hc h3 (stx ys) (by omega)
   refine ⟨u, by omega, fun k hk => ?_⟩
   unfold spec_DrawReadScore.f
   rw [e0 k (by omega), Option.bind_some]
   dsimp only
   rw [e2 k (by omega), Option.bind_some]
   dsimp only
   rw [ht k hk, Option.bind_some, e3, Option.bind_some, if_pos c0]
   dsimp only
   rw [e4, Option.bind_some]
  ·refine ⟨stx ys, by omega, fun k hk => ?_⟩
   unfold spec_DrawReadScore.f
   rw [e0 k (by omega), Option.bind_some]
   dsimp only
   rw [e2 k (by omega), Option.bind_some]
   dsimp only
   rw [ht k hk, Option.bind_some, e3, Option.bind_some, if_neg c0]
 obtain ⟨y, one, ly, ⟨K1, f1⟩, ⟨K2, f2⟩⟩ := readscore_ex s hs
 obtain ⟨t, bad, ht1, ht2, hsc, hbad⟩ : ∃ t bad, (∀ k, 200 ≤ k → spec_ScoreText.f k xs = some (t, bad)) ∧ (∀ k, 200 ≤ k → impl_ScoreText.f k xs = some (t, bad)) ∧ (isScore xs != (bad == 0)) = false ∧ (bad = 0 → isScore xs = true ∧ t = stx xs) := by
  cases h : isScore xs with
  | false =>
   refine ⟨(⟨#[]⟩ : ByteArray), 1, fun k hk => ?_, fun k hk => ?_, rfl, fun x => absurd x (by decide)⟩
   ·unfold spec_ScoreText.f
    rw [spec_score xs (by omega) k (by omega), h]; rfl
   ·unfold impl_ScoreText.f
    rw [impl_score xs (by omega) k (by omega), h]; rfl
  | true => exact ⟨stx xs, 0, fun k hk => (scoretext_is h).1 k (by omega), fun k hk => (scoretext_is h).2 k (by omega), rfl, fun _ => ⟨rfl, rfl⟩⟩
 obtain ⟨k0, back⟩ : ∃ K, bad = 0 → ∀ k, K ≤ k → impl_ReadScore.f k t = some (xs, 0) := by
  by_cases c0 : bad = 0
  ·obtain ⟨hx, rfl⟩ := hbad c0
   have hz := stx_size hx
   obtain ⟨q1, q2, _, ⟨K, g1⟩, ⟨K', g2⟩⟩ := readscore_ex (stx xs) (by omega)
   have e : spec_ReadScore.f (K + 5000) (stx xs) = some (q1, q2) := g1 (K + 5000) (by omega)
   rw [read_text hx (K + 5000) (by omega)] at e
   simp only [Option.some.injEq, Prod.mk.injEq] at e
   obtain ⟨rfl, rfl⟩ := e
   exact ⟨K', fun _ k hk => g2 k hk⟩
  ·exact ⟨0, fun x => absurd x c0⟩
 obtain ⟨k, hk⟩ : ∃ k, k = K1 + K2 + k0 + 9000000 := ⟨_, rfl⟩
 refine ⟨k + 3, ?_⟩
 unfold laws_FnScoreTexts.f laws_big.f
 simp only [Option.bind_some, decide_eq_false big, Bool.false_eq_true, if_false, d1 (k + 3) (by omega), d2 (k + 3) (by omega), ht1 (k + 3) (by omega), ht2 (k + 3) (by omega), show spec_ReadScore.f (k + 3) s = _ from f1 (k + 3) (by omega), show impl_ReadScore.f (k + 3) s = _ from f2 (k + 3) (by omega), if_true, like_bars y (by omega) (k + 3) (by omega), impl_score xs (by omega) (k + 3) (by omega), hsc]
 have fin : laws_FnScoreTexts.j1 (k + 2) xs t bad = some true := by
  simp only [laws_FnScoreTexts.j1]
  by_cases c0 : bad = 0
  ·rw [if_pos c0, back c0 (k + 1) (by omega)]
   simp only [Option.bind_some, if_true]
   rw [like_bars xs (by omega) (k + 1) (by omega)]
   rfl
  ·rw [if_neg c0]
 simp only [laws_FnScoreTexts.j0, Bool.false_eq_true, if_false]
 by_cases c0 : one = 0
 ·subst c0
  obtain ⟨g1, g2⟩ := text_read hs ⟨k + 3, by omega, f1 (k + 3) (by omega)⟩
  rw [if_pos rfl, show impl_ScoreText.f (k + 2) y = some (stx y, 0) from (scoretext_is g1).2 (k + 2) (by omega), g2]
  simp only [Option.bind_some, if_true]
  exact fin
 ·rw [if_neg c0]
  exact fin
end Go.Proofs.Ytigkgihnijaefaa.F
namespace Go.Proofs.Ytigkgihnijaefaa.Pure
theorem FnScoreTexts : Go.Proofs.Ytigkgihnijaefaa.F.laws_FnScoreTexts.Pure := Go.Proofs.Ytigkgihnijaefaa.F.pure_FnScoreTexts
end Go.Proofs.Ytigkgihnijaefaa.Pure
namespace Go.Proofs.Ytigkgihnijaefaa.F
end Go.Proofs.Ytigkgihnijaefaa.F
