import Derived.Test.YtnlbaflbhicooaaJFnExactMayMeet5
import Derived.Below
import Derived.Deep.Draws
import Derived.Deep.AppendLies
import Derived.Maps.AppendAt
import Derived.OwnWalk
import Derived.Laws.BytesArg
import Derived.Laws.MakeOwn
import Derived.Laws.OwnMore
import Derived.Tactics
import Derived.Lib.ConvBytes
import Derived.Laws.Slices
import Derived.WalkKit
import Derived.KernelRfl
import Derived.RowKit3
import Derived.Deep.LoopGhost
import Derived.Deep.QuietTactic
import Derived.BigQuiet
import Derived.WideLaws
import Derived.Deep.DeepCutAuto
import Derived.Deep.CutBlock
import Derived.Deep.RegionHeld3
import Derived.Lib.AppendStr
import Derived.ArgAppend
import Derived.Laws.IdiomCopy
import Derived.RowKit
import Derived.OrdersHeld
import Derived.Laws.BitsLemmas
import Derived.Laws.StructEq
import Derived.Test.YtnlbaflbhicooaaProg
import Derived.ChangeSlices
import Derived.OpenShut
import Derived.Laws.Cover1
namespace Go.Proofs.Ytnlbaflbhicooaa.F
open Go.RowKit Go.Proofs.YtnlbaflbhicooaaW.PrintWords Go.Proofs.YtnlbaflbhicooaaW.PrintLast Go.Proofs.YtnlbaflbhicooaaW.PrintMore
attribute [local go_sem] max2_int min2_int max_two min_two max_three min_three max_four min_four   -- for this text's walks alone
set_option linter.unusedVariables false
set_option linter.unusedSimpArgs false
def impl_AreArticles.l0 : Nat → List (S92) → List (S92) → Int → Int → Option (Bool)
 | 0, _, _, _, _ => none
 | k + 1, x0, x8, x9, x10 => if x10 < x9 then (if 0 ≤ x10 then (if x10 < (x8.length : Int) then ((impl_IsArticle.f k ((rd_T92 x8 x10).f0) ((rd_T92 x8 x10).f1) ((rd_T92 x8 x10).f2) ((rd_T92 x8 x10).f3) ((rd_T92 x8 x10).f4) ((rd_T92 x8 x10).f5) ((rd_T92 x8 x10).f6) ((rd_T92 x8 x10).f7) ((rd_T92 x8 x10).f8)).bind fun t302 => (if t302 = true then (if x10 > 0 then (if 0 ≤ (wrap64 (x10 - 1)) then (if (wrap64 (x10 - 1)) < (x0.length : Int) then (if ((Op.bytesLess (((rd_T92 x0 (wrap64 (x10 - 1))).f0).toList) (((rd_T92 x8 x10).f0).toList)) = true) then (impl_AreArticles.l0 k x0 x8 x9 (wrap64 (x10 + 1))) else (some false)) else (none)) else (none)) else (impl_AreArticles.l0 k x0 x8 x9 (wrap64 (x10 + 1)))) else (some false))) else (none)) else (none)) else (some true)
def impl_AreArticles.f (k : Nat) (l0 : List (S92)) : Option (Bool) := if (l0.length : Int) > 12 then (some false) else (impl_AreArticles.l0 k l0 l0 (l0.length : Int) 0)
def impl_AreArticles.T6 : Bool × List (List Nat × List Nat) := (true, [([], []), ([0], [0]), ([1], [1]), ([2, 1], [2]), ([3], [3]), ([4, 3], [3, 4]), ([5, 3, 3], [3, 5]), ([6], [6]), ([6], [6]), ([8, 6], [6, 8]), ([7, 9, 6], [6, 7, 9]), ([10, 6], [6, 10]), ([11, 6], [6, 11]), ([6], [6]), ([13, 6], [6, 13]), ([12, 14, 6], [6, 12, 14]), ([6, 15, 3], [3, 6, 15]), ([3, 16], [3, 16])])
def impl_AreArticles.B6 : List Nat := [0, 1, 3, 7, 15, 31, 63, 127, 127, 383, 1023, 2047, 4095, 127, 8319, 32767, 65535, 131071]
theorem impl_AreArticles.tab6 : rtab .any (opsOf Try.f97 6) = impl_AreArticles.T6 := by kernel_rfl
theorem impl_AreArticles.bits6 : waitsOk impl_AreArticles.T6.2 impl_AreArticles.B6 = true := by kernel_rfl
set_option maxHeartbeats 8000000 in
set_option maxRecDepth 100000 in
theorem impl_AreArticles.calls (k : Nat) (A0 : Option Addr) (c0 : Nat) (l0 : List (S92)) (r : Bool) (w : World) (hr0 : Kd.C k92 w A0 l0.length l0) (hc0 : l0.length ≤ c0) (h : impl_AreArticles.f k l0 = some r) :
  Calls Try.prog 97 #[.slice A0 l0.length c0] w fun e w' => e = .returned (.bool r) ∧ Below w.heap.size w w' := by
 have hu92 := Try.underlying92
 have HR0 := Aside0.mk hr0
 have HC0 := Aside0.mk hc0
 clear hr0 hc0
 have HB := Aside0.mk (Below.refl w.heap.size w)
 have H : (if (l0.length : Int) > 12 then (some false) else (impl_AreArticles.l0 k l0 l0 (l0.length : Int) 0)) = some r := h
 clear h
 by_cases c2 : (l0.length : Int) > 12
 ·rw [if_pos c2] at H
  have c2b0 : decide (12 < (l0.length : Int)) = true := decide_eq_true c2
  have c2b1 : decide (12 < l0.length) = true := decide_eq_true (by omega)
  clear c2
  obtain rfl := Option.some.inj H
  go_enter Try.func97, Try.ntmps97
  go_wp2
  go_ret
  exact ⟨Zk, Zc⟩
 ·rw [if_neg c2] at H
  have c2b0 : decide (12 < (l0.length : Int)) = false := decide_eq_false c2
  have c2b1 : decide (12 < l0.length) = false := decide_eq_false (by omega)
  clear c2
  have H' := Aside0.mk H
  clear H
  go_enter Try.func97, Try.ntmps97
  go_wp2
  go_loopg [10] k (fun kq v10 w' => ∃ (x10_1 : Int), v10 = .int .i64 x10_1 ∧ Aside0 (impl_AreArticles.l0 kq l0 l0 (l0.length : Int) x10_1 = some r) ∧ Aside0 (kq ≤ k) ∧ Aside0 (Below w.heap.size w w'))
  case atStart => exact ⟨(0), Za, H', ⟨Nat.le_refl _⟩, ⟨Zc⟩⟩
  case round =>
   clear H'
   try clear c2
   try clear c2b0
   try clear c2b1
   try clear p2
   obtain ⟨x10_1, rfl, HA, HK1, HB⟩ := hrel
   cases gk with
   | zero => exact absurd HA.out (by simp [impl_AreArticles.l0])
   | succ k1 =>
    have H := HA.out
    clear HA
    simp only [impl_AreArticles.l0] at H
    by_cases c3 : x10_1 < (l0.length : Int)
    ·rw [if_pos c3] at H
     have c3b0 : decide (x10_1 < (l0.length : Int)) = true := decide_eq_true c3
     clear c3
     by_cases c4 : 0 ≤ x10_1
     ·rw [if_pos c4] at H
      have c4b0 : decide (0 ≤ x10_1) = true := decide_eq_true c4
      clear c4
      by_cases c5 : x10_1 < (l0.length : Int)
      ·rw [if_pos c5] at H
       have c5b0 : decide (x10_1 < (l0.length : Int)) = true := decide_eq_true c5
       clear c5
       replace H := Option.bind_eq_some_iff.mp H
       obtain ⟨t302, A60, H⟩ := H
       replace H : (if t302 = true then (if x10_1 > 0 then (if 0 ≤ (wrap64 (x10_1 - 1)) then (if (wrap64 (x10_1 - 1)) < (l0.length : Int) then (if ((Op.bytesLess (((rd_T92 l0 (wrap64 (x10_1 - 1))).f0).toList) (((rd_T92 l0 x10_1).f0).toList)) = true) then (impl_AreArticles.l0 k1 l0 l0 (l0.length : Int) (wrap64 (x10_1 + 1))) else (some false)) else (none)) else (none)) else (impl_AreArticles.l0 k1 l0 l0 (l0.length : Int) (wrap64 (x10_1 + 1)))) else (some false)) = some r := H
       have A6 := Aside0.mk A60
       clear A60
       by_cases c7 : t302 = true
       ·subst c7
        have H1 : (if x10_1 > 0 then (if 0 ≤ (wrap64 (x10_1 - 1)) then (if (wrap64 (x10_1 - 1)) < (l0.length : Int) then (if ((Op.bytesLess (((rd_T92 l0 (wrap64 (x10_1 - 1))).f0).toList) (((rd_T92 l0 x10_1).f0).toList)) = true) then (impl_AreArticles.l0 k1 l0 l0 (l0.length : Int) (wrap64 (x10_1 + 1))) else (some false)) else (none)) else (none)) else (impl_AreArticles.l0 k1 l0 l0 (l0.length : Int) (wrap64 (x10_1 + 1)))) = some r := by rw [if_pos rfl] at H; exact H
        clear H
        have H := H1
        clear H1
        by_cases c8 : x10_1 > 0
        ·rw [if_pos c8] at H
         have c8b0 : decide (0 < x10_1) = true := decide_eq_true c8
         clear c8
         obtain ⟨ji9, hji9⟩ : ∃ j_ : Int, (wrap64 (x10_1 - 1)) = j_ := ⟨_, rfl⟩
         replace H : (if 0 ≤ (ji9) then (if (ji9) < (l0.length : Int) then (if ((Op.bytesLess (((rd_T92 l0 (ji9)).f0).toList) (((rd_T92 l0 x10_1).f0).toList)) = true) then (impl_AreArticles.l0 k1 l0 l0 (l0.length : Int) (wrap64 (x10_1 + 1))) else (some false)) else (none)) else (none)) = some r := by first | (rw [hji9] at H; exact H) | (simp only [hji9] at H ⊢; exact H)
         (try rw [hji9] at A6)
         have hji9w : (IntKind.i64.wrap (x10_1 - 1)) = ji9 := (i64_w _).trans hji9
         by_cases c10 : 0 ≤ (ji9)
         ·rw [if_pos c10] at H
          have c10b0 : decide (0 ≤ (ji9)) = true := decide_eq_true c10
          clear c10
          by_cases c11 : (ji9) < (l0.length : Int)
          ·rw [if_pos c11] at H
           have c11b0 : decide ((ji9) < (l0.length : Int)) = true := decide_eq_true c11
           clear c11
           by_cases c12 : ((Op.bytesLess (((rd_T92 l0 (ji9)).f0).toList) (((rd_T92 l0 x10_1).f0).toList)) = true)
           ·rw [if_pos c12] at H
            have c12b0 : (Op.bytesLess (((rd_T92 l0 (ji9)).f0).toList) (((rd_T92 l0 x10_1).f0).toList)) = true := c12
            clear c12
            have H' := Aside0.mk H
            clear H
            have p300 : 0 ≤ (x10_1 : Int) := of_decide_eq_true Zp
            have q300 : x10_1 < (l0.length : Int) := of_decide_eq_true Zp
            obtain ⟨ad300, e300, hx300_0, hx300_1, hx300_2, hx300_3, hx300_4, hx300_5, hx300_6, hx300_7, hx300_8⟩ := at_T92 HR0.out x10_1 p300 q300
            cases e300
            replace hx300_0 := cbH HB hx300_0
            replace hx300_1 := cbH HB hx300_1
            replace hx300_2 := cbH HB hx300_2
            replace hx300_3 := cbH HB hx300_3
            replace hx300_4 := cbH HB hx300_4
            replace hx300_5 := cbH HB hx300_5
            replace hx300_6 := cbH HB hx300_6
            replace hx300_7 := cbH HB hx300_7
            replace hx300_8 := cbH HB hx300_8
            replace p300 := eq_true p300
            replace q300 := eq_true q300
            try go_wp2_with (first | ((with_reducible refine gate_dst (N := 4) rfl ?_); refine box_event ?hg (N := 4) ?hd (cs := #[.string (⟨#[]⟩ : ByteArray), .int .i64 0, .int .i64 0, .int .i64 0, .int .i64 0, .int .i64 0, .int .i64 0, .int .i64 0, .int .i64 0]) (t := 92) ?hr ?_; (case hd => rfl); (case hg => rfl); (case hr => first | (go_simp; done) | (go_simp; rfl)); intro gb301 hg w13 hbox hb; have n0_ := Aside0.mk (below_step Zc hb); have n1_ := Aside0.mk (hbox); have n2_ := Aside0.mk ((Zd : w.heap.size ≤ gb301)); have n3_ := Aside0.mk ((Zd : w.heap.size ≤ gb301)); clear HB; have HB := n0_; have BK301 := n1_; have GW301 := n2_; have GE301 := n3_; clear n0_ n1_ n2_ n3_; clear hb hbox hg; obtain ⟨hcz14_0, hcz14_1, hcz14_2, hcz14_3, hcz14_4, hcz14_5, hcz14_6, hcz14_7, hcz14_8, hfz14_0, hfz14_1, hfz14_2, hfz14_3, hfz14_4, hfz14_5, hfz14_6, hfz14_7, hfz14_8⟩ := cz9 BK301))
            have n0_ : Aside0 ((((((((((w13.setCell ⟨gb301, 0, none⟩ (.string ((rd_T92 l0 x10_1).f0))).setCell ⟨gb301, 1, none⟩ (.int .i64 ((rd_T92 l0 x10_1).f1))).setCell ⟨gb301, 2, none⟩ (.int .i64 ((rd_T92 l0 x10_1).f2))).setCell ⟨gb301, 3, none⟩ (.int .i64 ((rd_T92 l0 x10_1).f3))).setCell ⟨gb301, 4, none⟩ (.int .i64 ((rd_T92 l0 x10_1).f4))).setCell ⟨gb301, 5, none⟩ (.int .i64 ((rd_T92 l0 x10_1).f5))).setCell ⟨gb301, 6, none⟩ (.int .i64 ((rd_T92 l0 x10_1).f6))).setCell ⟨gb301, 7, none⟩ (.int .i64 ((rd_T92 l0 x10_1).f7))).setCell ⟨gb301, 8, none⟩ (.int .i64 ((rd_T92 l0 x10_1).f8))).heap[gb301]? = some (.cells #[.string ((rd_T92 l0 x10_1).f0), .int .i64 ((rd_T92 l0 x10_1).f1), .int .i64 ((rd_T92 l0 x10_1).f2), .int .i64 ((rd_T92 l0 x10_1).f3), .int .i64 ((rd_T92 l0 x10_1).f4), .int .i64 ((rd_T92 l0 x10_1).f5), .int .i64 ((rd_T92 l0 x10_1).f6), .int .i64 ((rd_T92 l0 x10_1).f7), .int .i64 ((rd_T92 l0 x10_1).f8)] 92 (0, 0))) := ⟨(have z0_ := BK301; Zbe)⟩
            have n1_ : Aside0 (Below w.heap.size w (((((((((w13.setCell ⟨gb301, 0, none⟩ (.string ((rd_T92 l0 x10_1).f0))).setCell ⟨gb301, 1, none⟩ (.int .i64 ((rd_T92 l0 x10_1).f1))).setCell ⟨gb301, 2, none⟩ (.int .i64 ((rd_T92 l0 x10_1).f2))).setCell ⟨gb301, 3, none⟩ (.int .i64 ((rd_T92 l0 x10_1).f3))).setCell ⟨gb301, 4, none⟩ (.int .i64 ((rd_T92 l0 x10_1).f4))).setCell ⟨gb301, 5, none⟩ (.int .i64 ((rd_T92 l0 x10_1).f5))).setCell ⟨gb301, 6, none⟩ (.int .i64 ((rd_T92 l0 x10_1).f6))).setCell ⟨gb301, 7, none⟩ (.int .i64 ((rd_T92 l0 x10_1).f7))).setCell ⟨gb301, 8, none⟩ (.int .i64 ((rd_T92 l0 x10_1).f8)))) := ⟨(have z0_ := GE301; Zf)⟩
            (try clear BK301)
            (try clear HB)
            generalize (((((((((w13.setCell ⟨gb301, 0, none⟩ (.string ((rd_T92 l0 x10_1).f0))).setCell ⟨gb301, 1, none⟩ (.int .i64 ((rd_T92 l0 x10_1).f1))).setCell ⟨gb301, 2, none⟩ (.int .i64 ((rd_T92 l0 x10_1).f2))).setCell ⟨gb301, 3, none⟩ (.int .i64 ((rd_T92 l0 x10_1).f3))).setCell ⟨gb301, 4, none⟩ (.int .i64 ((rd_T92 l0 x10_1).f4))).setCell ⟨gb301, 5, none⟩ (.int .i64 ((rd_T92 l0 x10_1).f5))).setCell ⟨gb301, 6, none⟩ (.int .i64 ((rd_T92 l0 x10_1).f6))).setCell ⟨gb301, 7, none⟩ (.int .i64 ((rd_T92 l0 x10_1).f7))).setCell ⟨gb301, 8, none⟩ (.int .i64 ((rd_T92 l0 x10_1).f8))) = w15 at n0_ n1_ ⊢
            have BK301 := n0_
            have HB := n1_
            clear n0_ n1_
            have n0_ := Aside0.mk (blk_drew BK301.out)
            have n1_ := Aside0.mk (below_drew1 HB.out)
            clear BK301
            clear HB
            have BK301 := n0_
            have HB := n1_
            clear n0_ n1_
            have p303 : 0 ≤ ((ji9) : Int) := of_decide_eq_true Zp
            have q303 : (ji9) < (l0.length : Int) := of_decide_eq_true Zp
            obtain ⟨ad303, e303, hx303_0, hx303_1, hx303_2, hx303_3, hx303_4, hx303_5, hx303_6, hx303_7, hx303_8⟩ := at_T92 HR0.out (ji9) p303 q303
            have hw303_8 := hx303_8
            have hw303_7 := hx303_7
            have hw303_6 := hx303_6
            have hw303_5 := hx303_5
            have hw303_4 := hx303_4
            have hw303_3 := hx303_3
            have hw303_2 := hx303_2
            have hw303_1 := hx303_1
            have hw303_0 := hx303_0
            obtain rfl : ad300 = ad303 := (by injection e303)
            replace hx303_0 := cbH HB hx303_0
            replace hx303_1 := cbH HB hx303_1
            replace hx303_2 := cbH HB hx303_2
            replace hx303_3 := cbH HB hx303_3
            replace hx303_4 := cbH HB hx303_4
            replace hx303_5 := cbH HB hx303_5
            replace hx303_6 := cbH HB hx303_6
            replace hx303_7 := cbH HB hx303_7
            replace hx303_8 := cbH HB hx303_8
            replace p303 := eq_true p303
            replace q303 := eq_true q303
            refine start_ (n := 18) (S := fun w' => w'.cell? ⟨gb301, 0, none⟩ = some (.string ((rd_T92 l0 x10_1).f0)) ∧ w'.cell? ⟨gb301, 1, none⟩ = some (.int .i64 ((rd_T92 l0 x10_1).f1)) ∧ w'.cell? ⟨gb301, 2, none⟩ = some (.int .i64 ((rd_T92 l0 x10_1).f2)) ∧ w'.cell? ⟨gb301, 3, none⟩ = some (.int .i64 ((rd_T92 l0 x10_1).f3)) ∧ w'.cell? ⟨gb301, 4, none⟩ = some (.int .i64 ((rd_T92 l0 x10_1).f4)) ∧ w'.cell? ⟨gb301, 5, none⟩ = some (.int .i64 ((rd_T92 l0 x10_1).f5)) ∧ w'.cell? ⟨gb301, 6, none⟩ = some (.int .i64 ((rd_T92 l0 x10_1).f6)) ∧ w'.cell? ⟨gb301, 7, none⟩ = some (.int .i64 ((rd_T92 l0 x10_1).f7)) ∧ w'.cell? ⟨gb301, 8, none⟩ = some (.int .i64 ((rd_T92 l0 x10_1).f8)) ∧ w'.cell? (ad300.add (((ji9)).toNat * 9)) = some (.string ((rd_T92 l0 (ji9)).f0)) ∧ w'.cell? ⟨(ad300.add (((ji9)).toNat * 9)).block, (ad300.add (((ji9)).toNat * 9)).off + 1, none⟩ = some (.int .i64 ((rd_T92 l0 (ji9)).f1)) ∧ w'.cell? ⟨(ad300.add (((ji9)).toNat * 9)).block, (ad300.add (((ji9)).toNat * 9)).off + 2, none⟩ = some (.int .i64 ((rd_T92 l0 (ji9)).f2)) ∧ w'.cell? ⟨(ad300.add (((ji9)).toNat * 9)).block, (ad300.add (((ji9)).toNat * 9)).off + 3, none⟩ = some (.int .i64 ((rd_T92 l0 (ji9)).f3)) ∧ w'.cell? ⟨(ad300.add (((ji9)).toNat * 9)).block, (ad300.add (((ji9)).toNat * 9)).off + 4, none⟩ = some (.int .i64 ((rd_T92 l0 (ji9)).f4)) ∧ w'.cell? ⟨(ad300.add (((ji9)).toNat * 9)).block, (ad300.add (((ji9)).toNat * 9)).off + 5, none⟩ = some (.int .i64 ((rd_T92 l0 (ji9)).f5)) ∧ w'.cell? ⟨(ad300.add (((ji9)).toNat * 9)).block, (ad300.add (((ji9)).toNat * 9)).off + 6, none⟩ = some (.int .i64 ((rd_T92 l0 (ji9)).f6)) ∧ w'.cell? ⟨(ad300.add (((ji9)).toNat * 9)).block, (ad300.add (((ji9)).toNat * 9)).off + 7, none⟩ = some (.int .i64 ((rd_T92 l0 (ji9)).f7)) ∧ w'.cell? ⟨(ad300.add (((ji9)).toNat * 9)).block, (ad300.add (((ji9)).toNat * 9)).off + 8, none⟩ = some (.int .i64 ((rd_T92 l0 (ji9)).f8))) (ds := []) (bT 18 0) Zj rfl rfl ⟨(blk_cell BK301.out 0).trans rfl, (blk_cell BK301.out 1).trans rfl, (blk_cell BK301.out 2).trans rfl, (blk_cell BK301.out 3).trans rfl, (blk_cell BK301.out 4).trans rfl, (blk_cell BK301.out 5).trans rfl, (blk_cell BK301.out 6).trans rfl, (blk_cell BK301.out 7).trans rfl, (blk_cell BK301.out 8).trans rfl, (cbH HB hw303_0 :), (cbH HB hw303_1 :), (cbH HB hw303_2 :), (cbH HB hw303_3 :), (cbH HB hw303_4 :), (cbH HB hw303_5 :), (cbH HB hw303_6 :), (cbH HB hw303_7 :), (cbH HB hw303_8 :)⟩ (fun hHeld => ?_); refine with_tabW impl_AreArticles.tab6 impl_AreArticles.bits6 (fun HT_ HW_ => ?_)
            generalize w15.drew = w16 at BK301 HB hx303_0 hx303_1 hx303_2 hx303_3 hx303_4 hx303_5 hx303_6 hx303_7 hx303_8 hHeld ⊢
            refine take_ (i := 0) (N := some 15) (v := ?_) (a' := ?_) (bT 18 1) rfl rfl (take_ofW HT_.out HW_.out Zj) (fun _ _ _ h => h) (Or.inl ⟨by rfl, ?_⟩) hHeld ?_ ?_
            rotate_left
            ·rintro w' ⟨s0, s1, s2, s3, s4, s5, s6, s7, s8, s9, s10, s11, s12, s13, s14, s15, s16, s17⟩
             go_simp
             with_reducible rfl
            rotate_left
            ·exact Zput
            refine one_ (i := 1) (N := some 16) (bT 18 2) rfl rfl (one_of HT_.out Zj) (by decide) (fun K hK => ?_)
            refine goes_ Try.func129 Zj rfl #[.agg #[.string ((rd_T92 l0 x10_1).f0), .int .i64 ((rd_T92 l0 x10_1).f1), .int .i64 ((rd_T92 l0 x10_1).f2), .int .i64 ((rd_T92 l0 x10_1).f3), .int .i64 ((rd_T92 l0 x10_1).f4), .int .i64 ((rd_T92 l0 x10_1).f5), .int .i64 ((rd_T92 l0 x10_1).f6), .int .i64 ((rd_T92 l0 x10_1).f7), .int .i64 ((rd_T92 l0 x10_1).f8)]] (by rfl) rfl rfl Zo ?_
            with_reducible refine (impl_IsArticle.calls k1 ((rd_T92 l0 x10_1).f0) ((rd_T92 l0 x10_1).f1) ((rd_T92 l0 x10_1).f2) ((rd_T92 l0 x10_1).f3) ((rd_T92 l0 x10_1).f4) ((rd_T92 l0 x10_1).f5) ((rd_T92 l0 x10_1).f6) ((rd_T92 l0 x10_1).f7) ((rd_T92 l0 x10_1).f8) true _ A6.out).mono ?_
            rintro e w17 ⟨rfl, hb⟩
            refine ⟨_, rfl, ?_⟩
            have n0_ := Aside0.mk (blk_below (g := gb301) (o := .cells #[.string ((rd_T92 l0 x10_1).f0), .int .i64 ((rd_T92 l0 x10_1).f1), .int .i64 ((rd_T92 l0 x10_1).f2), .int .i64 ((rd_T92 l0 x10_1).f3), .int .i64 ((rd_T92 l0 x10_1).f4), .int .i64 ((rd_T92 l0 x10_1).f5), .int .i64 ((rd_T92 l0 x10_1).f6), .int .i64 ((rd_T92 l0 x10_1).f7), .int .i64 ((rd_T92 l0 x10_1).f8)] 92 (0, 0)) (have z0_ := BK301; Ze) hb)
            have n1_ := Aside0.mk (below_step (have z0_ := GE301; Zf) hb)
            clear BK301
            clear HB
            have BK301 := n0_
            have HB := n1_
            clear n0_ n1_
            (try clear hb)
            (try clear hb2)
            (try clear hk)
            (try clear hi)
            refine hK.out _ _ ⟨(blk_cell BK301.out 0).trans rfl, (blk_cell BK301.out 1).trans rfl, (blk_cell BK301.out 2).trans rfl, (blk_cell BK301.out 3).trans rfl, (blk_cell BK301.out 4).trans rfl, (blk_cell BK301.out 5).trans rfl, (blk_cell BK301.out 6).trans rfl, (blk_cell BK301.out 7).trans rfl, (blk_cell BK301.out 8).trans rfl, (cbH HB hw303_0 :), (cbH HB hw303_1 :), (cbH HB hw303_2 :), (cbH HB hw303_3 :), (cbH HB hw303_4 :), (cbH HB hw303_5 :), (cbH HB hw303_6 :), (cbH HB hw303_7 :), (cbH HB hw303_8 :)⟩ (fun hHeld => ?_)
            clear hK K
            refine norm_ (a' := ?_) ?_ ?_
            rotate_left
            ·show Act.put _ (some 16) _ = _
             simp only [Act.put, List.setIfInBounds_toArray, List.set_cons_zero, List.set_cons_succ, i64_w, i32_w]
             rfl
            refine pureZ HT_ 2 (some 17) (bT 18 3) ?_
            refine pureZ HT_ 3 (some 18) (bT 18 4) ?_
            refine pureZ HT_ 4 (some 19) (bT 18 5) ?_
            refine pureZ HT_ 5 (some 20) (bT 18 6) ?_
            refine pureZ HT_ 6 (some 21) (bT 18 7) ?_
            refine pureZ HT_ 7 (some 22) (bT 18 8) ?_
            refine pureZ HT_ 8 (some 23) (bT 18 9) ?_
            refine pureZ HT_ 9 (some 24) (bT 18 10) ?_
            refine pureZ HT_ 10 (some 25) (bT 18 11) ?_
            refine pureZ HT_ 11 (some 26) (bT 18 12) ?_
            refine pureZ HT_ 13 (some 28) #[true, true, true, true, true, true, true, true, true, true, true, true, false, true, false, false, false, false] ?_
            refine take_ (i := 12) (N := some 27) (v := ?_) (a' := ?_) (bT 18 14) rfl rfl (take_ofW HT_.out HW_.out Zj) (fun _ _ _ h => h) (Or.inl ⟨by rfl, ?_⟩) hHeld ?_ ?_
            rotate_left
            ·rintro w' ⟨s0, s1, s2, s3, s4, s5, s6, s7, s8, s9, s10, s11, s12, s13, s14, s15, s16, s17⟩
             go_simp
             with_reducible rfl
            rotate_left
            ·exact Zput
            refine take_ (i := 14) (N := some 29) (v := ?_) (a' := ?_) (bT 18 15) rfl rfl (take_ofW HT_.out HW_.out Zj) (fun _ _ _ h => h) (Or.inl ⟨by rfl, ?_⟩) hHeld ?_ ?_
            rotate_left
            ·rintro w' ⟨s0, s1, s2, s3, s4, s5, s6, s7, s8, s9, s10, s11, s12, s13, s14, s15, s16, s17⟩
             go_simp
             with_reducible rfl
            rotate_left
            ·exact Zput
            refine pureZ HT_ 15 (some 30) (bT 18 16) ?_
            refine pureZ HT_ 16 (some 31) (bT 18 17) ?_
            refine pureZ HT_ 17 (some 32) (bT 18 18) ?_
            refine done_ (done_of HT_.out Zj) ?_
            try go_wp2
            go_roundg k1
            case measure => have := HK1.out; omega
            case rel => exact ⟨(wrap64 (x10_1 + 1)), Za, H', ⟨Zt⟩, ⟨(have z0_ := GE301; Zf)⟩⟩
           ·rw [if_neg c12] at H
            have c12b0 : (Op.bytesLess (((rd_T92 l0 (ji9)).f0).toList) (((rd_T92 l0 x10_1).f0).toList)) = false := by simpa using c12
            clear c12
            obtain rfl := Option.some.inj H
            have p300 : 0 ≤ (x10_1 : Int) := of_decide_eq_true Zp
            have q300 : x10_1 < (l0.length : Int) := of_decide_eq_true Zp
            obtain ⟨ad300, e300, hx300_0, hx300_1, hx300_2, hx300_3, hx300_4, hx300_5, hx300_6, hx300_7, hx300_8⟩ := at_T92 HR0.out x10_1 p300 q300
            cases e300
            replace hx300_0 := cbH HB hx300_0
            replace hx300_1 := cbH HB hx300_1
            replace hx300_2 := cbH HB hx300_2
            replace hx300_3 := cbH HB hx300_3
            replace hx300_4 := cbH HB hx300_4
            replace hx300_5 := cbH HB hx300_5
            replace hx300_6 := cbH HB hx300_6
            replace hx300_7 := cbH HB hx300_7
            replace hx300_8 := cbH HB hx300_8
            replace p300 := eq_true p300
            replace q300 := eq_true q300
            try go_wp2_with (first | ((with_reducible refine gate_dst (N := 4) rfl ?_); refine box_event ?hg (N := 4) ?hd (cs := #[.string (⟨#[]⟩ : ByteArray), .int .i64 0, .int .i64 0, .int .i64 0, .int .i64 0, .int .i64 0, .int .i64 0, .int .i64 0, .int .i64 0]) (t := 92) ?hr ?_; (case hd => rfl); (case hg => rfl); (case hr => first | (go_simp; done) | (go_simp; rfl)); intro gb301 hg w18 hbox hb; have n0_ := Aside0.mk (below_step Zc hb); have n1_ := Aside0.mk (hbox); have n2_ := Aside0.mk ((Zd : w.heap.size ≤ gb301)); have n3_ := Aside0.mk ((Zd : w.heap.size ≤ gb301)); clear HB; have HB := n0_; have BK301 := n1_; have GW301 := n2_; have GE301 := n3_; clear n0_ n1_ n2_ n3_; clear hb hbox hg; obtain ⟨hcz19_0, hcz19_1, hcz19_2, hcz19_3, hcz19_4, hcz19_5, hcz19_6, hcz19_7, hcz19_8, hfz19_0, hfz19_1, hfz19_2, hfz19_3, hfz19_4, hfz19_5, hfz19_6, hfz19_7, hfz19_8⟩ := cz9 BK301))
            have n0_ : Aside0 ((((((((((w18.setCell ⟨gb301, 0, none⟩ (.string ((rd_T92 l0 x10_1).f0))).setCell ⟨gb301, 1, none⟩ (.int .i64 ((rd_T92 l0 x10_1).f1))).setCell ⟨gb301, 2, none⟩ (.int .i64 ((rd_T92 l0 x10_1).f2))).setCell ⟨gb301, 3, none⟩ (.int .i64 ((rd_T92 l0 x10_1).f3))).setCell ⟨gb301, 4, none⟩ (.int .i64 ((rd_T92 l0 x10_1).f4))).setCell ⟨gb301, 5, none⟩ (.int .i64 ((rd_T92 l0 x10_1).f5))).setCell ⟨gb301, 6, none⟩ (.int .i64 ((rd_T92 l0 x10_1).f6))).setCell ⟨gb301, 7, none⟩ (.int .i64 ((rd_T92 l0 x10_1).f7))).setCell ⟨gb301, 8, none⟩ (.int .i64 ((rd_T92 l0 x10_1).f8))).heap[gb301]? = some (.cells #[.string ((rd_T92 l0 x10_1).f0), .int .i64 ((rd_T92 l0 x10_1).f1), .int .i64 ((rd_T92 l0 x10_1).f2), .int .i64 ((rd_T92 l0 x10_1).f3), .int .i64 ((rd_T92 l0 x10_1).f4), .int .i64 ((rd_T92 l0 x10_1).f5), .int .i64 ((rd_T92 l0 x10_1).f6), .int .i64 ((rd_T92 l0 x10_1).f7), .int .i64 ((rd_T92 l0 x10_1).f8)] 92 (0, 0))) := ⟨(have z0_ := BK301; Zbe)⟩
            have n1_ : Aside0 (Below w.heap.size w (((((((((w18.setCell ⟨gb301, 0, none⟩ (.string ((rd_T92 l0 x10_1).f0))).setCell ⟨gb301, 1, none⟩ (.int .i64 ((rd_T92 l0 x10_1).f1))).setCell ⟨gb301, 2, none⟩ (.int .i64 ((rd_T92 l0 x10_1).f2))).setCell ⟨gb301, 3, none⟩ (.int .i64 ((rd_T92 l0 x10_1).f3))).setCell ⟨gb301, 4, none⟩ (.int .i64 ((rd_T92 l0 x10_1).f4))).setCell ⟨gb301, 5, none⟩ (.int .i64 ((rd_T92 l0 x10_1).f5))).setCell ⟨gb301, 6, none⟩ (.int .i64 ((rd_T92 l0 x10_1).f6))).setCell ⟨gb301, 7, none⟩ (.int .i64 ((rd_T92 l0 x10_1).f7))).setCell ⟨gb301, 8, none⟩ (.int .i64 ((rd_T92 l0 x10_1).f8)))) := ⟨(have z0_ := GE301; Zf)⟩
            (try clear BK301)
            (try clear HB)
            generalize (((((((((w18.setCell ⟨gb301, 0, none⟩ (.string ((rd_T92 l0 x10_1).f0))).setCell ⟨gb301, 1, none⟩ (.int .i64 ((rd_T92 l0 x10_1).f1))).setCell ⟨gb301, 2, none⟩ (.int .i64 ((rd_T92 l0 x10_1).f2))).setCell ⟨gb301, 3, none⟩ (.int .i64 ((rd_T92 l0 x10_1).f3))).setCell ⟨gb301, 4, none⟩ (.int .i64 ((rd_T92 l0 x10_1).f4))).setCell ⟨gb301, 5, none⟩ (.int .i64 ((rd_T92 l0 x10_1).f5))).setCell ⟨gb301, 6, none⟩ (.int .i64 ((rd_T92 l0 x10_1).f6))).setCell ⟨gb301, 7, none⟩ (.int .i64 ((rd_T92 l0 x10_1).f7))).setCell ⟨gb301, 8, none⟩ (.int .i64 ((rd_T92 l0 x10_1).f8))) = w20 at n0_ n1_ ⊢
            have BK301 := n0_
            have HB := n1_
            clear n0_ n1_
            have n0_ := Aside0.mk (blk_drew BK301.out)
            have n1_ := Aside0.mk (below_drew1 HB.out)
            clear BK301
            clear HB
            have BK301 := n0_
            have HB := n1_
            clear n0_ n1_
            have p303 : 0 ≤ ((ji9) : Int) := of_decide_eq_true Zp
            have q303 : (ji9) < (l0.length : Int) := of_decide_eq_true Zp
            obtain ⟨ad303, e303, hx303_0, hx303_1, hx303_2, hx303_3, hx303_4, hx303_5, hx303_6, hx303_7, hx303_8⟩ := at_T92 HR0.out (ji9) p303 q303
            have hw303_8 := hx303_8
            have hw303_7 := hx303_7
            have hw303_6 := hx303_6
            have hw303_5 := hx303_5
            have hw303_4 := hx303_4
            have hw303_3 := hx303_3
            have hw303_2 := hx303_2
            have hw303_1 := hx303_1
            have hw303_0 := hx303_0
            obtain rfl : ad300 = ad303 := (by injection e303)
            replace hx303_0 := cbH HB hx303_0
            replace hx303_1 := cbH HB hx303_1
            replace hx303_2 := cbH HB hx303_2
            replace hx303_3 := cbH HB hx303_3
            replace hx303_4 := cbH HB hx303_4
            replace hx303_5 := cbH HB hx303_5
            replace hx303_6 := cbH HB hx303_6
            replace hx303_7 := cbH HB hx303_7
            replace hx303_8 := cbH HB hx303_8
            replace p303 := eq_true p303
            replace q303 := eq_true q303
            refine start_ (n := 18) (S := fun w' => w'.cell? ⟨gb301, 0, none⟩ = some (.string ((rd_T92 l0 x10_1).f0)) ∧ w'.cell? ⟨gb301, 1, none⟩ = some (.int .i64 ((rd_T92 l0 x10_1).f1)) ∧ w'.cell? ⟨gb301, 2, none⟩ = some (.int .i64 ((rd_T92 l0 x10_1).f2)) ∧ w'.cell? ⟨gb301, 3, none⟩ = some (.int .i64 ((rd_T92 l0 x10_1).f3)) ∧ w'.cell? ⟨gb301, 4, none⟩ = some (.int .i64 ((rd_T92 l0 x10_1).f4)) ∧ w'.cell? ⟨gb301, 5, none⟩ = some (.int .i64 ((rd_T92 l0 x10_1).f5)) ∧ w'.cell? ⟨gb301, 6, none⟩ = some (.int .i64 ((rd_T92 l0 x10_1).f6)) ∧ w'.cell? ⟨gb301, 7, none⟩ = some (.int .i64 ((rd_T92 l0 x10_1).f7)) ∧ w'.cell? ⟨gb301, 8, none⟩ = some (.int .i64 ((rd_T92 l0 x10_1).f8)) ∧ w'.cell? (ad300.add (((ji9)).toNat * 9)) = some (.string ((rd_T92 l0 (ji9)).f0)) ∧ w'.cell? ⟨(ad300.add (((ji9)).toNat * 9)).block, (ad300.add (((ji9)).toNat * 9)).off + 1, none⟩ = some (.int .i64 ((rd_T92 l0 (ji9)).f1)) ∧ w'.cell? ⟨(ad300.add (((ji9)).toNat * 9)).block, (ad300.add (((ji9)).toNat * 9)).off + 2, none⟩ = some (.int .i64 ((rd_T92 l0 (ji9)).f2)) ∧ w'.cell? ⟨(ad300.add (((ji9)).toNat * 9)).block, (ad300.add (((ji9)).toNat * 9)).off + 3, none⟩ = some (.int .i64 ((rd_T92 l0 (ji9)).f3)) ∧ w'.cell? ⟨(ad300.add (((ji9)).toNat * 9)).block, (ad300.add (((ji9)).toNat * 9)).off + 4, none⟩ = some (.int .i64 ((rd_T92 l0 (ji9)).f4)) ∧ w'.cell? ⟨(ad300.add (((ji9)).toNat * 9)).block, (ad300.add (((ji9)).toNat * 9)).off + 5, none⟩ = some (.int .i64 ((rd_T92 l0 (ji9)).f5)) ∧ w'.cell? ⟨(ad300.add (((ji9)).toNat * 9)).block, (ad300.add (((ji9)).toNat * 9)).off + 6, none⟩ = some (.int .i64 ((rd_T92 l0 (ji9)).f6)) ∧ w'.cell? ⟨(ad300.add (((ji9)).toNat * 9)).block, (ad300.add (((ji9)).toNat * 9)).off + 7, none⟩ = some (.int .i64 ((rd_T92 l0 (ji9)).f7)) ∧ w'.cell? ⟨(ad300.add (((ji9)).toNat * 9)).block, (ad300.add (((ji9)).toNat * 9)).off + 8, none⟩ = some (.int .i64 ((rd_T92 l0 (ji9)).f8))) (ds := []) (bT 18 0) Zj rfl rfl ⟨(blk_cell BK301.out 0).trans rfl, (blk_cell BK301.out 1).trans rfl, (blk_cell BK301.out 2).trans rfl, (blk_cell BK301.out 3).trans rfl, (blk_cell BK301.out 4).trans rfl, (blk_cell BK301.out 5).trans rfl, (blk_cell BK301.out 6).trans rfl, (blk_cell BK301.out 7).trans rfl, (blk_cell BK301.out 8).trans rfl, (cbH HB hw303_0 :), (cbH HB hw303_1 :), (cbH HB hw303_2 :), (cbH HB hw303_3 :), (cbH HB hw303_4 :), (cbH HB hw303_5 :), (cbH HB hw303_6 :), (cbH HB hw303_7 :), (cbH HB hw303_8 :)⟩ (fun hHeld => ?_); refine with_tabW impl_AreArticles.tab6 impl_AreArticles.bits6 (fun HT_ HW_ => ?_)
            generalize w20.drew = w21 at BK301 HB hx303_0 hx303_1 hx303_2 hx303_3 hx303_4 hx303_5 hx303_6 hx303_7 hx303_8 hHeld ⊢
            refine take_ (i := 0) (N := some 15) (v := ?_) (a' := ?_) (bT 18 1) rfl rfl (take_ofW HT_.out HW_.out Zj) (fun _ _ _ h => h) (Or.inl ⟨by rfl, ?_⟩) hHeld ?_ ?_
            rotate_left
            ·rintro w' ⟨s0, s1, s2, s3, s4, s5, s6, s7, s8, s9, s10, s11, s12, s13, s14, s15, s16, s17⟩
             go_simp
             with_reducible rfl
            rotate_left
            ·exact Zput
            refine one_ (i := 1) (N := some 16) (bT 18 2) rfl rfl (one_of HT_.out Zj) (by decide) (fun K hK => ?_)
            refine goes_ Try.func129 Zj rfl #[.agg #[.string ((rd_T92 l0 x10_1).f0), .int .i64 ((rd_T92 l0 x10_1).f1), .int .i64 ((rd_T92 l0 x10_1).f2), .int .i64 ((rd_T92 l0 x10_1).f3), .int .i64 ((rd_T92 l0 x10_1).f4), .int .i64 ((rd_T92 l0 x10_1).f5), .int .i64 ((rd_T92 l0 x10_1).f6), .int .i64 ((rd_T92 l0 x10_1).f7), .int .i64 ((rd_T92 l0 x10_1).f8)]] (by rfl) rfl rfl Zo ?_
            with_reducible refine (impl_IsArticle.calls k1 ((rd_T92 l0 x10_1).f0) ((rd_T92 l0 x10_1).f1) ((rd_T92 l0 x10_1).f2) ((rd_T92 l0 x10_1).f3) ((rd_T92 l0 x10_1).f4) ((rd_T92 l0 x10_1).f5) ((rd_T92 l0 x10_1).f6) ((rd_T92 l0 x10_1).f7) ((rd_T92 l0 x10_1).f8) true _ A6.out).mono ?_
            rintro e w22 ⟨rfl, hb⟩
            refine ⟨_, rfl, ?_⟩
            have n0_ := Aside0.mk (blk_below (g := gb301) (o := .cells #[.string ((rd_T92 l0 x10_1).f0), .int .i64 ((rd_T92 l0 x10_1).f1), .int .i64 ((rd_T92 l0 x10_1).f2), .int .i64 ((rd_T92 l0 x10_1).f3), .int .i64 ((rd_T92 l0 x10_1).f4), .int .i64 ((rd_T92 l0 x10_1).f5), .int .i64 ((rd_T92 l0 x10_1).f6), .int .i64 ((rd_T92 l0 x10_1).f7), .int .i64 ((rd_T92 l0 x10_1).f8)] 92 (0, 0)) (have z0_ := BK301; Ze) hb)
            have n1_ := Aside0.mk (below_step (have z0_ := GE301; Zf) hb)
            clear BK301
            clear HB
            have BK301 := n0_
            have HB := n1_
            clear n0_ n1_
            (try clear hb)
            (try clear hb2)
            (try clear hk)
            (try clear hi)
            refine hK.out _ _ ⟨(blk_cell BK301.out 0).trans rfl, (blk_cell BK301.out 1).trans rfl, (blk_cell BK301.out 2).trans rfl, (blk_cell BK301.out 3).trans rfl, (blk_cell BK301.out 4).trans rfl, (blk_cell BK301.out 5).trans rfl, (blk_cell BK301.out 6).trans rfl, (blk_cell BK301.out 7).trans rfl, (blk_cell BK301.out 8).trans rfl, (cbH HB hw303_0 :), (cbH HB hw303_1 :), (cbH HB hw303_2 :), (cbH HB hw303_3 :), (cbH HB hw303_4 :), (cbH HB hw303_5 :), (cbH HB hw303_6 :), (cbH HB hw303_7 :), (cbH HB hw303_8 :)⟩ (fun hHeld => ?_)
            clear hK K
            refine norm_ (a' := ?_) ?_ ?_
            rotate_left
            ·show Act.put _ (some 16) _ = _
             simp only [Act.put, List.setIfInBounds_toArray, List.set_cons_zero, List.set_cons_succ, i64_w, i32_w]
             rfl
            refine pureZ HT_ 2 (some 17) (bT 18 3) ?_
            refine pureZ HT_ 3 (some 18) (bT 18 4) ?_
            refine pureZ HT_ 4 (some 19) (bT 18 5) ?_
            refine pureZ HT_ 5 (some 20) (bT 18 6) ?_
            refine pureZ HT_ 6 (some 21) (bT 18 7) ?_
            refine pureZ HT_ 7 (some 22) (bT 18 8) ?_
            refine pureZ HT_ 8 (some 23) (bT 18 9) ?_
            refine pureZ HT_ 9 (some 24) (bT 18 10) ?_
            refine pureZ HT_ 10 (some 25) (bT 18 11) ?_
            refine pureZ HT_ 11 (some 26) (bT 18 12) ?_
            refine pureZ HT_ 13 (some 28) #[true, true, true, true, true, true, true, true, true, true, true, true, false, true, false, false, false, false] ?_
            refine take_ (i := 12) (N := some 27) (v := ?_) (a' := ?_) (bT 18 14) rfl rfl (take_ofW HT_.out HW_.out Zj) (fun _ _ _ h => h) (Or.inl ⟨by rfl, ?_⟩) hHeld ?_ ?_
            rotate_left
            ·rintro w' ⟨s0, s1, s2, s3, s4, s5, s6, s7, s8, s9, s10, s11, s12, s13, s14, s15, s16, s17⟩
             go_simp
             with_reducible rfl
            rotate_left
            ·exact Zput
            refine take_ (i := 14) (N := some 29) (v := ?_) (a' := ?_) (bT 18 15) rfl rfl (take_ofW HT_.out HW_.out Zj) (fun _ _ _ h => h) (Or.inl ⟨by rfl, ?_⟩) hHeld ?_ ?_
            rotate_left
            ·rintro w' ⟨s0, s1, s2, s3, s4, s5, s6, s7, s8, s9, s10, s11, s12, s13, s14, s15, s16, s17⟩
             go_simp
             with_reducible rfl
            rotate_left
            ·exact Zput
            refine pureZ HT_ 15 (some 30) (bT 18 16) ?_
            refine pureZ HT_ 16 (some 31) (bT 18 17) ?_
            refine pureZ HT_ 17 (some 32) (bT 18 18) ?_
            refine done_ (done_of HT_.out Zj) ?_
            try go_wp2
            go_ret
            exact ⟨by first | rfl | (simp [errW_none, errW_some] <;> rfl) | (simp only [← hji9]; first | rfl | (simp [errW_none, errW_some] <;> rfl)) | (simp [*, errW_none, errW_some] <;> rfl), (have z0_ := GE301; Zf)⟩
          ·rw [if_neg c11] at H
           exact absurd H (by simp)
         ·rw [if_neg c10] at H
          exact absurd H (by simp)
        ·rw [if_neg c8] at H
         have c8b0 : decide (0 < x10_1) = false := decide_eq_false c8
         clear c8
         have H' := Aside0.mk H
         clear H
         have p300 : 0 ≤ (x10_1 : Int) := of_decide_eq_true Zp
         have q300 : x10_1 < (l0.length : Int) := of_decide_eq_true Zp
         obtain ⟨ad300, e300, hx300_0, hx300_1, hx300_2, hx300_3, hx300_4, hx300_5, hx300_6, hx300_7, hx300_8⟩ := at_T92 HR0.out x10_1 p300 q300
         cases e300
         replace hx300_0 := cbH HB hx300_0
         replace hx300_1 := cbH HB hx300_1
         replace hx300_2 := cbH HB hx300_2
         replace hx300_3 := cbH HB hx300_3
         replace hx300_4 := cbH HB hx300_4
         replace hx300_5 := cbH HB hx300_5
         replace hx300_6 := cbH HB hx300_6
         replace hx300_7 := cbH HB hx300_7
         replace hx300_8 := cbH HB hx300_8
         replace p300 := eq_true p300
         replace q300 := eq_true q300
         try go_wp2_with (first | ((with_reducible refine gate_dst (N := 4) rfl ?_); refine box_event ?hg (N := 4) ?hd (cs := #[.string (⟨#[]⟩ : ByteArray), .int .i64 0, .int .i64 0, .int .i64 0, .int .i64 0, .int .i64 0, .int .i64 0, .int .i64 0, .int .i64 0]) (t := 92) ?hr ?_; (case hd => rfl); (case hg => rfl); (case hr => first | (go_simp; done) | (go_simp; rfl)); intro gb301 hg w23 hbox hb; have n0_ := Aside0.mk (below_step Zc hb); have n1_ := Aside0.mk (hbox); have n2_ := Aside0.mk ((Zd : w.heap.size ≤ gb301)); have n3_ := Aside0.mk ((Zd : w.heap.size ≤ gb301)); clear HB; have HB := n0_; have BK301 := n1_; have GW301 := n2_; have GE301 := n3_; clear n0_ n1_ n2_ n3_; clear hb hbox hg; obtain ⟨hcz24_0, hcz24_1, hcz24_2, hcz24_3, hcz24_4, hcz24_5, hcz24_6, hcz24_7, hcz24_8, hfz24_0, hfz24_1, hfz24_2, hfz24_3, hfz24_4, hfz24_5, hfz24_6, hfz24_7, hfz24_8⟩ := cz9 BK301))
         have n0_ : Aside0 ((((((((((w23.setCell ⟨gb301, 0, none⟩ (.string ((rd_T92 l0 x10_1).f0))).setCell ⟨gb301, 1, none⟩ (.int .i64 ((rd_T92 l0 x10_1).f1))).setCell ⟨gb301, 2, none⟩ (.int .i64 ((rd_T92 l0 x10_1).f2))).setCell ⟨gb301, 3, none⟩ (.int .i64 ((rd_T92 l0 x10_1).f3))).setCell ⟨gb301, 4, none⟩ (.int .i64 ((rd_T92 l0 x10_1).f4))).setCell ⟨gb301, 5, none⟩ (.int .i64 ((rd_T92 l0 x10_1).f5))).setCell ⟨gb301, 6, none⟩ (.int .i64 ((rd_T92 l0 x10_1).f6))).setCell ⟨gb301, 7, none⟩ (.int .i64 ((rd_T92 l0 x10_1).f7))).setCell ⟨gb301, 8, none⟩ (.int .i64 ((rd_T92 l0 x10_1).f8))).heap[gb301]? = some (.cells #[.string ((rd_T92 l0 x10_1).f0), .int .i64 ((rd_T92 l0 x10_1).f1), .int .i64 ((rd_T92 l0 x10_1).f2), .int .i64 ((rd_T92 l0 x10_1).f3), .int .i64 ((rd_T92 l0 x10_1).f4), .int .i64 ((rd_T92 l0 x10_1).f5), .int .i64 ((rd_T92 l0 x10_1).f6), .int .i64 ((rd_T92 l0 x10_1).f7), .int .i64 ((rd_T92 l0 x10_1).f8)] 92 (0, 0))) := ⟨(have z0_ := BK301; Zbe)⟩
         have n1_ : Aside0 (Below w.heap.size w (((((((((w23.setCell ⟨gb301, 0, none⟩ (.string ((rd_T92 l0 x10_1).f0))).setCell ⟨gb301, 1, none⟩ (.int .i64 ((rd_T92 l0 x10_1).f1))).setCell ⟨gb301, 2, none⟩ (.int .i64 ((rd_T92 l0 x10_1).f2))).setCell ⟨gb301, 3, none⟩ (.int .i64 ((rd_T92 l0 x10_1).f3))).setCell ⟨gb301, 4, none⟩ (.int .i64 ((rd_T92 l0 x10_1).f4))).setCell ⟨gb301, 5, none⟩ (.int .i64 ((rd_T92 l0 x10_1).f5))).setCell ⟨gb301, 6, none⟩ (.int .i64 ((rd_T92 l0 x10_1).f6))).setCell ⟨gb301, 7, none⟩ (.int .i64 ((rd_T92 l0 x10_1).f7))).setCell ⟨gb301, 8, none⟩ (.int .i64 ((rd_T92 l0 x10_1).f8)))) := ⟨(have z0_ := GE301; Zf)⟩
         (try clear BK301)
         (try clear HB)
         generalize (((((((((w23.setCell ⟨gb301, 0, none⟩ (.string ((rd_T92 l0 x10_1).f0))).setCell ⟨gb301, 1, none⟩ (.int .i64 ((rd_T92 l0 x10_1).f1))).setCell ⟨gb301, 2, none⟩ (.int .i64 ((rd_T92 l0 x10_1).f2))).setCell ⟨gb301, 3, none⟩ (.int .i64 ((rd_T92 l0 x10_1).f3))).setCell ⟨gb301, 4, none⟩ (.int .i64 ((rd_T92 l0 x10_1).f4))).setCell ⟨gb301, 5, none⟩ (.int .i64 ((rd_T92 l0 x10_1).f5))).setCell ⟨gb301, 6, none⟩ (.int .i64 ((rd_T92 l0 x10_1).f6))).setCell ⟨gb301, 7, none⟩ (.int .i64 ((rd_T92 l0 x10_1).f7))).setCell ⟨gb301, 8, none⟩ (.int .i64 ((rd_T92 l0 x10_1).f8))) = w25 at n0_ n1_ ⊢
         have BK301 := n0_
         have HB := n1_
         clear n0_ n1_
         have n0_ := Aside0.mk (blk_drew BK301.out)
         have n1_ := Aside0.mk (below_drew1 HB.out)
         clear BK301
         clear HB
         have BK301 := n0_
         have HB := n1_
         clear n0_ n1_
         refine start_ (n := 18) (S := fun w' => w'.cell? ⟨gb301, 0, none⟩ = some (.string ((rd_T92 l0 x10_1).f0)) ∧ w'.cell? ⟨gb301, 1, none⟩ = some (.int .i64 ((rd_T92 l0 x10_1).f1)) ∧ w'.cell? ⟨gb301, 2, none⟩ = some (.int .i64 ((rd_T92 l0 x10_1).f2)) ∧ w'.cell? ⟨gb301, 3, none⟩ = some (.int .i64 ((rd_T92 l0 x10_1).f3)) ∧ w'.cell? ⟨gb301, 4, none⟩ = some (.int .i64 ((rd_T92 l0 x10_1).f4)) ∧ w'.cell? ⟨gb301, 5, none⟩ = some (.int .i64 ((rd_T92 l0 x10_1).f5)) ∧ w'.cell? ⟨gb301, 6, none⟩ = some (.int .i64 ((rd_T92 l0 x10_1).f6)) ∧ w'.cell? ⟨gb301, 7, none⟩ = some (.int .i64 ((rd_T92 l0 x10_1).f7)) ∧ w'.cell? ⟨gb301, 8, none⟩ = some (.int .i64 ((rd_T92 l0 x10_1).f8))) (ds := []) (bT 18 0) Zj rfl rfl ⟨(blk_cell BK301.out 0).trans rfl, (blk_cell BK301.out 1).trans rfl, (blk_cell BK301.out 2).trans rfl, (blk_cell BK301.out 3).trans rfl, (blk_cell BK301.out 4).trans rfl, (blk_cell BK301.out 5).trans rfl, (blk_cell BK301.out 6).trans rfl, (blk_cell BK301.out 7).trans rfl, (blk_cell BK301.out 8).trans rfl⟩ (fun hHeld => ?_); refine with_tabW impl_AreArticles.tab6 impl_AreArticles.bits6 (fun HT_ HW_ => ?_)
         generalize w25.drew = w26 at BK301 HB hHeld ⊢
         refine take_ (i := 0) (N := some 15) (v := ?_) (a' := ?_) (bT 18 1) rfl rfl (take_ofW HT_.out HW_.out Zj) (fun _ _ _ h => h) (Or.inl ⟨by rfl, ?_⟩) hHeld ?_ ?_
         rotate_left
         ·rintro w' ⟨s0, s1, s2, s3, s4, s5, s6, s7, s8⟩
          go_simp
          with_reducible rfl
         rotate_left
         ·exact Zput
         refine one_ (i := 1) (N := some 16) (bT 18 2) rfl rfl (one_of HT_.out Zj) (by decide) (fun K hK => ?_)
         refine goes_ Try.func129 Zj rfl #[.agg #[.string ((rd_T92 l0 x10_1).f0), .int .i64 ((rd_T92 l0 x10_1).f1), .int .i64 ((rd_T92 l0 x10_1).f2), .int .i64 ((rd_T92 l0 x10_1).f3), .int .i64 ((rd_T92 l0 x10_1).f4), .int .i64 ((rd_T92 l0 x10_1).f5), .int .i64 ((rd_T92 l0 x10_1).f6), .int .i64 ((rd_T92 l0 x10_1).f7), .int .i64 ((rd_T92 l0 x10_1).f8)]] (by rfl) rfl rfl Zo ?_
         with_reducible refine (impl_IsArticle.calls k1 ((rd_T92 l0 x10_1).f0) ((rd_T92 l0 x10_1).f1) ((rd_T92 l0 x10_1).f2) ((rd_T92 l0 x10_1).f3) ((rd_T92 l0 x10_1).f4) ((rd_T92 l0 x10_1).f5) ((rd_T92 l0 x10_1).f6) ((rd_T92 l0 x10_1).f7) ((rd_T92 l0 x10_1).f8) true _ A6.out).mono ?_
         rintro e w27 ⟨rfl, hb⟩
         refine ⟨_, rfl, ?_⟩
         have n0_ := Aside0.mk (blk_below (g := gb301) (o := .cells #[.string ((rd_T92 l0 x10_1).f0), .int .i64 ((rd_T92 l0 x10_1).f1), .int .i64 ((rd_T92 l0 x10_1).f2), .int .i64 ((rd_T92 l0 x10_1).f3), .int .i64 ((rd_T92 l0 x10_1).f4), .int .i64 ((rd_T92 l0 x10_1).f5), .int .i64 ((rd_T92 l0 x10_1).f6), .int .i64 ((rd_T92 l0 x10_1).f7), .int .i64 ((rd_T92 l0 x10_1).f8)] 92 (0, 0)) (have z0_ := BK301; Ze) hb)
         have n1_ := Aside0.mk (below_step (have z0_ := GE301; Zf) hb)
         clear BK301
         clear HB
         have BK301 := n0_
         have HB := n1_
         clear n0_ n1_
         (try clear hb)
         (try clear hb2)
         (try clear hk)
         (try clear hi)
         refine hK.out _ _ ⟨(blk_cell BK301.out 0).trans rfl, (blk_cell BK301.out 1).trans rfl, (blk_cell BK301.out 2).trans rfl, (blk_cell BK301.out 3).trans rfl, (blk_cell BK301.out 4).trans rfl, (blk_cell BK301.out 5).trans rfl, (blk_cell BK301.out 6).trans rfl, (blk_cell BK301.out 7).trans rfl, (blk_cell BK301.out 8).trans rfl⟩ (fun hHeld => ?_)
         clear hK K
         refine norm_ (a' := ?_) ?_ ?_
         rotate_left
         ·show Act.put _ (some 16) _ = _
          simp only [Act.put, List.setIfInBounds_toArray, List.set_cons_zero, List.set_cons_succ, i64_w, i32_w]
          rfl
         refine pureZ HT_ 2 (some 17) (bT 18 3) ?_
         refine pureZ HT_ 3 (some 18) (bT 18 4) ?_
         refine pureZ HT_ 4 (some 19) (bT 18 5) ?_
         refine pureZ HT_ 5 (some 20) (bT 18 6) ?_
         refine pureZ HT_ 6 (some 21) (bT 18 7) ?_
         refine pure_ (i := 7) (N := some 22) (v := undef) (a' := ?_) (bT 18 8) rfl rfl (any_of HT_.out Zj) (fun _ _ _ h => h) (Or.inr ⟨by rfl, rfl⟩) ?_ ?_
         rotate_left
         ·exact Zput
         refine pure_ (i := 8) (N := some 23) (v := undef) (a' := ?_) (bT 18 9) rfl rfl (any_of HT_.out Zj) (fun _ _ _ h => h) (Or.inr ⟨by rfl, rfl⟩) ?_ ?_
         rotate_left
         ·exact Zput
         refine pure_ (i := 9) (N := some 24) (v := undef) (a' := ?_) (bT 18 10) rfl rfl (any_of HT_.out Zj) (fun _ _ _ h => h) (Or.inr ⟨by rfl, rfl⟩) ?_ ?_
         rotate_left
         ·exact Zput
         refine pure_ (i := 10) (N := some 25) (v := undef) (a' := ?_) (bT 18 11) rfl rfl (any_of HT_.out Zj) (fun _ _ _ h => h) (Or.inr ⟨by rfl, rfl⟩) ?_ ?_
         rotate_left
         ·exact Zput
         refine pure_ (i := 11) (N := some 26) (v := undef) (a' := ?_) (bT 18 12) rfl rfl (any_of HT_.out Zj) (fun _ _ _ h => h) (Or.inr ⟨by rfl, rfl⟩) ?_ ?_
         rotate_left
         ·exact Zput
         refine pure_ (i := 12) (N := some 27) (v := undef) (a' := ?_) (bT 18 13) rfl rfl (any_of HT_.out Zj) (fun _ _ _ h => h) (Or.inr ⟨by rfl, rfl⟩) ?_ ?_
         rotate_left
         ·exact Zput
         refine pure_ (i := 13) (N := some 28) (v := undef) (a' := ?_) (bT 18 14) rfl rfl (any_of HT_.out Zj) (fun _ _ _ h => h) (Or.inr ⟨by rfl, rfl⟩) ?_ ?_
         rotate_left
         ·exact Zput
         refine pure_ (i := 14) (N := some 29) (v := undef) (a' := ?_) (bT 18 15) rfl rfl (any_of HT_.out Zj) (fun _ _ _ h => h) (Or.inr ⟨by rfl, rfl⟩) ?_ ?_
         rotate_left
         ·exact Zput
         refine pure_ (i := 15) (N := some 30) (v := undef) (a' := ?_) (bT 18 16) rfl rfl (any_of HT_.out Zj) (fun _ _ _ h => h) (Or.inr ⟨by rfl, rfl⟩) ?_ ?_
         rotate_left
         ·exact Zput
         refine pureZ HT_ 16 (some 31) (bT 18 17) ?_
         refine pureZ HT_ 17 (some 32) (bT 18 18) ?_
         refine done_ (done_of HT_.out Zj) ?_
         try go_wp2
         go_roundg k1
         case measure => have := HK1.out; omega
         case rel => exact ⟨(wrap64 (x10_1 + 1)), Za, H', ⟨Zt⟩, ⟨(have z0_ := GE301; Zf)⟩⟩
       ·replace c7 := Bool.eq_false_iff.mpr c7
        subst c7
        have H1 : (some false) = some r := by rw [if_neg (show ¬ (false = true) by decide)] at H; exact H
        clear H
        have H := H1
        clear H1
        obtain rfl := Option.some.inj H
        have p300 : 0 ≤ (x10_1 : Int) := of_decide_eq_true Zp
        have q300 : x10_1 < (l0.length : Int) := of_decide_eq_true Zp
        obtain ⟨ad300, e300, hx300_0, hx300_1, hx300_2, hx300_3, hx300_4, hx300_5, hx300_6, hx300_7, hx300_8⟩ := at_T92 HR0.out x10_1 p300 q300
        cases e300
        replace hx300_0 := cbH HB hx300_0
        replace hx300_1 := cbH HB hx300_1
        replace hx300_2 := cbH HB hx300_2
        replace hx300_3 := cbH HB hx300_3
        replace hx300_4 := cbH HB hx300_4
        replace hx300_5 := cbH HB hx300_5
        replace hx300_6 := cbH HB hx300_6
        replace hx300_7 := cbH HB hx300_7
        replace hx300_8 := cbH HB hx300_8
        replace p300 := eq_true p300
        replace q300 := eq_true q300
        try go_wp2_with (first | ((with_reducible refine gate_dst (N := 4) rfl ?_); refine box_event ?hg (N := 4) ?hd (cs := #[.string (⟨#[]⟩ : ByteArray), .int .i64 0, .int .i64 0, .int .i64 0, .int .i64 0, .int .i64 0, .int .i64 0, .int .i64 0, .int .i64 0]) (t := 92) ?hr ?_; (case hd => rfl); (case hg => rfl); (case hr => first | (go_simp; done) | (go_simp; rfl)); intro gb301 hg w28 hbox hb; have n0_ := Aside0.mk (below_step Zc hb); have n1_ := Aside0.mk (hbox); have n2_ := Aside0.mk ((Zd : w.heap.size ≤ gb301)); have n3_ := Aside0.mk ((Zd : w.heap.size ≤ gb301)); clear HB; have HB := n0_; have BK301 := n1_; have GW301 := n2_; have GE301 := n3_; clear n0_ n1_ n2_ n3_; clear hb hbox hg; obtain ⟨hcz29_0, hcz29_1, hcz29_2, hcz29_3, hcz29_4, hcz29_5, hcz29_6, hcz29_7, hcz29_8, hfz29_0, hfz29_1, hfz29_2, hfz29_3, hfz29_4, hfz29_5, hfz29_6, hfz29_7, hfz29_8⟩ := cz9 BK301))
        have n0_ : Aside0 ((((((((((w28.setCell ⟨gb301, 0, none⟩ (.string ((rd_T92 l0 x10_1).f0))).setCell ⟨gb301, 1, none⟩ (.int .i64 ((rd_T92 l0 x10_1).f1))).setCell ⟨gb301, 2, none⟩ (.int .i64 ((rd_T92 l0 x10_1).f2))).setCell ⟨gb301, 3, none⟩ (.int .i64 ((rd_T92 l0 x10_1).f3))).setCell ⟨gb301, 4, none⟩ (.int .i64 ((rd_T92 l0 x10_1).f4))).setCell ⟨gb301, 5, none⟩ (.int .i64 ((rd_T92 l0 x10_1).f5))).setCell ⟨gb301, 6, none⟩ (.int .i64 ((rd_T92 l0 x10_1).f6))).setCell ⟨gb301, 7, none⟩ (.int .i64 ((rd_T92 l0 x10_1).f7))).setCell ⟨gb301, 8, none⟩ (.int .i64 ((rd_T92 l0 x10_1).f8))).heap[gb301]? = some (.cells #[.string ((rd_T92 l0 x10_1).f0), .int .i64 ((rd_T92 l0 x10_1).f1), .int .i64 ((rd_T92 l0 x10_1).f2), .int .i64 ((rd_T92 l0 x10_1).f3), .int .i64 ((rd_T92 l0 x10_1).f4), .int .i64 ((rd_T92 l0 x10_1).f5), .int .i64 ((rd_T92 l0 x10_1).f6), .int .i64 ((rd_T92 l0 x10_1).f7), .int .i64 ((rd_T92 l0 x10_1).f8)] 92 (0, 0))) := ⟨(have z0_ := BK301; Zbe)⟩
        have n1_ : Aside0 (Below w.heap.size w (((((((((w28.setCell ⟨gb301, 0, none⟩ (.string ((rd_T92 l0 x10_1).f0))).setCell ⟨gb301, 1, none⟩ (.int .i64 ((rd_T92 l0 x10_1).f1))).setCell ⟨gb301, 2, none⟩ (.int .i64 ((rd_T92 l0 x10_1).f2))).setCell ⟨gb301, 3, none⟩ (.int .i64 ((rd_T92 l0 x10_1).f3))).setCell ⟨gb301, 4, none⟩ (.int .i64 ((rd_T92 l0 x10_1).f4))).setCell ⟨gb301, 5, none⟩ (.int .i64 ((rd_T92 l0 x10_1).f5))).setCell ⟨gb301, 6, none⟩ (.int .i64 ((rd_T92 l0 x10_1).f6))).setCell ⟨gb301, 7, none⟩ (.int .i64 ((rd_T92 l0 x10_1).f7))).setCell ⟨gb301, 8, none⟩ (.int .i64 ((rd_T92 l0 x10_1).f8)))) := ⟨(have z0_ := GE301; Zf)⟩
        (try clear BK301)
        (try clear HB)
        generalize (((((((((w28.setCell ⟨gb301, 0, none⟩ (.string ((rd_T92 l0 x10_1).f0))).setCell ⟨gb301, 1, none⟩ (.int .i64 ((rd_T92 l0 x10_1).f1))).setCell ⟨gb301, 2, none⟩ (.int .i64 ((rd_T92 l0 x10_1).f2))).setCell ⟨gb301, 3, none⟩ (.int .i64 ((rd_T92 l0 x10_1).f3))).setCell ⟨gb301, 4, none⟩ (.int .i64 ((rd_T92 l0 x10_1).f4))).setCell ⟨gb301, 5, none⟩ (.int .i64 ((rd_T92 l0 x10_1).f5))).setCell ⟨gb301, 6, none⟩ (.int .i64 ((rd_T92 l0 x10_1).f6))).setCell ⟨gb301, 7, none⟩ (.int .i64 ((rd_T92 l0 x10_1).f7))).setCell ⟨gb301, 8, none⟩ (.int .i64 ((rd_T92 l0 x10_1).f8))) = w30 at n0_ n1_ ⊢
        have BK301 := n0_
        have HB := n1_
        clear n0_ n1_
        have n0_ := Aside0.mk (blk_drew BK301.out)
        have n1_ := Aside0.mk (below_drew1 HB.out)
        clear BK301
        clear HB
        have BK301 := n0_
        have HB := n1_
        clear n0_ n1_
        refine start_ (n := 18) (S := fun w' => w'.cell? ⟨gb301, 0, none⟩ = some (.string ((rd_T92 l0 x10_1).f0)) ∧ w'.cell? ⟨gb301, 1, none⟩ = some (.int .i64 ((rd_T92 l0 x10_1).f1)) ∧ w'.cell? ⟨gb301, 2, none⟩ = some (.int .i64 ((rd_T92 l0 x10_1).f2)) ∧ w'.cell? ⟨gb301, 3, none⟩ = some (.int .i64 ((rd_T92 l0 x10_1).f3)) ∧ w'.cell? ⟨gb301, 4, none⟩ = some (.int .i64 ((rd_T92 l0 x10_1).f4)) ∧ w'.cell? ⟨gb301, 5, none⟩ = some (.int .i64 ((rd_T92 l0 x10_1).f5)) ∧ w'.cell? ⟨gb301, 6, none⟩ = some (.int .i64 ((rd_T92 l0 x10_1).f6)) ∧ w'.cell? ⟨gb301, 7, none⟩ = some (.int .i64 ((rd_T92 l0 x10_1).f7)) ∧ w'.cell? ⟨gb301, 8, none⟩ = some (.int .i64 ((rd_T92 l0 x10_1).f8))) (ds := []) (bT 18 0) Zj rfl rfl ⟨(blk_cell BK301.out 0).trans rfl, (blk_cell BK301.out 1).trans rfl, (blk_cell BK301.out 2).trans rfl, (blk_cell BK301.out 3).trans rfl, (blk_cell BK301.out 4).trans rfl, (blk_cell BK301.out 5).trans rfl, (blk_cell BK301.out 6).trans rfl, (blk_cell BK301.out 7).trans rfl, (blk_cell BK301.out 8).trans rfl⟩ (fun hHeld => ?_); refine with_tabW impl_AreArticles.tab6 impl_AreArticles.bits6 (fun HT_ HW_ => ?_)
        generalize w30.drew = w31 at BK301 HB hHeld ⊢
        refine take_ (i := 0) (N := some 15) (v := ?_) (a' := ?_) (bT 18 1) rfl rfl (take_ofW HT_.out HW_.out Zj) (fun _ _ _ h => h) (Or.inl ⟨by rfl, ?_⟩) hHeld ?_ ?_
        rotate_left
        ·rintro w' ⟨s0, s1, s2, s3, s4, s5, s6, s7, s8⟩
         go_simp
         with_reducible rfl
        rotate_left
        ·exact Zput
        refine one_ (i := 1) (N := some 16) (bT 18 2) rfl rfl (one_of HT_.out Zj) (by decide) (fun K hK => ?_)
        refine goes_ Try.func129 Zj rfl #[.agg #[.string ((rd_T92 l0 x10_1).f0), .int .i64 ((rd_T92 l0 x10_1).f1), .int .i64 ((rd_T92 l0 x10_1).f2), .int .i64 ((rd_T92 l0 x10_1).f3), .int .i64 ((rd_T92 l0 x10_1).f4), .int .i64 ((rd_T92 l0 x10_1).f5), .int .i64 ((rd_T92 l0 x10_1).f6), .int .i64 ((rd_T92 l0 x10_1).f7), .int .i64 ((rd_T92 l0 x10_1).f8)]] (by rfl) rfl rfl Zo ?_
        with_reducible refine (impl_IsArticle.calls k1 ((rd_T92 l0 x10_1).f0) ((rd_T92 l0 x10_1).f1) ((rd_T92 l0 x10_1).f2) ((rd_T92 l0 x10_1).f3) ((rd_T92 l0 x10_1).f4) ((rd_T92 l0 x10_1).f5) ((rd_T92 l0 x10_1).f6) ((rd_T92 l0 x10_1).f7) ((rd_T92 l0 x10_1).f8) false _ A6.out).mono ?_
        rintro e w32 ⟨rfl, hb⟩
        refine ⟨_, rfl, ?_⟩
        have n0_ := Aside0.mk (blk_below (g := gb301) (o := .cells #[.string ((rd_T92 l0 x10_1).f0), .int .i64 ((rd_T92 l0 x10_1).f1), .int .i64 ((rd_T92 l0 x10_1).f2), .int .i64 ((rd_T92 l0 x10_1).f3), .int .i64 ((rd_T92 l0 x10_1).f4), .int .i64 ((rd_T92 l0 x10_1).f5), .int .i64 ((rd_T92 l0 x10_1).f6), .int .i64 ((rd_T92 l0 x10_1).f7), .int .i64 ((rd_T92 l0 x10_1).f8)] 92 (0, 0)) (have z0_ := BK301; Ze) hb)
        have n1_ := Aside0.mk (below_step (have z0_ := GE301; Zf) hb)
        clear BK301
        clear HB
        have BK301 := n0_
        have HB := n1_
        clear n0_ n1_
        (try clear hb)
        (try clear hb2)
        (try clear hk)
        (try clear hi)
        refine hK.out _ _ ⟨(blk_cell BK301.out 0).trans rfl, (blk_cell BK301.out 1).trans rfl, (blk_cell BK301.out 2).trans rfl, (blk_cell BK301.out 3).trans rfl, (blk_cell BK301.out 4).trans rfl, (blk_cell BK301.out 5).trans rfl, (blk_cell BK301.out 6).trans rfl, (blk_cell BK301.out 7).trans rfl, (blk_cell BK301.out 8).trans rfl⟩ (fun hHeld => ?_)
        clear hK K
        refine norm_ (a' := ?_) ?_ ?_
        rotate_left
        ·show Act.put _ (some 16) _ = _
         simp only [Act.put, List.setIfInBounds_toArray, List.set_cons_zero, List.set_cons_succ, i64_w, i32_w]
         rfl
        refine pureZ HT_ 2 (some 17) (bT 18 3) ?_
        refine pureZ HT_ 3 (some 18) (bT 18 4) ?_
        refine pure_ (i := 4) (N := some 19) (v := undef) (a' := ?_) (bT 18 5) rfl rfl (any_of HT_.out Zj) (fun _ _ _ h => h) (Or.inr ⟨by rfl, rfl⟩) ?_ ?_
        rotate_left
        ·exact Zput
        refine pure_ (i := 5) (N := some 20) (v := undef) (a' := ?_) (bT 18 6) rfl rfl (any_of HT_.out Zj) (fun _ _ _ h => h) (Or.inr ⟨by rfl, rfl⟩) ?_ ?_
        rotate_left
        ·exact Zput
        refine pure_ (i := 6) (N := some 21) (v := undef) (a' := ?_) (bT 18 7) rfl rfl (any_of HT_.out Zj) (fun _ _ _ h => h) (Or.inr ⟨by rfl, rfl⟩) ?_ ?_
        rotate_left
        ·exact Zput
        refine pure_ (i := 7) (N := some 22) (v := undef) (a' := ?_) (bT 18 8) rfl rfl (any_of HT_.out Zj) (fun _ _ _ h => h) (Or.inr ⟨by rfl, rfl⟩) ?_ ?_
        rotate_left
        ·exact Zput
        refine pure_ (i := 8) (N := some 23) (v := undef) (a' := ?_) (bT 18 9) rfl rfl (any_of HT_.out Zj) (fun _ _ _ h => h) (Or.inr ⟨by rfl, rfl⟩) ?_ ?_
        rotate_left
        ·exact Zput
        refine pure_ (i := 9) (N := some 24) (v := undef) (a' := ?_) (bT 18 10) rfl rfl (any_of HT_.out Zj) (fun _ _ _ h => h) (Or.inr ⟨by rfl, rfl⟩) ?_ ?_
        rotate_left
        ·exact Zput
        refine pure_ (i := 10) (N := some 25) (v := undef) (a' := ?_) (bT 18 11) rfl rfl (any_of HT_.out Zj) (fun _ _ _ h => h) (Or.inr ⟨by rfl, rfl⟩) ?_ ?_
        rotate_left
        ·exact Zput
        refine pure_ (i := 11) (N := some 26) (v := undef) (a' := ?_) (bT 18 12) rfl rfl (any_of HT_.out Zj) (fun _ _ _ h => h) (Or.inr ⟨by rfl, rfl⟩) ?_ ?_
        rotate_left
        ·exact Zput
        refine pure_ (i := 12) (N := some 27) (v := undef) (a' := ?_) (bT 18 13) rfl rfl (any_of HT_.out Zj) (fun _ _ _ h => h) (Or.inr ⟨by rfl, rfl⟩) ?_ ?_
        rotate_left
        ·exact Zput
        refine pure_ (i := 13) (N := some 28) (v := undef) (a' := ?_) (bT 18 14) rfl rfl (any_of HT_.out Zj) (fun _ _ _ h => h) (Or.inr ⟨by rfl, rfl⟩) ?_ ?_
        rotate_left
        ·exact Zput
        refine pure_ (i := 14) (N := some 29) (v := undef) (a' := ?_) (bT 18 15) rfl rfl (any_of HT_.out Zj) (fun _ _ _ h => h) (Or.inr ⟨by rfl, rfl⟩) ?_ ?_
        rotate_left
        ·exact Zput
        refine pure_ (i := 15) (N := some 30) (v := undef) (a' := ?_) (bT 18 16) rfl rfl (any_of HT_.out Zj) (fun _ _ _ h => h) (Or.inr ⟨by rfl, rfl⟩) ?_ ?_
        rotate_left
        ·exact Zput
        refine pure_ (i := 16) (N := some 31) (v := undef) (a' := ?_) (bT 18 17) rfl rfl (any_of HT_.out Zj) (fun _ _ _ h => h) (Or.inr ⟨by rfl, rfl⟩) ?_ ?_
        rotate_left
        ·exact Zput
        refine pureZ HT_ 17 (some 32) (bT 18 18) ?_
        refine done_ (done_of HT_.out Zj) ?_
        try go_wp2
        go_ret
        exact ⟨Zk, (have z0_ := GE301; Zf)⟩
      ·rw [if_neg c5] at H
       exact absurd H (by simp)
     ·rw [if_neg c4] at H
      exact absurd H (by simp)
    ·rw [if_neg c3] at H
     have c3b0 : decide (x10_1 < (l0.length : Int)) = false := decide_eq_false c3
     clear c3
     obtain rfl := Option.some.inj H
     go_wp2
     go_ret
     exact ⟨Zk, Zc⟩
end Go.Proofs.Ytnlbaflbhicooaa.F
namespace Go.Proofs.Ytnlbaflbhicooaa.F
open Go.RowKit Go.Proofs.YtnlbaflbhicooaaW.PrintWords Go.Proofs.YtnlbaflbhicooaaW.PrintLast Go.Proofs.YtnlbaflbhicooaaW.PrintMore
attribute [local go_sem] max2_int min2_int max_two min_two max_three min_three max_four min_four   -- for this text's walks alone
set_option linter.unusedVariables false
set_option linter.unusedSimpArgs false
mutual
def impl_IsShow.j0 : Nat → Bool → List (S108) → List (S92) → List (S43) → Option (Bool)
 | 0, _, _, _, _ => none
 | k + 1, x20, x324000, x324001, x324002 => if x20 = true then (some false) else (impl_IsShow.l0 k x324002 (x324002.length : Int) 0 x324000 x324001 x324002)
def impl_IsShow.l0 : Nat → List (S43) → Int → Int → List (S108) → List (S92) → List (S43) → Option (Bool)
 | 0, _, _, _, _, _, _ => none
 | k + 1, x22, x23, x24, x324000, x324001, x324002 => if x24 < x23 then (if 0 ≤ x24 then (if x24 < (x22.length : Int) then ((impl_within.f ((rd_T43 x22 x24).f3) 0 11).bind fun t328 => (if t328 = true then ((impl_firedAt.f k x324000 x324001 x324002 ((rd_T43 x22 x24).f0) ((rd_T43 x22 x24).f1) ((rd_T43 x22 x24).f2) ((rd_T43 x22 x24).f3)).bind fun t329 => (if t329 < 0 then (some false) else (impl_IsShow.l0 k x22 x23 (wrap64 (x24 + 1)) x324000 x324001 x324002))) else (some false))) else (none)) else (none)) else (some true)
end
def impl_IsShow.f (k : Nat) (l0_0 : List (S108)) (l0_1 : List (S92)) (l0_2 : List (S43)) : Option (Bool) := (impl_IsScore.f k l0_0).bind fun t324 => (if t324 = true then ((impl_AreArticles.f k l0_1).bind fun t325 => (if t325 = true then (impl_IsShow.j0 k (decide ((l0_2.length : Int) > 20)) l0_0 l0_1 l0_2) else (impl_IsShow.j0 k true l0_0 l0_1 l0_2))) else (impl_IsShow.j0 k true l0_0 l0_1 l0_2))
set_option maxHeartbeats 8000000 in
set_option maxRecDepth 100000 in
theorem impl_IsShow.calls (k : Nat) (A0_0 : Option Addr) (c0_0 : Nat) (l0_0 : List (S108)) (A0_1 : Option Addr) (c0_1 : Nat) (l0_1 : List (S92)) (A0_2 : Option Addr) (c0_2 : Nat) (l0_2 : List (S43)) (r : Bool) (w : World) (hr0_0 : Kd.C k108 w A0_0 l0_0.length l0_0) (hc0_0 : l0_0.length ≤ c0_0) (hr0_1 : Kd.C k92 w A0_1 l0_1.length l0_1) (hc0_1 : l0_1.length ≤ c0_1) (hr0_2 : Kd.C k43 w A0_2 l0_2.length l0_2) (hc0_2 : l0_2.length ≤ c0_2) (h : impl_IsShow.f k l0_0 l0_1 l0_2 = some r) :
  Calls Try.prog 37 #[.agg #[.slice A0_0 l0_0.length c0_0, .slice A0_1 l0_1.length c0_1, .slice A0_2 l0_2.length c0_2]] w fun e w' => e = .returned (.bool r) ∧ Below w.heap.size w w' := by
 have hu32 := Try.underlying32
 have hu43 := Try.underlying43
 have HR0_0 := Aside0.mk hr0_0
 have HC0_0 := Aside0.mk hc0_0
 clear hr0_0 hc0_0
 have HR0_1 := Aside0.mk hr0_1
 have HC0_1 := Aside0.mk hc0_1
 clear hr0_1 hc0_1
 have HR0_2 := Aside0.mk hr0_2
 have HC0_2 := Aside0.mk hc0_2
 clear hr0_2 hc0_2
 have HB := Aside0.mk (Below.refl w.heap.size w)
 have H : ((impl_IsScore.f k l0_0).bind fun t324 => (if t324 = true then ((impl_AreArticles.f k l0_1).bind fun t325 => (if t325 = true then (impl_IsShow.j0 k (decide ((l0_2.length : Int) > 20)) l0_0 l0_1 l0_2) else (impl_IsShow.j0 k true l0_0 l0_1 l0_2))) else (impl_IsShow.j0 k true l0_0 l0_1 l0_2))) = some r := h
 clear h
 have HC2 := Aside0.mk H
 clear H
 go_enter Try.func37, Try.ntmps37
 go_upto_region 1 with (first | ((with_reducible refine gate_dst (N := 1) rfl ?_); (try (refine gate_guard (by rfl) ?_; dsimp only)); refine box_event ?hg (N := 1) ?hd (cs := #[.slice A0_0 l0_0.length c0_0, .slice A0_1 l0_1.length c0_1, .slice A0_2 l0_2.length c0_2]) (t := 32) ?hr ?_; (case hd => rfl); (case hg => rfl); (case hr => first | (go_simp; done) | (go_simp; rfl)); intro gb323 hg w3 hbox hb; have n0_ := Aside0.mk (below_step Zc hb); have n1_ := Aside0.mk (hbox); have n2_ := Aside0.mk ((Zd : w.heap.size ≤ gb323)); have n3_ := Aside0.mk ((Zd : w.heap.size ≤ gb323)); clear HB; have HB := n0_; have BK323 := n1_; have GW323 := n2_; have GE323 := n3_; clear n0_ n1_ n2_ n3_; clear hb hbox hg))
 (try simp only [Act.put, List.setIfInBounds_toArray, List.set_cons_zero, List.set_cons_succ])
 go_cut [20] (fun v20 wc => ∃ (kq : Nat) (x20_1 : Bool), v20 = .bool x20_1 ∧ Aside0 (impl_IsShow.j0 kq x20_1 l0_0 l0_1 l0_2 = some r) ∧ Aside0 (kq ≤ k) ∧ Aside0 (wc.heap[gb323]? = some (.cells #[(.slice A0_0 l0_0.length c0_0), (.slice A0_1 l0_1.length c0_1), (.slice A0_2 l0_2.length c0_2)] 32 (0, 0))) ∧ Aside0 (Below w.heap.size w wc))
 case first =>
  have H := HC2.out
  clear HC2
  replace H := Option.bind_eq_some_iff.mp H
  obtain ⟨t324, A40, H⟩ := H
  replace H : (if t324 = true then ((impl_AreArticles.f k l0_1).bind fun t325 => (if t325 = true then (impl_IsShow.j0 k (decide ((l0_2.length : Int) > 20)) l0_0 l0_1 l0_2) else (impl_IsShow.j0 k true l0_0 l0_1 l0_2))) else (impl_IsShow.j0 k true l0_0 l0_1 l0_2)) = some r := H
  have A4 := Aside0.mk A40
  clear A40
  by_cases c5 : t324 = true
  ·subst c5
   have H1 : ((impl_AreArticles.f k l0_1).bind fun t325 => (if t325 = true then (impl_IsShow.j0 k (decide ((l0_2.length : Int) > 20)) l0_0 l0_1 l0_2) else (impl_IsShow.j0 k true l0_0 l0_1 l0_2))) = some r := by rw [if_pos rfl] at H; exact H
   clear H
   have H := H1
   clear H1
   replace H := Option.bind_eq_some_iff.mp H
   obtain ⟨t325, A60, H⟩ := H
   replace H : (if t325 = true then (impl_IsShow.j0 k (decide ((l0_2.length : Int) > 20)) l0_0 l0_1 l0_2) else (impl_IsShow.j0 k true l0_0 l0_1 l0_2)) = some r := H
   have A6 := Aside0.mk A60
   clear A60
   by_cases c7 : t325 = true
   ·subst c7
    have H1 : (impl_IsShow.j0 k (decide ((l0_2.length : Int) > 20)) l0_0 l0_1 l0_2) = some r := by rw [if_pos rfl] at H; exact H
    clear H
    have H := H1
    clear H1
    have H' := Aside0.mk H
    clear H
    obtain ⟨hcz8_0, hcz8_1, hcz8_2, hfz8_0, hfz8_1, hfz8_2⟩ := cz3 BK323
    go_wp2_with (first | ((with_reducible refine gate_callee (f := 96) rfl ?_); refine goesL_ (some 7) rfl rfl Try.func96 Zj rfl #[.slice A0_0 l0_0.length c0_0] rfl Zo ?_; (with_reducible refine (impl_IsScore.calls k _ _ l0_0 true _ ?side1 ?side2 A4.out).mono ?_); (case side1 => repeat (first | exact (Kd.C_below HR0_0.out HB.out) | (with_reducible refine Kd.C_alloc ?_ _) | (with_reducible refine Kd.C_drewN ?_ _) | (with_reducible refine Kd.C_drew ?_))); (case side2 => exact HC0_0.out); rintro e w9 ⟨rfl, hb⟩; refine ⟨_, rfl, ?_⟩; have n0_ := Aside0.mk (blk_below (g := gb323) (o := .cells #[.slice A0_0 l0_0.length c0_0, .slice A0_1 l0_1.length c0_1, .slice A0_2 l0_2.length c0_2] 32 (0, 0)) (have z0_ := BK323; Ze) hb); have n1_ := Aside0.mk (below_step (have z0_ := GE323; Zf) hb); clear BK323; clear HB; have BK323 := n0_; have HB := n1_; clear n0_ n1_; (try clear hb); (try clear hb2); (try clear hk); (try clear hi); obtain ⟨hcz10_0, hcz10_1, hcz10_2, hfz10_0, hfz10_1, hfz10_2⟩ := cz3 BK323) | (go_at_call 97; (with_reducible refine (impl_AreArticles.calls k _ _ l0_1 true _ ?side1 ?side2 A6.out).mono ?_); (case side1 => repeat (first | exact (Kd.C_below HR0_1.out HB.out) | (with_reducible refine Kd.C_alloc ?_ _) | (with_reducible refine Kd.C_drewN ?_ _) | (with_reducible refine Kd.C_drew ?_))); (case side2 => exact HC0_1.out); rintro e w11 ⟨rfl, hb⟩; have n0_ := Aside0.mk (blk_below (g := gb323) (o := .cells #[.slice A0_0 l0_0.length c0_0, .slice A0_1 l0_1.length c0_1, .slice A0_2 l0_2.length c0_2] 32 (0, 0)) (have z0_ := BK323; Ze) hb); have n1_ := Aside0.mk (below_step (have z0_ := GE323; Zf) hb); clear BK323; clear HB; have BK323 := n0_; have HB := n1_; clear n0_ n1_; (try clear hb); (try clear hb2); (try clear hk); (try clear hi); obtain ⟨hcz12_0, hcz12_1, hcz12_2, hfz12_0, hfz12_1, hfz12_2⟩ := cz3 BK323))
    go_meet
    case rel => exact ⟨_, (decide ((l0_2.length : Int) > 20)), Za, H', ⟨Zm⟩, ⟨(have z0_ := BK323; Ze)⟩, ⟨(have z0_ := GE323; Zf)⟩⟩
   ·replace c7 := Bool.eq_false_iff.mpr c7
    subst c7
    have H1 : (impl_IsShow.j0 k true l0_0 l0_1 l0_2) = some r := by rw [if_neg (show ¬ (false = true) by decide)] at H; exact H
    clear H
    have H := H1
    clear H1
    have H' := Aside0.mk H
    clear H
    obtain ⟨hcz13_0, hcz13_1, hcz13_2, hfz13_0, hfz13_1, hfz13_2⟩ := cz3 BK323
    go_wp2_with (first | ((with_reducible refine gate_callee (f := 96) rfl ?_); refine goesL_ (some 7) rfl rfl Try.func96 Zj rfl #[.slice A0_0 l0_0.length c0_0] rfl Zo ?_; (with_reducible refine (impl_IsScore.calls k _ _ l0_0 true _ ?side1 ?side2 A4.out).mono ?_); (case side1 => repeat (first | exact (Kd.C_below HR0_0.out HB.out) | (with_reducible refine Kd.C_alloc ?_ _) | (with_reducible refine Kd.C_drewN ?_ _) | (with_reducible refine Kd.C_drew ?_))); (case side2 => exact HC0_0.out); rintro e w14 ⟨rfl, hb⟩; refine ⟨_, rfl, ?_⟩; have n0_ := Aside0.mk (blk_below (g := gb323) (o := .cells #[.slice A0_0 l0_0.length c0_0, .slice A0_1 l0_1.length c0_1, .slice A0_2 l0_2.length c0_2] 32 (0, 0)) (have z0_ := BK323; Ze) hb); have n1_ := Aside0.mk (below_step (have z0_ := GE323; Zf) hb); clear BK323; clear HB; have BK323 := n0_; have HB := n1_; clear n0_ n1_; (try clear hb); (try clear hb2); (try clear hk); (try clear hi); obtain ⟨hcz15_0, hcz15_1, hcz15_2, hfz15_0, hfz15_1, hfz15_2⟩ := cz3 BK323) | (go_at_call 97; (with_reducible refine (impl_AreArticles.calls k _ _ l0_1 false _ ?side1 ?side2 A6.out).mono ?_); (case side1 => repeat (first | exact (Kd.C_below HR0_1.out HB.out) | (with_reducible refine Kd.C_alloc ?_ _) | (with_reducible refine Kd.C_drewN ?_ _) | (with_reducible refine Kd.C_drew ?_))); (case side2 => exact HC0_1.out); rintro e w16 ⟨rfl, hb⟩; have n0_ := Aside0.mk (blk_below (g := gb323) (o := .cells #[.slice A0_0 l0_0.length c0_0, .slice A0_1 l0_1.length c0_1, .slice A0_2 l0_2.length c0_2] 32 (0, 0)) (have z0_ := BK323; Ze) hb); have n1_ := Aside0.mk (below_step (have z0_ := GE323; Zf) hb); clear BK323; clear HB; have BK323 := n0_; have HB := n1_; clear n0_ n1_; (try clear hb); (try clear hb2); (try clear hk); (try clear hi)))
    go_meet
    case rel => exact ⟨_, (true), Za, H', ⟨Zm⟩, ⟨(have z0_ := BK323; Ze)⟩, ⟨(have z0_ := GE323; Zf)⟩⟩
  ·replace c5 := Bool.eq_false_iff.mpr c5
   subst c5
   have H1 : (impl_IsShow.j0 k true l0_0 l0_1 l0_2) = some r := by rw [if_neg (show ¬ (false = true) by decide)] at H; exact H
   clear H
   have H := H1
   clear H1
   have H' := Aside0.mk H
   clear H
   obtain ⟨hcz17_0, hcz17_1, hcz17_2, hfz17_0, hfz17_1, hfz17_2⟩ := cz3 BK323
   go_wp2_with (first | ((with_reducible refine gate_callee (f := 96) rfl ?_); refine goesL_ (some 7) rfl rfl Try.func96 Zj rfl #[.slice A0_0 l0_0.length c0_0] rfl Zo ?_; (with_reducible refine (impl_IsScore.calls k _ _ l0_0 false _ ?side1 ?side2 A4.out).mono ?_); (case side1 => repeat (first | exact (Kd.C_below HR0_0.out HB.out) | (with_reducible refine Kd.C_alloc ?_ _) | (with_reducible refine Kd.C_drewN ?_ _) | (with_reducible refine Kd.C_drew ?_))); (case side2 => exact HC0_0.out); rintro e w18 ⟨rfl, hb⟩; refine ⟨_, rfl, ?_⟩; have n0_ := Aside0.mk (blk_below (g := gb323) (o := .cells #[.slice A0_0 l0_0.length c0_0, .slice A0_1 l0_1.length c0_1, .slice A0_2 l0_2.length c0_2] 32 (0, 0)) (have z0_ := BK323; Ze) hb); have n1_ := Aside0.mk (below_step (have z0_ := GE323; Zf) hb); clear BK323; clear HB; have BK323 := n0_; have HB := n1_; clear n0_ n1_; (try clear hb); (try clear hb2); (try clear hk); (try clear hi)))
   go_meet
   case rel => exact ⟨_, (true), Za, H', ⟨Zm⟩, ⟨(have z0_ := BK323; Ze)⟩, ⟨(have z0_ := GE323; Zf)⟩⟩
 case rest =>
  clear HC2
  try clear p2
  try clear c3
  try clear c5
  try clear c7
  try clear c9
  try clear hcz10_0
  try clear hcz10_1
  try clear hcz10_2
  try clear hcz12_0
  try clear hcz12_1
  try clear hcz12_2
  try clear hcz13_0
  try clear hcz13_1
  try clear hcz13_2
  try clear hcz15_0
  try clear hcz15_1
  try clear hcz15_2
  try clear hcz17_0
  try clear hcz17_1
  try clear hcz17_2
  try clear hcz8_0
  try clear hcz8_1
  try clear hcz8_2
  try clear hfz10_0
  try clear hfz10_1
  try clear hfz10_2
  try clear hfz12_0
  try clear hfz12_1
  try clear hfz12_2
  try clear hfz13_0
  try clear hfz13_1
  try clear hfz13_2
  try clear hfz15_0
  try clear hfz15_1
  try clear hfz15_2
  try clear hfz17_0
  try clear hfz17_1
  try clear hfz17_2
  try clear hfz8_0
  try clear hfz8_1
  try clear hfz8_2
  obtain ⟨kq, x20_1, rfl, HA, HJ1, BK323, HB⟩ := hcut
  cases kq with
  | zero => exact absurd HA.out (by simp [impl_IsShow.j0])
  | succ kj1 =>
   have H := HA.out
   clear HA
   simp only [impl_IsShow.j0] at H
   by_cases c19 : x20_1 = true
   ·subst c19
    have H1 : (some false) = some r := by rw [if_pos rfl] at H; exact H
    clear H
    have H := H1
    clear H1
    obtain rfl := Option.some.inj H
    go_wp2
    go_ret
    exact ⟨Zk, (have z0_ := GE323; Zf)⟩
   ·replace c19 := Bool.eq_false_iff.mpr c19
    subst c19
    have H1 : (impl_IsShow.l0 kj1 l0_2 (l0_2.length : Int) 0 l0_0 l0_1 l0_2) = some r := by rw [if_neg (show ¬ (false = true) by decide)] at H; exact H
    clear H
    have H := H1
    clear H1
    have H' := Aside0.mk H
    clear H
    obtain ⟨hcz20_0, hcz20_1, hcz20_2, hfz20_0, hfz20_1, hfz20_2⟩ := cz3 BK323
    go_wp2
    go_loopg [24] kj1 (fun kq v24 w' => ∃ (x24_2 : Int), v24 = .int .i64 x24_2 ∧ Aside0 (impl_IsShow.l0 kq l0_2 (l0_2.length : Int) x24_2 l0_0 l0_1 l0_2 = some r) ∧ Aside0 (kq ≤ kj1) ∧ Aside0 (w'.heap[gb323]? = some (.cells #[(.slice A0_0 l0_0.length c0_0), (.slice A0_1 l0_1.length c0_1), (.slice A0_2 l0_2.length c0_2)] 32 (0, 0))) ∧ Aside0 (Below w.heap.size w w'))
    case atStart => exact ⟨(0), Za, H', ⟨Nat.le_refl _⟩, ⟨(have z0_ := BK323; Ze)⟩, ⟨(have z0_ := GE323; Zf)⟩⟩
    case round =>
     clear H'
     try clear c1
     try clear p2
     try clear c3
     try clear c5
     try clear c7
     try clear c9
     try clear c19
     try clear hcz10_0
     try clear hcz10_1
     try clear hcz10_2
     try clear hcz12_0
     try clear hcz12_1
     try clear hcz12_2
     try clear hcz13_0
     try clear hcz13_1
     try clear hcz13_2
     try clear hcz15_0
     try clear hcz15_1
     try clear hcz15_2
     try clear hcz17_0
     try clear hcz17_1
     try clear hcz17_2
     try clear hcz20_0
     try clear hcz20_1
     try clear hcz20_2
     try clear hcz8_0
     try clear hcz8_1
     try clear hcz8_2
     try clear hfz10_0
     try clear hfz10_1
     try clear hfz10_2
     try clear hfz12_0
     try clear hfz12_1
     try clear hfz12_2
     try clear hfz13_0
     try clear hfz13_1
     try clear hfz13_2
     try clear hfz15_0
     try clear hfz15_1
     try clear hfz15_2
     try clear hfz17_0
     try clear hfz17_1
     try clear hfz17_2
     try clear hfz20_0
     try clear hfz20_1
     try clear hfz20_2
     try clear hfz8_0
     try clear hfz8_1
     try clear hfz8_2
     try clear p2
     obtain ⟨x24_2, rfl, HA, HK2, BK323, HB⟩ := hrel
     cases gk with
     | zero => exact absurd HA.out (by simp [impl_IsShow.l0])
     | succ k2 =>
      have H := HA.out
      clear HA
      simp only [impl_IsShow.l0] at H
      by_cases c21 : x24_2 < (l0_2.length : Int)
      ·rw [if_pos c21] at H
       have c21b0 : decide (x24_2 < (l0_2.length : Int)) = true := decide_eq_true c21
       clear c21
       by_cases c22 : 0 ≤ x24_2
       ·rw [if_pos c22] at H
        have c22b0 : decide (0 ≤ x24_2) = true := decide_eq_true c22
        clear c22
        by_cases c23 : x24_2 < (l0_2.length : Int)
        ·rw [if_pos c23] at H
         have c23b0 : decide (x24_2 < (l0_2.length : Int)) = true := decide_eq_true c23
         clear c23
         replace H := Option.bind_eq_some_iff.mp H
         obtain ⟨t328, A240, H⟩ := H
         replace H : (if t328 = true then ((impl_firedAt.f k2 l0_0 l0_1 l0_2 ((rd_T43 l0_2 x24_2).f0) ((rd_T43 l0_2 x24_2).f1) ((rd_T43 l0_2 x24_2).f2) ((rd_T43 l0_2 x24_2).f3)).bind fun t329 => (if t329 < 0 then (some false) else (impl_IsShow.l0 k2 l0_2 (l0_2.length : Int) (wrap64 (x24_2 + 1)) l0_0 l0_1 l0_2))) else (some false)) = some r := H
         have A24 := Aside0.mk A240
         clear A240
         by_cases c25 : t328 = true
         ·subst c25
          have H1 : ((impl_firedAt.f k2 l0_0 l0_1 l0_2 ((rd_T43 l0_2 x24_2).f0) ((rd_T43 l0_2 x24_2).f1) ((rd_T43 l0_2 x24_2).f2) ((rd_T43 l0_2 x24_2).f3)).bind fun t329 => (if t329 < 0 then (some false) else (impl_IsShow.l0 k2 l0_2 (l0_2.length : Int) (wrap64 (x24_2 + 1)) l0_0 l0_1 l0_2))) = some r := by rw [if_pos rfl] at H; exact H
          clear H
          have H := H1
          clear H1
          replace H := Option.bind_eq_some_iff.mp H
          obtain ⟨t329, A260, H⟩ := H
          replace H : (if t329 < 0 then (some false) else (impl_IsShow.l0 k2 l0_2 (l0_2.length : Int) (wrap64 (x24_2 + 1)) l0_0 l0_1 l0_2)) = some r := H
          have A26 := Aside0.mk A260
          clear A260
          by_cases c27 : t329 < 0
          ·rw [if_pos c27] at H
           have c27b0 : decide (t329 < 0) = true := decide_eq_true c27
           clear c27
           obtain rfl := Option.some.inj H
           have p326 : 0 ≤ (x24_2 : Int) := of_decide_eq_true Zp
           have q326 : x24_2 < (l0_2.length : Int) := of_decide_eq_true Zp
           obtain ⟨ad326, e326, hx326_0, hx326_1, hx326_2, hx326_3⟩ := at_T43 HR0_2.out x24_2 p326 q326
           cases e326
           replace hx326_0 := cbH HB hx326_0
           replace hx326_1 := cbH HB hx326_1
           replace hx326_2 := cbH HB hx326_2
           replace hx326_3 := cbH HB hx326_3
           replace p326 := eq_true p326
           replace q326 := eq_true q326
           go_wp2_with (first | ((with_reducible refine gate_dst (N := 4) rfl ?_); (try (refine gate_guard (by rfl) ?_; dsimp only)); refine box_event ?hg (N := 4) ?hd (cs := #[.int .i64 0, .int .i64 0, .string (⟨#[]⟩ : ByteArray), .int .i64 0]) (t := 43) ?hr ?_; (case hd => rfl); (case hg => rfl); (case hr => first | (go_simp; done) | (go_simp; rfl)); intro gb327 hg w28 hbox hb; have n0_ := Aside0.mk (blk_below (g := gb323) (o := .cells #[.slice A0_0 l0_0.length c0_0, .slice A0_1 l0_1.length c0_1, .slice (some ad326) l0_2.length c0_2] 32 (0, 0)) (have z0_ := BK323; Ze) hb); have n1_ := Aside0.mk (below_step (have z0_ := GE323; Zf) hb); have n2_ := Aside0.mk (hbox); have n3_ := Aside0.mk (((have z0_ := GE323; Zg) : w.heap.size ≤ gb327)); have n4_ := Aside0.mk (((have z0_ := GE323; Zg) : w.heap.size ≤ gb327)); have n5_ := Aside0.mk (((have z0_ := BK323; Zbf) : gb323 ≠ gb327)); have n6_ := Aside0.mk (((have z0_ := BK323; Zbg) : gb327 ≠ gb323)); clear BK323; clear HB; have BK323 := n0_; have HB := n1_; have BK327 := n2_; have GW327 := n3_; have GE327 := n4_; have NB323_327 := n5_; have NB327_323 := n6_; clear n0_ n1_ n2_ n3_ n4_ n5_ n6_; clear hb hbox hg; have hnb29 := NB327_323.out; have hnc29 := NB323_327.out; obtain ⟨hcz30_0, hcz30_1, hcz30_2, hcz30_3, hfz30_0, hfz30_1, hfz30_2, hfz30_3⟩ := cz4 BK327) | ((with_reducible refine gate_callee (f := 89) rfl ?_); refine goesL_ (some 30) rfl rfl Try.func89 Zj rfl #[.int .i64 ((rd_T43 l0_2 x24_2).f3), .int .i64 0, .int .i64 11] rfl Zo ?_; (with_reducible refine (impl_within.calls ((rd_T43 l0_2 x24_2).f3) 0 11 true _ A24.out).mono ?_); rintro e w' ⟨rfl, ⟨nd, rfl⟩⟩; refine ⟨_, rfl, ?_⟩; obtain ⟨hcz31_0, hcz31_1, hcz31_2, hfz31_0, hfz31_1, hfz31_2⟩ := cz3 BK323) | (go_at_call 98; (with_reducible refine (impl_firedAt.calls k2 _ _ l0_0 _ _ l0_1 _ _ l0_2 ((rd_T43 l0_2 x24_2).f0) ((rd_T43 l0_2 x24_2).f1) ((rd_T43 l0_2 x24_2).f2) ((rd_T43 l0_2 x24_2).f3) t329 _ ?side1 ?side2 ?side3 ?side4 ?side5 ?side6 A26.out).mono ?_); (case side1 => exact Kd.C_below HR0_0.out (have z0_ := GE323; have z1_ := GE327; Zh)); (case side2 => exact HC0_0.out); (case side3 => exact Kd.C_below HR0_1.out (have z0_ := GE323; have z1_ := GE327; Zh)); (case side4 => exact HC0_1.out); (case side5 => exact Kd.C_below HR0_2.out (have z0_ := GE323; have z1_ := GE327; Zh)); (case side6 => exact HC0_2.out); rintro e w32 ⟨rfl, hb⟩; have n0_ := Aside0.mk (blk_below (g := gb323) (o := .cells #[.slice A0_0 l0_0.length c0_0, .slice A0_1 l0_1.length c0_1, .slice (some ad326) l0_2.length c0_2] 32 (0, 0)) (have z0_ := NB323_327; have z1_ := BK323; Zam) hb); have n1_ := Aside0.mk (blk_below (g := gb327) (o := .cells #[.int .i64 ((rd_T43 l0_2 x24_2).f0), .int .i64 ((rd_T43 l0_2 x24_2).f1), .string ((rd_T43 l0_2 x24_2).f2), .int .i64 ((rd_T43 l0_2 x24_2).f3)] 43 (0, 0)) (have z0_ := BK327; Zbh) hb); have n2_ := Aside0.mk (below_step (have z0_ := GE323; have z1_ := GE327; Zh) hb); clear BK323; clear BK327; clear HB; have BK323 := n0_; have BK327 := n1_; have HB := n2_; clear n0_ n1_ n2_; (try clear hb); (try clear hb2); (try clear hk); (try clear hi)))
           go_ret
           exact ⟨Zk, (have z0_ := GE323; have z1_ := GE327; Zh)⟩
          ·rw [if_neg c27] at H
           have c27b0 : decide (t329 < 0) = false := decide_eq_false c27
           clear c27
           have H' := Aside0.mk H
           clear H
           have p326 : 0 ≤ (x24_2 : Int) := of_decide_eq_true Zp
           have q326 : x24_2 < (l0_2.length : Int) := of_decide_eq_true Zp
           obtain ⟨ad326, e326, hx326_0, hx326_1, hx326_2, hx326_3⟩ := at_T43 HR0_2.out x24_2 p326 q326
           cases e326
           replace hx326_0 := cbH HB hx326_0
           replace hx326_1 := cbH HB hx326_1
           replace hx326_2 := cbH HB hx326_2
           replace hx326_3 := cbH HB hx326_3
           replace p326 := eq_true p326
           replace q326 := eq_true q326
           go_wp2_with (first | ((with_reducible refine gate_dst (N := 4) rfl ?_); (try (refine gate_guard (by rfl) ?_; dsimp only)); refine box_event ?hg (N := 4) ?hd (cs := #[.int .i64 0, .int .i64 0, .string (⟨#[]⟩ : ByteArray), .int .i64 0]) (t := 43) ?hr ?_; (case hd => rfl); (case hg => rfl); (case hr => first | (go_simp; done) | (go_simp; rfl)); intro gb327 hg w33 hbox hb; have n0_ := Aside0.mk (blk_below (g := gb323) (o := .cells #[.slice A0_0 l0_0.length c0_0, .slice A0_1 l0_1.length c0_1, .slice (some ad326) l0_2.length c0_2] 32 (0, 0)) (have z0_ := BK323; Ze) hb); have n1_ := Aside0.mk (below_step (have z0_ := GE323; Zf) hb); have n2_ := Aside0.mk (hbox); have n3_ := Aside0.mk (((have z0_ := GE323; Zg) : w.heap.size ≤ gb327)); have n4_ := Aside0.mk (((have z0_ := GE323; Zg) : w.heap.size ≤ gb327)); have n5_ := Aside0.mk (((have z0_ := BK323; Zbf) : gb323 ≠ gb327)); have n6_ := Aside0.mk (((have z0_ := BK323; Zbg) : gb327 ≠ gb323)); clear BK323; clear HB; have BK323 := n0_; have HB := n1_; have BK327 := n2_; have GW327 := n3_; have GE327 := n4_; have NB323_327 := n5_; have NB327_323 := n6_; clear n0_ n1_ n2_ n3_ n4_ n5_ n6_; clear hb hbox hg; have hnb34 := NB327_323.out; have hnc34 := NB323_327.out; obtain ⟨hcz35_0, hcz35_1, hcz35_2, hcz35_3, hfz35_0, hfz35_1, hfz35_2, hfz35_3⟩ := cz4 BK327) | ((with_reducible refine gate_callee (f := 89) rfl ?_); refine goesL_ (some 30) rfl rfl Try.func89 Zj rfl #[.int .i64 ((rd_T43 l0_2 x24_2).f3), .int .i64 0, .int .i64 11] rfl Zo ?_; (with_reducible refine (impl_within.calls ((rd_T43 l0_2 x24_2).f3) 0 11 true _ A24.out).mono ?_); rintro e w' ⟨rfl, ⟨nd, rfl⟩⟩; refine ⟨_, rfl, ?_⟩; obtain ⟨hcz36_0, hcz36_1, hcz36_2, hfz36_0, hfz36_1, hfz36_2⟩ := cz3 BK323) | (go_at_call 98; (with_reducible refine (impl_firedAt.calls k2 _ _ l0_0 _ _ l0_1 _ _ l0_2 ((rd_T43 l0_2 x24_2).f0) ((rd_T43 l0_2 x24_2).f1) ((rd_T43 l0_2 x24_2).f2) ((rd_T43 l0_2 x24_2).f3) t329 _ ?side1 ?side2 ?side3 ?side4 ?side5 ?side6 A26.out).mono ?_); (case side1 => exact Kd.C_below HR0_0.out (have z0_ := GE323; have z1_ := GE327; Zh)); (case side2 => exact HC0_0.out); (case side3 => exact Kd.C_below HR0_1.out (have z0_ := GE323; have z1_ := GE327; Zh)); (case side4 => exact HC0_1.out); (case side5 => exact Kd.C_below HR0_2.out (have z0_ := GE323; have z1_ := GE327; Zh)); (case side6 => exact HC0_2.out); rintro e w37 ⟨rfl, hb⟩; have n0_ := Aside0.mk (blk_below (g := gb323) (o := .cells #[.slice A0_0 l0_0.length c0_0, .slice A0_1 l0_1.length c0_1, .slice (some ad326) l0_2.length c0_2] 32 (0, 0)) (have z0_ := NB323_327; have z1_ := BK323; Zam) hb); have n1_ := Aside0.mk (blk_below (g := gb327) (o := .cells #[.int .i64 ((rd_T43 l0_2 x24_2).f0), .int .i64 ((rd_T43 l0_2 x24_2).f1), .string ((rd_T43 l0_2 x24_2).f2), .int .i64 ((rd_T43 l0_2 x24_2).f3)] 43 (0, 0)) (have z0_ := BK327; Zbh) hb); have n2_ := Aside0.mk (below_step (have z0_ := GE323; have z1_ := GE327; Zh) hb); clear BK323; clear BK327; clear HB; have BK323 := n0_; have BK327 := n1_; have HB := n2_; clear n0_ n1_ n2_; (try clear hb); (try clear hb2); (try clear hk); (try clear hi)))
           go_roundg k2
           case measure => have := HJ1.out; have := HK2.out; omega
           case rel => exact ⟨(wrap64 (x24_2 + 1)), Za, H', ⟨by have := HJ1.out; have := HK2.out; omega⟩, ⟨(have z0_ := BK323; Ze)⟩, ⟨(have z0_ := GE323; have z1_ := GE327; Zh)⟩⟩
         ·replace c25 := Bool.eq_false_iff.mpr c25
          subst c25
          have H1 : (some false) = some r := by rw [if_neg (show ¬ (false = true) by decide)] at H; exact H
          clear H
          have H := H1
          clear H1
          obtain rfl := Option.some.inj H
          have p326 : 0 ≤ (x24_2 : Int) := of_decide_eq_true Zp
          have q326 : x24_2 < (l0_2.length : Int) := of_decide_eq_true Zp
          obtain ⟨ad326, e326, hx326_0, hx326_1, hx326_2, hx326_3⟩ := at_T43 HR0_2.out x24_2 p326 q326
          cases e326
          replace hx326_0 := cbH HB hx326_0
          replace hx326_1 := cbH HB hx326_1
          replace hx326_2 := cbH HB hx326_2
          replace hx326_3 := cbH HB hx326_3
          replace p326 := eq_true p326
          replace q326 := eq_true q326
          go_wp2_with (first | ((with_reducible refine gate_dst (N := 4) rfl ?_); (try (refine gate_guard (by rfl) ?_; dsimp only)); refine box_event ?hg (N := 4) ?hd (cs := #[.int .i64 0, .int .i64 0, .string (⟨#[]⟩ : ByteArray), .int .i64 0]) (t := 43) ?hr ?_; (case hd => rfl); (case hg => rfl); (case hr => first | (go_simp; done) | (go_simp; rfl)); intro gb327 hg w38 hbox hb; have n0_ := Aside0.mk (blk_below (g := gb323) (o := .cells #[.slice A0_0 l0_0.length c0_0, .slice A0_1 l0_1.length c0_1, .slice (some ad326) l0_2.length c0_2] 32 (0, 0)) (have z0_ := BK323; Ze) hb); have n1_ := Aside0.mk (below_step (have z0_ := GE323; Zf) hb); have n2_ := Aside0.mk (hbox); have n3_ := Aside0.mk (((have z0_ := GE323; Zg) : w.heap.size ≤ gb327)); have n4_ := Aside0.mk (((have z0_ := GE323; Zg) : w.heap.size ≤ gb327)); have n5_ := Aside0.mk (((have z0_ := BK323; Zbf) : gb323 ≠ gb327)); have n6_ := Aside0.mk (((have z0_ := BK323; Zbg) : gb327 ≠ gb323)); clear BK323; clear HB; have BK323 := n0_; have HB := n1_; have BK327 := n2_; have GW327 := n3_; have GE327 := n4_; have NB323_327 := n5_; have NB327_323 := n6_; clear n0_ n1_ n2_ n3_ n4_ n5_ n6_; clear hb hbox hg; have hnb39 := NB327_323.out; have hnc39 := NB323_327.out; obtain ⟨hcz40_0, hcz40_1, hcz40_2, hcz40_3, hfz40_0, hfz40_1, hfz40_2, hfz40_3⟩ := cz4 BK327) | ((with_reducible refine gate_callee (f := 89) rfl ?_); refine goesL_ (some 30) rfl rfl Try.func89 Zj rfl #[.int .i64 ((rd_T43 l0_2 x24_2).f3), .int .i64 0, .int .i64 11] rfl Zo ?_; (with_reducible refine (impl_within.calls ((rd_T43 l0_2 x24_2).f3) 0 11 false _ A24.out).mono ?_); rintro e w' ⟨rfl, ⟨nd, rfl⟩⟩; refine ⟨_, rfl, ?_⟩))
          go_ret
          exact ⟨Zk, (have z0_ := GE323; have z1_ := GE327; Zh)⟩
        ·rw [if_neg c23] at H
         exact absurd H (by simp)
       ·rw [if_neg c22] at H
        exact absurd H (by simp)
      ·rw [if_neg c21] at H
       have c21b0 : decide (x24_2 < (l0_2.length : Int)) = false := decide_eq_false c21
       clear c21
       obtain rfl := Option.some.inj H
       go_wp2
       go_ret
       exact ⟨Zk, (have z0_ := GE323; Zf)⟩
end Go.Proofs.Ytnlbaflbhicooaa.F
namespace Go.Proofs.Ytnlbaflbhicooaa.F
open Go.RowKit Go.Proofs.YtnlbaflbhicooaaW.PrintWords Go.Proofs.YtnlbaflbhicooaaW.PrintLast Go.Proofs.YtnlbaflbhicooaaW.PrintMore
attribute [local go_sem] max2_int min2_int max_two min_two max_three min_three max_four min_four   -- for this text's walks alone
set_option linter.unusedVariables false
set_option linter.unusedSimpArgs false
def impl_twoCues.f (k : Nat) (l0_0 : List (S108)) (l0_1 : List (S92)) (l0_2 : List (S43)) (a1 : Int) (a2 : Int) : Option (Int) := (impl_IsShow.f k l0_0 l0_1 l0_2).bind fun t1044 => (if t1044 = true then ((impl_isIndex.f a1 (l0_2.length : Int)).bind fun t1045 => (if t1045 = true then ((impl_isIndex.f a2 (l0_2.length : Int)).bind fun t1046 => (if t1046 = true then (some 0) else (some 2))) else (some 2))) else (some 1))
set_option maxHeartbeats 8000000 in
set_option maxRecDepth 100000 in
theorem impl_twoCues.calls (k : Nat) (A0_0 : Option Addr) (c0_0 : Nat) (l0_0 : List (S108)) (A0_1 : Option Addr) (c0_1 : Nat) (l0_1 : List (S92)) (A0_2 : Option Addr) (c0_2 : Nat) (l0_2 : List (S43)) (a1 : Int) (a2 : Int) (r : Int) (w : World) (hr0_0 : Kd.C k108 w A0_0 l0_0.length l0_0) (hc0_0 : l0_0.length ≤ c0_0) (hr0_1 : Kd.C k92 w A0_1 l0_1.length l0_1) (hc0_1 : l0_1.length ≤ c0_1) (hr0_2 : Kd.C k43 w A0_2 l0_2.length l0_2) (hc0_2 : l0_2.length ≤ c0_2) (h : impl_twoCues.f k l0_0 l0_1 l0_2 a1 a2 = some r) :
  Calls Try.prog 104 #[.agg #[.slice A0_0 l0_0.length c0_0, .slice A0_1 l0_1.length c0_1, .slice A0_2 l0_2.length c0_2], .int .i64 a1, .int .i64 a2] w fun e w' => e = .returned (.int .i64 r) ∧ Below w.heap.size w w' := by
 have hu32 := Try.underlying32
 have HR0_0 := Aside0.mk hr0_0
 have HC0_0 := Aside0.mk hc0_0
 clear hr0_0 hc0_0
 have HR0_1 := Aside0.mk hr0_1
 have HC0_1 := Aside0.mk hc0_1
 clear hr0_1 hc0_1
 have HR0_2 := Aside0.mk hr0_2
 have HC0_2 := Aside0.mk hc0_2
 clear hr0_2 hc0_2
 have HB := Aside0.mk (Below.refl w.heap.size w)
 have H : ((impl_IsShow.f k l0_0 l0_1 l0_2).bind fun t1044 => (if t1044 = true then ((impl_isIndex.f a1 (l0_2.length : Int)).bind fun t1045 => (if t1045 = true then ((impl_isIndex.f a2 (l0_2.length : Int)).bind fun t1046 => (if t1046 = true then (some 0) else (some 2))) else (some 2))) else (some 1))) = some r := h
 clear h
 replace H := Option.bind_eq_some_iff.mp H
 obtain ⟨t1044, A40, H⟩ := H
 replace H : (if t1044 = true then ((impl_isIndex.f a1 (l0_2.length : Int)).bind fun t1045 => (if t1045 = true then ((impl_isIndex.f a2 (l0_2.length : Int)).bind fun t1046 => (if t1046 = true then (some 0) else (some 2))) else (some 2))) else (some 1)) = some r := H
 have A4 := Aside0.mk A40
 clear A40
 by_cases c5 : t1044 = true
 ·subst c5
  have H1 : ((impl_isIndex.f a1 (l0_2.length : Int)).bind fun t1045 => (if t1045 = true then ((impl_isIndex.f a2 (l0_2.length : Int)).bind fun t1046 => (if t1046 = true then (some 0) else (some 2))) else (some 2))) = some r := by rw [if_pos rfl] at H; exact H
  clear H
  have H := H1
  clear H1
  replace H := Option.bind_eq_some_iff.mp H
  obtain ⟨t1045, A60, H⟩ := H
  replace H : (if t1045 = true then ((impl_isIndex.f a2 (l0_2.length : Int)).bind fun t1046 => (if t1046 = true then (some 0) else (some 2))) else (some 2)) = some r := H
  have A6 := Aside0.mk A60
  clear A60
  by_cases c7 : t1045 = true
  ·subst c7
   have H1 : ((impl_isIndex.f a2 (l0_2.length : Int)).bind fun t1046 => (if t1046 = true then (some 0) else (some 2))) = some r := by rw [if_pos rfl] at H; exact H
   clear H
   have H := H1
   clear H1
   replace H := Option.bind_eq_some_iff.mp H
   obtain ⟨t1046, A80, H⟩ := H
   replace H : (if t1046 = true then (some 0) else (some 2)) = some r := H
   have A8 := Aside0.mk A80
   clear A80
   by_cases c9 : t1046 = true
   ·subst c9
    have H1 : (some 0) = some r := by rw [if_pos rfl] at H; exact H
    clear H
    have H := H1
    clear H1
    obtain rfl := Option.some.inj H
    go_enter Try.func104, Try.ntmps104
    go_wp2_with (first | ((with_reducible refine gate_dst (N := 3) rfl ?_); (try (refine gate_guard (by rfl) ?_; dsimp only)); refine box_event ?hg (N := 3) ?hd (cs := #[.slice A0_0 l0_0.length c0_0, .slice A0_1 l0_1.length c0_1, .slice A0_2 l0_2.length c0_2]) (t := 32) ?hr ?_; (case hd => rfl); (case hg => rfl); (case hr => first | (go_simp; done) | (go_simp; rfl)); intro gb1043 hg w10 hbox hb; have n0_ := Aside0.mk (below_step Zc hb); have n1_ := Aside0.mk (hbox); have n2_ := Aside0.mk ((Zd : w.heap.size ≤ gb1043)); have n3_ := Aside0.mk ((Zd : w.heap.size ≤ gb1043)); clear HB; have HB := n0_; have BK1043 := n1_; have GW1043 := n2_; have GE1043 := n3_; clear n0_ n1_ n2_ n3_; clear hb hbox hg; obtain ⟨hcz11_0, hcz11_1, hcz11_2, hfz11_0, hfz11_1, hfz11_2⟩ := cz3 BK1043) | ((with_reducible refine gate_callee (f := 37) rfl ?_); refine goesL_ (some 8) rfl rfl Try.func37 Zj rfl #[.agg #[.slice A0_0 l0_0.length c0_0, .slice A0_1 l0_1.length c0_1, .slice A0_2 l0_2.length c0_2]] rfl Zo ?_; (with_reducible refine (impl_IsShow.calls k _ _ l0_0 _ _ l0_1 _ _ l0_2 true _ ?side1 ?side2 ?side3 ?side4 ?side5 ?side6 A4.out).mono ?_); (case side1 => repeat (first | exact (Kd.C_below HR0_0.out HB.out) | (with_reducible refine Kd.C_alloc ?_ _) | (with_reducible refine Kd.C_drewN ?_ _) | (with_reducible refine Kd.C_drew ?_))); (case side2 => exact HC0_0.out); (case side3 => repeat (first | exact (Kd.C_below HR0_1.out HB.out) | (with_reducible refine Kd.C_alloc ?_ _) | (with_reducible refine Kd.C_drewN ?_ _) | (with_reducible refine Kd.C_drew ?_))); (case side4 => exact HC0_1.out); (case side5 => repeat (first | exact (Kd.C_below HR0_2.out HB.out) | (with_reducible refine Kd.C_alloc ?_ _) | (with_reducible refine Kd.C_drewN ?_ _) | (with_reducible refine Kd.C_drew ?_))); (case side6 => exact HC0_2.out); rintro e w12 ⟨rfl, hb⟩; refine ⟨_, rfl, ?_⟩; have n0_ := Aside0.mk (blk_below (g := gb1043) (o := .cells #[.slice A0_0 l0_0.length c0_0, .slice A0_1 l0_1.length c0_1, .slice A0_2 l0_2.length c0_2] 32 (0, 0)) (have z0_ := BK1043; Ze) hb); have n1_ := Aside0.mk (below_step (have z0_ := GE1043; Zf) hb); clear BK1043; clear HB; have BK1043 := n0_; have HB := n1_; clear n0_ n1_; (try clear hb); (try clear hb2); (try clear hk); (try clear hi); obtain ⟨hcz13_0, hcz13_1, hcz13_2, hfz13_0, hfz13_1, hfz13_2⟩ := cz3 BK1043) | ((with_reducible refine gate_callee (f := 73) rfl ?_); refine goesL_ (some 14) rfl rfl Try.func73 Zj rfl #[.int .i64 a1, .int .i64 (l0_2.length : Int)] rfl Zo ?_; (with_reducible refine (impl_isIndex.calls a1 (l0_2.length : Int) true _ A6.out).mono ?_); rintro e w' ⟨rfl, ⟨nd, rfl⟩⟩; refine ⟨_, rfl, ?_⟩) | (go_at_call 73; (with_reducible refine (impl_isIndex.calls a2 (l0_2.length : Int) true _ A8.out).mono ?_); rintro e w' ⟨rfl, ⟨nd, rfl⟩⟩))
    go_ret
    exact ⟨Zk, (have z0_ := GE1043; Zf)⟩
   ·replace c9 := Bool.eq_false_iff.mpr c9
    subst c9
    have H1 : (some 2) = some r := by rw [if_neg (show ¬ (false = true) by decide)] at H; exact H
    clear H
    have H := H1
    clear H1
    obtain rfl := Option.some.inj H
    go_enter Try.func104, Try.ntmps104
    go_wp2_with (first | ((with_reducible refine gate_dst (N := 3) rfl ?_); (try (refine gate_guard (by rfl) ?_; dsimp only)); refine box_event ?hg (N := 3) ?hd (cs := #[.slice A0_0 l0_0.length c0_0, .slice A0_1 l0_1.length c0_1, .slice A0_2 l0_2.length c0_2]) (t := 32) ?hr ?_; (case hd => rfl); (case hg => rfl); (case hr => first | (go_simp; done) | (go_simp; rfl)); intro gb1043 hg w14 hbox hb; have n0_ := Aside0.mk (below_step Zc hb); have n1_ := Aside0.mk (hbox); have n2_ := Aside0.mk ((Zd : w.heap.size ≤ gb1043)); have n3_ := Aside0.mk ((Zd : w.heap.size ≤ gb1043)); clear HB; have HB := n0_; have BK1043 := n1_; have GW1043 := n2_; have GE1043 := n3_; clear n0_ n1_ n2_ n3_; clear hb hbox hg; obtain ⟨hcz15_0, hcz15_1, hcz15_2, hfz15_0, hfz15_1, hfz15_2⟩ := cz3 BK1043) | ((with_reducible refine gate_callee (f := 37) rfl ?_); refine goesL_ (some 8) rfl rfl Try.func37 Zj rfl #[.agg #[.slice A0_0 l0_0.length c0_0, .slice A0_1 l0_1.length c0_1, .slice A0_2 l0_2.length c0_2]] rfl Zo ?_; (with_reducible refine (impl_IsShow.calls k _ _ l0_0 _ _ l0_1 _ _ l0_2 true _ ?side1 ?side2 ?side3 ?side4 ?side5 ?side6 A4.out).mono ?_); (case side1 => repeat (first | exact (Kd.C_below HR0_0.out HB.out) | (with_reducible refine Kd.C_alloc ?_ _) | (with_reducible refine Kd.C_drewN ?_ _) | (with_reducible refine Kd.C_drew ?_))); (case side2 => exact HC0_0.out); (case side3 => repeat (first | exact (Kd.C_below HR0_1.out HB.out) | (with_reducible refine Kd.C_alloc ?_ _) | (with_reducible refine Kd.C_drewN ?_ _) | (with_reducible refine Kd.C_drew ?_))); (case side4 => exact HC0_1.out); (case side5 => repeat (first | exact (Kd.C_below HR0_2.out HB.out) | (with_reducible refine Kd.C_alloc ?_ _) | (with_reducible refine Kd.C_drewN ?_ _) | (with_reducible refine Kd.C_drew ?_))); (case side6 => exact HC0_2.out); rintro e w16 ⟨rfl, hb⟩; refine ⟨_, rfl, ?_⟩; have n0_ := Aside0.mk (blk_below (g := gb1043) (o := .cells #[.slice A0_0 l0_0.length c0_0, .slice A0_1 l0_1.length c0_1, .slice A0_2 l0_2.length c0_2] 32 (0, 0)) (have z0_ := BK1043; Ze) hb); have n1_ := Aside0.mk (below_step (have z0_ := GE1043; Zf) hb); clear BK1043; clear HB; have BK1043 := n0_; have HB := n1_; clear n0_ n1_; (try clear hb); (try clear hb2); (try clear hk); (try clear hi); obtain ⟨hcz17_0, hcz17_1, hcz17_2, hfz17_0, hfz17_1, hfz17_2⟩ := cz3 BK1043) | ((with_reducible refine gate_callee (f := 73) rfl ?_); refine goesL_ (some 14) rfl rfl Try.func73 Zj rfl #[.int .i64 a1, .int .i64 (l0_2.length : Int)] rfl Zo ?_; (with_reducible refine (impl_isIndex.calls a1 (l0_2.length : Int) true _ A6.out).mono ?_); rintro e w' ⟨rfl, ⟨nd, rfl⟩⟩; refine ⟨_, rfl, ?_⟩) | (go_at_call 73; (with_reducible refine (impl_isIndex.calls a2 (l0_2.length : Int) false _ A8.out).mono ?_); rintro e w' ⟨rfl, ⟨nd, rfl⟩⟩))
    go_ret
    exact ⟨Zk, (have z0_ := GE1043; Zf)⟩
  ·replace c7 := Bool.eq_false_iff.mpr c7
   subst c7
   have H1 : (some 2) = some r := by rw [if_neg (show ¬ (false = true) by decide)] at H; exact H
   clear H
   have H := H1
   clear H1
   obtain rfl := Option.some.inj H
   go_enter Try.func104, Try.ntmps104
   go_wp2_with (first | ((with_reducible refine gate_dst (N := 3) rfl ?_); (try (refine gate_guard (by rfl) ?_; dsimp only)); refine box_event ?hg (N := 3) ?hd (cs := #[.slice A0_0 l0_0.length c0_0, .slice A0_1 l0_1.length c0_1, .slice A0_2 l0_2.length c0_2]) (t := 32) ?hr ?_; (case hd => rfl); (case hg => rfl); (case hr => first | (go_simp; done) | (go_simp; rfl)); intro gb1043 hg w18 hbox hb; have n0_ := Aside0.mk (below_step Zc hb); have n1_ := Aside0.mk (hbox); have n2_ := Aside0.mk ((Zd : w.heap.size ≤ gb1043)); have n3_ := Aside0.mk ((Zd : w.heap.size ≤ gb1043)); clear HB; have HB := n0_; have BK1043 := n1_; have GW1043 := n2_; have GE1043 := n3_; clear n0_ n1_ n2_ n3_; clear hb hbox hg; obtain ⟨hcz19_0, hcz19_1, hcz19_2, hfz19_0, hfz19_1, hfz19_2⟩ := cz3 BK1043) | ((with_reducible refine gate_callee (f := 37) rfl ?_); refine goesL_ (some 8) rfl rfl Try.func37 Zj rfl #[.agg #[.slice A0_0 l0_0.length c0_0, .slice A0_1 l0_1.length c0_1, .slice A0_2 l0_2.length c0_2]] rfl Zo ?_; (with_reducible refine (impl_IsShow.calls k _ _ l0_0 _ _ l0_1 _ _ l0_2 true _ ?side1 ?side2 ?side3 ?side4 ?side5 ?side6 A4.out).mono ?_); (case side1 => repeat (first | exact (Kd.C_below HR0_0.out HB.out) | (with_reducible refine Kd.C_alloc ?_ _) | (with_reducible refine Kd.C_drewN ?_ _) | (with_reducible refine Kd.C_drew ?_))); (case side2 => exact HC0_0.out); (case side3 => repeat (first | exact (Kd.C_below HR0_1.out HB.out) | (with_reducible refine Kd.C_alloc ?_ _) | (with_reducible refine Kd.C_drewN ?_ _) | (with_reducible refine Kd.C_drew ?_))); (case side4 => exact HC0_1.out); (case side5 => repeat (first | exact (Kd.C_below HR0_2.out HB.out) | (with_reducible refine Kd.C_alloc ?_ _) | (with_reducible refine Kd.C_drewN ?_ _) | (with_reducible refine Kd.C_drew ?_))); (case side6 => exact HC0_2.out); rintro e w20 ⟨rfl, hb⟩; refine ⟨_, rfl, ?_⟩; have n0_ := Aside0.mk (blk_below (g := gb1043) (o := .cells #[.slice A0_0 l0_0.length c0_0, .slice A0_1 l0_1.length c0_1, .slice A0_2 l0_2.length c0_2] 32 (0, 0)) (have z0_ := BK1043; Ze) hb); have n1_ := Aside0.mk (below_step (have z0_ := GE1043; Zf) hb); clear BK1043; clear HB; have BK1043 := n0_; have HB := n1_; clear n0_ n1_; (try clear hb); (try clear hb2); (try clear hk); (try clear hi); obtain ⟨hcz21_0, hcz21_1, hcz21_2, hfz21_0, hfz21_1, hfz21_2⟩ := cz3 BK1043) | ((with_reducible refine gate_callee (f := 73) rfl ?_); refine goesL_ (some 14) rfl rfl Try.func73 Zj rfl #[.int .i64 a1, .int .i64 (l0_2.length : Int)] rfl Zo ?_; (with_reducible refine (impl_isIndex.calls a1 (l0_2.length : Int) false _ A6.out).mono ?_); rintro e w' ⟨rfl, ⟨nd, rfl⟩⟩; refine ⟨_, rfl, ?_⟩))
   go_ret
   exact ⟨Zk, (have z0_ := GE1043; Zf)⟩
 ·replace c5 := Bool.eq_false_iff.mpr c5
  subst c5
  have H1 : (some 1) = some r := by rw [if_neg (show ¬ (false = true) by decide)] at H; exact H
  clear H
  have H := H1
  clear H1
  obtain rfl := Option.some.inj H
  go_enter Try.func104, Try.ntmps104
  go_wp2_with (first | ((with_reducible refine gate_dst (N := 3) rfl ?_); (try (refine gate_guard (by rfl) ?_; dsimp only)); refine box_event ?hg (N := 3) ?hd (cs := #[.slice A0_0 l0_0.length c0_0, .slice A0_1 l0_1.length c0_1, .slice A0_2 l0_2.length c0_2]) (t := 32) ?hr ?_; (case hd => rfl); (case hg => rfl); (case hr => first | (go_simp; done) | (go_simp; rfl)); intro gb1043 hg w22 hbox hb; have n0_ := Aside0.mk (below_step Zc hb); have n1_ := Aside0.mk (hbox); have n2_ := Aside0.mk ((Zd : w.heap.size ≤ gb1043)); have n3_ := Aside0.mk ((Zd : w.heap.size ≤ gb1043)); clear HB; have HB := n0_; have BK1043 := n1_; have GW1043 := n2_; have GE1043 := n3_; clear n0_ n1_ n2_ n3_; clear hb hbox hg; obtain ⟨hcz23_0, hcz23_1, hcz23_2, hfz23_0, hfz23_1, hfz23_2⟩ := cz3 BK1043) | ((with_reducible refine gate_callee (f := 37) rfl ?_); refine goesL_ (some 8) rfl rfl Try.func37 Zj rfl #[.agg #[.slice A0_0 l0_0.length c0_0, .slice A0_1 l0_1.length c0_1, .slice A0_2 l0_2.length c0_2]] rfl Zo ?_; (with_reducible refine (impl_IsShow.calls k _ _ l0_0 _ _ l0_1 _ _ l0_2 false _ ?side1 ?side2 ?side3 ?side4 ?side5 ?side6 A4.out).mono ?_); (case side1 => repeat (first | exact (Kd.C_below HR0_0.out HB.out) | (with_reducible refine Kd.C_alloc ?_ _) | (with_reducible refine Kd.C_drewN ?_ _) | (with_reducible refine Kd.C_drew ?_))); (case side2 => exact HC0_0.out); (case side3 => repeat (first | exact (Kd.C_below HR0_1.out HB.out) | (with_reducible refine Kd.C_alloc ?_ _) | (with_reducible refine Kd.C_drewN ?_ _) | (with_reducible refine Kd.C_drew ?_))); (case side4 => exact HC0_1.out); (case side5 => repeat (first | exact (Kd.C_below HR0_2.out HB.out) | (with_reducible refine Kd.C_alloc ?_ _) | (with_reducible refine Kd.C_drewN ?_ _) | (with_reducible refine Kd.C_drew ?_))); (case side6 => exact HC0_2.out); rintro e w24 ⟨rfl, hb⟩; refine ⟨_, rfl, ?_⟩; have n0_ := Aside0.mk (blk_below (g := gb1043) (o := .cells #[.slice A0_0 l0_0.length c0_0, .slice A0_1 l0_1.length c0_1, .slice A0_2 l0_2.length c0_2] 32 (0, 0)) (have z0_ := BK1043; Ze) hb); have n1_ := Aside0.mk (below_step (have z0_ := GE1043; Zf) hb); clear BK1043; clear HB; have BK1043 := n0_; have HB := n1_; clear n0_ n1_; (try clear hb); (try clear hb2); (try clear hk); (try clear hi)))
  go_ret
  exact ⟨Zk, (have z0_ := GE1043; Zf)⟩
end Go.Proofs.Ytnlbaflbhicooaa.F
namespace Go.Proofs.Ytnlbaflbhicooaa.F
open Go.RowKit Go.Proofs.YtnlbaflbhicooaaW.PrintWords Go.Proofs.YtnlbaflbhicooaaW.PrintLast Go.Proofs.YtnlbaflbhicooaaW.PrintMore
attribute [local go_sem] max2_int min2_int max_two min_two max_three min_three max_four min_four   -- for this text's walks alone
set_option linter.unusedVariables false
set_option linter.unusedSimpArgs false
mutual
def impl_MayMeet.l0 : Nat → Int → List (List Int) → Int → Int → List (S108) → List (S92) → List (S43) → Option (Bool × Int)
 | 0, _, _, _, _, _, _, _ => none
 | k + 1, x2, x26, x27, x28, x1126000, x1126001, x1126002 => if x28 < x27 then (if 0 ≤ x28 then (if x28 < (x26.length : Int) then (if 0 ≤ x2 then (if x2 < (x1126002.length : Int) then ((impl_windowsOfCue.f k x1126000 x1126001 x1126002 ((rd_T43 x1126002 x2).f0) ((rd_T43 x1126002 x2).f1) ((rd_T43 x1126002 x2).f2) ((rd_T43 x1126002 x2).f3)).bind fun t1133 => (impl_MayMeet.l1 k x2 (rd_L9 x26 x28) x26 x27 x28 t1133 (t1133.length : Int) 0 x1126000 x1126001 x1126002)) else (none)) else (none)) else (none)) else (none)) else (some (false, 0))
def impl_MayMeet.l1 : Nat → Int → List Int → List (List Int) → Int → Int → List (List Int) → Int → Int → List (S108) → List (S92) → List (S43) → Option (Bool × Int)
 | 0, _, _, _, _, _, _, _, _, _, _, _ => none
 | k + 1, x2, x10, x26, x27, x28, x38, x39, x40, x1126000, x1126001, x1126002 => if x40 < x39 then (if 0 ≤ x40 then (if x40 < (x38.length : Int) then (if 0 < (x10.length : Int) then (if 1 < ((rd_L9 x38 x40).length : Int) then (if (rd x10 0) ≤ (rd (rd_L9 x38 x40) 1) then (if 0 < ((rd_L9 x38 x40).length : Int) then (if 1 < (x10.length : Int) then (if (rd (rd_L9 x38 x40) 0) ≤ (rd x10 1) then (some (true, 0)) else (impl_MayMeet.l1 k x2 x10 x26 x27 x28 x38 x39 (wrap64 (x40 + 1)) x1126000 x1126001 x1126002)) else (none)) else (none)) else (impl_MayMeet.l1 k x2 x10 x26 x27 x28 x38 x39 (wrap64 (x40 + 1)) x1126000 x1126001 x1126002)) else (none)) else (none)) else (none)) else (none)) else (impl_MayMeet.l0 k x2 x26 x27 (wrap64 (x28 + 1)) x1126000 x1126001 x1126002)
end
def impl_MayMeet.f (k : Nat) (l0_0 : List (S108)) (l0_1 : List (S92)) (l0_2 : List (S43)) (a1 : Int) (a2 : Int) : Option (Bool × Int) := (impl_twoCues.f k l0_0 l0_1 l0_2 a1 a2).bind fun t1126 => (if t1126 = 0 then (if 0 ≤ a1 then (if a1 < (l0_2.length : Int) then ((impl_windowsOfCue.f k l0_0 l0_1 l0_2 ((rd_T43 l0_2 a1).f0) ((rd_T43 l0_2 a1).f1) ((rd_T43 l0_2 a1).f2) ((rd_T43 l0_2 a1).f3)).bind fun t1128 => (impl_MayMeet.l0 k a2 t1128 (t1128.length : Int) 0 l0_0 l0_1 l0_2)) else (none)) else (none)) else (some (false, t1126)))
def impl_MayMeet.T4 : Bool × List (List Nat × List Nat) := (true, [([], []), ([], []), ([1], [1]), ([], []), ([2, 3], [2, 3]), ([4], [4]), ([0, 5], [0, 5]), ([6], [6]), ([], [])])
def impl_MayMeet.B4 : List Nat := [0, 0, 2, 0, 14, 30, 63, 127, 0]
theorem impl_MayMeet.tab4 : rtab .any (opsOf Try.f43 4) = impl_MayMeet.T4 := by kernel_rfl
theorem impl_MayMeet.bits4 : waitsOk impl_MayMeet.T4.2 impl_MayMeet.B4 = true := by kernel_rfl
def impl_MayMeet.T7 : Bool × List (List Nat × List Nat) := (true, [([], []), ([], []), ([1], [1]), ([], []), ([2, 3], [2, 3]), ([4], [4]), ([0, 5], [0, 5]), ([6], [6]), ([], [])])
def impl_MayMeet.B7 : List Nat := [0, 0, 2, 0, 14, 30, 63, 127, 0]
theorem impl_MayMeet.tab7 : rtab .any (opsOf Try.f43 7) = impl_MayMeet.T7 := by kernel_rfl
theorem impl_MayMeet.bits7 : waitsOk impl_MayMeet.T7.2 impl_MayMeet.B7 = true := by kernel_rfl
def impl_MayMeet.T10 : Bool × List (List Nat × List Nat) := (true, [([], []), ([0], [0]), ([1], [1]), ([], []), ([3], [3]), ([4], [4]), ([2, 5], [2, 5]), ([6], [6]), ([7], [7]), ([8, 7], [7, 8]), ([9, 7], [7, 9]), ([7], [7]), ([11, 7], [7, 11]), ([12, 7], [7, 12]), ([10, 13, 7], [7, 10, 13]), ([7, 14], [7, 14])])
def impl_MayMeet.B10 : List Nat := [0, 1, 3, 0, 8, 24, 63, 127, 255, 511, 1023, 255, 2303, 6399, 16383, 32767]
theorem impl_MayMeet.tab10 : rtab .any (opsOf Try.f43 10) = impl_MayMeet.T10 := by kernel_rfl
theorem impl_MayMeet.bits10 : waitsOk impl_MayMeet.T10.2 impl_MayMeet.B10 = true := by kernel_rfl
set_option maxHeartbeats 8000000 in
set_option maxRecDepth 100000 in
theorem impl_MayMeet.calls (k : Nat) (A0_0 : Option Addr) (c0_0 : Nat) (l0_0 : List (S108)) (A0_1 : Option Addr) (c0_1 : Nat) (l0_1 : List (S92)) (A0_2 : Option Addr) (c0_2 : Nat) (l0_2 : List (S43)) (a1 : Int) (a2 : Int) (r1 : Bool) (r2 : Int) (w : World) (hr0_0 : Kd.C k108 w A0_0 l0_0.length l0_0) (hc0_0 : l0_0.length ≤ c0_0) (hr0_1 : Kd.C k92 w A0_1 l0_1.length l0_1) (hc0_1 : l0_1.length ≤ c0_1) (hr0_2 : Kd.C k43 w A0_2 l0_2.length l0_2) (hc0_2 : l0_2.length ≤ c0_2) (h : impl_MayMeet.f k l0_0 l0_1 l0_2 a1 a2 = some (r1, r2)) :
  Calls Try.prog 43 #[.agg #[.slice A0_0 l0_0.length c0_0, .slice A0_1 l0_1.length c0_1, .slice A0_2 l0_2.length c0_2], .int .i64 a1, .int .i64 a2] w fun e w' => e = .returned (.tuple #[.bool r1, .int .i64 r2]) ∧ Below w.heap.size w w' := by
 have hu32 := Try.underlying32
 have hu43 := Try.underlying43
 have HR0_0 := Aside0.mk hr0_0
 have HC0_0 := Aside0.mk hc0_0
 clear hr0_0 hc0_0
 have HR0_1 := Aside0.mk hr0_1
 have HC0_1 := Aside0.mk hc0_1
 clear hr0_1 hc0_1
 have HR0_2 := Aside0.mk hr0_2
 have HC0_2 := Aside0.mk hc0_2
 clear hr0_2 hc0_2
 have HB := Aside0.mk (Below.refl w.heap.size w)
 have H : ((impl_twoCues.f k l0_0 l0_1 l0_2 a1 a2).bind fun t1126 => (if t1126 = 0 then (if 0 ≤ a1 then (if a1 < (l0_2.length : Int) then ((impl_windowsOfCue.f k l0_0 l0_1 l0_2 ((rd_T43 l0_2 a1).f0) ((rd_T43 l0_2 a1).f1) ((rd_T43 l0_2 a1).f2) ((rd_T43 l0_2 a1).f3)).bind fun t1128 => (impl_MayMeet.l0 k a2 t1128 (t1128.length : Int) 0 l0_0 l0_1 l0_2)) else (none)) else (none)) else (some (false, t1126)))) = some (r1, r2) := h
 clear h
 replace H := Option.bind_eq_some_iff.mp H
 obtain ⟨t1126, A40, H⟩ := H
 replace H : (if t1126 = 0 then (if 0 ≤ a1 then (if a1 < (l0_2.length : Int) then ((impl_windowsOfCue.f k l0_0 l0_1 l0_2 ((rd_T43 l0_2 a1).f0) ((rd_T43 l0_2 a1).f1) ((rd_T43 l0_2 a1).f2) ((rd_T43 l0_2 a1).f3)).bind fun t1128 => (impl_MayMeet.l0 k a2 t1128 (t1128.length : Int) 0 l0_0 l0_1 l0_2)) else (none)) else (none)) else (some (false, t1126))) = some (r1, r2) := H
 have A4 := Aside0.mk A40
 clear A40
 by_cases c5 : t1126 = 0
 ·rw [if_pos c5] at H
  have c5b0 : (t1126 == 0) = true := beq_iff_eq.mpr c5
  have c5b1 : (t1126 != 0) = false := bne_eq_false_iff_eq.mpr c5
  clear c5
  by_cases c6 : 0 ≤ a1
  ·rw [if_pos c6] at H
   have c6b0 : decide (0 ≤ a1) = true := decide_eq_true c6
   clear c6
   by_cases c7 : a1 < (l0_2.length : Int)
   ·rw [if_pos c7] at H
    have c7b0 : decide (a1 < (l0_2.length : Int)) = true := decide_eq_true c7
    clear c7
    replace H := Option.bind_eq_some_iff.mp H
    obtain ⟨t1128, A80, H⟩ := H
    replace H : (impl_MayMeet.l0 k a2 t1128 (t1128.length : Int) 0 l0_0 l0_1 l0_2) = some (r1, r2) := H
    have A8 := Aside0.mk A80
    clear A80
    have H' := Aside0.mk H
    clear H
    go_enter Try.func43, Try.ntmps43
    try go_wp2_with (first | ((with_reducible refine gate_dst (N := 3) rfl ?_); refine box_event ?hg (N := 3) ?hd (cs := #[.slice A0_0 l0_0.length c0_0, .slice A0_1 l0_1.length c0_1, .slice A0_2 l0_2.length c0_2]) (t := 32) ?hr ?_; (case hd => rfl); (case hg => rfl); (case hr => first | (go_simp; done) | (go_simp; rfl)); intro gb1125 hg w9 hbox hb; have n0_ := Aside0.mk (below_step Zc hb); have n1_ := Aside0.mk (hbox); have n2_ := Aside0.mk ((Zd : w.heap.size ≤ gb1125)); have n3_ := Aside0.mk ((Zd : w.heap.size ≤ gb1125)); clear HB; have HB := n0_; have BK1125 := n1_; have GW1125 := n2_; have GE1125 := n3_; clear n0_ n1_ n2_ n3_; clear hb hbox hg; obtain ⟨hcz10_0, hcz10_1, hcz10_2, hfz10_0, hfz10_1, hfz10_2⟩ := cz3 BK1125) | ((with_reducible refine gate_callee (f := 104) rfl ?_); refine goesL_ (some 16) rfl rfl Try.func104 Zj rfl #[.agg #[.slice A0_0 l0_0.length c0_0, .slice A0_1 l0_1.length c0_1, .slice A0_2 l0_2.length c0_2], .int .i64 a1, .int .i64 a2] rfl Zo ?_; (with_reducible refine (impl_twoCues.calls k _ _ l0_0 _ _ l0_1 _ _ l0_2 a1 a2 t1126 _ ?side1 ?side2 ?side3 ?side4 ?side5 ?side6 A4.out).mono ?_); (case side1 => repeat (first | exact (Kd.C_below HR0_0.out HB.out) | (with_reducible refine Kd.C_alloc ?_ _) | (with_reducible refine Kd.C_drewN ?_ _) | (with_reducible refine Kd.C_drew ?_))); (case side2 => exact HC0_0.out); (case side3 => repeat (first | exact (Kd.C_below HR0_1.out HB.out) | (with_reducible refine Kd.C_alloc ?_ _) | (with_reducible refine Kd.C_drewN ?_ _) | (with_reducible refine Kd.C_drew ?_))); (case side4 => exact HC0_1.out); (case side5 => repeat (first | exact (Kd.C_below HR0_2.out HB.out) | (with_reducible refine Kd.C_alloc ?_ _) | (with_reducible refine Kd.C_drewN ?_ _) | (with_reducible refine Kd.C_drew ?_))); (case side6 => exact HC0_2.out); rintro e w11 ⟨rfl, hb⟩; refine ⟨_, rfl, ?_⟩; have n0_ := Aside0.mk (blk_below (g := gb1125) (o := .cells #[.slice A0_0 l0_0.length c0_0, .slice A0_1 l0_1.length c0_1, .slice A0_2 l0_2.length c0_2] 32 (0, 0)) (have z0_ := BK1125; Ze) hb); have n1_ := Aside0.mk (below_step (have z0_ := GE1125; Zf) hb); clear BK1125; clear HB; have BK1125 := n0_; have HB := n1_; clear n0_ n1_; (try clear hb); (try clear hb2); (try clear hk); (try clear hi)))
    have n0_ := Aside0.mk (blk_drew BK1125.out)
    have n1_ := Aside0.mk (below_drew1 HB.out)
    clear BK1125
    clear HB
    have BK1125 := n0_
    have HB := n1_
    clear n0_ n1_
    have p1127 : 0 ≤ (a1 : Int) := of_decide_eq_true Zp
    have q1127 : a1 < (l0_2.length : Int) := of_decide_eq_true Zp
    obtain ⟨ad1127, e1127, hx1127_0, hx1127_1, hx1127_2, hx1127_3⟩ := at_T43 HR0_2.out a1 p1127 q1127
    have hw1127_3 := hx1127_3
    have hw1127_2 := hx1127_2
    have hw1127_1 := hx1127_1
    have hw1127_0 := hx1127_0
    cases e1127
    (try replace hx1127_0 := cbH HB hx1127_0)
    (try replace hx1127_1 := cbH HB hx1127_1)
    (try replace hx1127_2 := cbH HB hx1127_2)
    (try replace hx1127_3 := cbH HB hx1127_3)
    replace p1127 := eq_true p1127
    replace q1127 := eq_true q1127
    refine start_ (n := 9) (S := fun w' => w'.cell? ⟨gb1125, 0, none⟩ = some (.slice A0_0 l0_0.length c0_0) ∧ w'.cell? ⟨gb1125, 1, none⟩ = some (.slice A0_1 l0_1.length c0_1) ∧ w'.cell? ⟨gb1125, 2, none⟩ = some (.slice (some ad1127) l0_2.length c0_2) ∧ w'.cell? (ad1127.add ((a1).toNat * 4)) = some (.int .i64 ((rd_T43 l0_2 a1).f0)) ∧ w'.cell? ⟨(ad1127.add ((a1).toNat * 4)).block, (ad1127.add ((a1).toNat * 4)).off + 1, none⟩ = some (.int .i64 ((rd_T43 l0_2 a1).f1)) ∧ w'.cell? ⟨(ad1127.add ((a1).toNat * 4)).block, (ad1127.add ((a1).toNat * 4)).off + 2, none⟩ = some (.string ((rd_T43 l0_2 a1).f2)) ∧ w'.cell? ⟨(ad1127.add ((a1).toNat * 4)).block, (ad1127.add ((a1).toNat * 4)).off + 3, none⟩ = some (.int .i64 ((rd_T43 l0_2 a1).f3))) (ds := []) (bT 9 0) Zj rfl rfl ⟨(blk_cell BK1125.out 0).trans rfl, (blk_cell BK1125.out 1).trans rfl, (blk_cell BK1125.out 2).trans rfl, (have z0_ := hw1127_0; Zbi), (have z0_ := hw1127_1; Zbi), (have z0_ := hw1127_2; Zbi), (have z0_ := hw1127_3; Zbi)⟩ (fun hHeld => ?_); refine with_tabW impl_MayMeet.tab4 impl_MayMeet.bits4 (fun HT_ HW_ => ?_)
    generalize w11.drew = w12 at BK1125 HB hx1127_0 hx1127_1 hx1127_2 hx1127_3 hHeld ⊢
    refine pureZ HT_ 1 (some 21) #[false, true, false, false, false, false, false, false, false] ?_
    refine pureZ HT_ 3 (some 23) #[false, true, false, true, false, false, false, false, false] ?_
    refine pureZ HT_ 8 (some 28) #[false, true, false, true, false, false, false, false, true] ?_
    refine take_ (i := 0) (N := some 20) (v := ?_) (a' := ?_) #[true, true, false, true, false, false, false, false, true] rfl rfl (take_ofW HT_.out HW_.out Zj) (fun _ _ _ h => h) (Or.inl ⟨by rfl, ?_⟩) hHeld ?_ ?_
    rotate_left
    ·rintro w' ⟨s0, s1, s2, s3, s4, s5, s6⟩
     go_simp
     with_reducible rfl
    rotate_left
    ·exact Zput
    refine take_ (i := 2) (N := some 22) (v := ?_) (a' := ?_) #[true, true, true, true, false, false, false, false, true] rfl rfl (take_ofW HT_.out HW_.out Zj) (fun _ _ _ h => h) (Or.inl ⟨by rfl, ?_⟩) hHeld ?_ ?_
    rotate_left
    ·rintro w' ⟨s0, s1, s2, s3, s4, s5, s6⟩
     go_simp
     with_reducible rfl
    rotate_left
    ·exact Zput
    refine pureZ HT_ 4 (some 24) #[true, true, true, true, true, false, false, false, true] ?_
    refine take_ (i := 5) (N := some 25) (v := ?_) (a' := ?_) #[true, true, true, true, true, true, false, false, true] rfl rfl (take_ofW HT_.out HW_.out Zj) (fun _ _ _ h => h) (Or.inl ⟨by rfl, ?_⟩) hHeld ?_ ?_
    rotate_left
    ·rintro w' ⟨s0, s1, s2, s3, s4, s5, s6⟩
     go_simp
     with_reducible rfl
    rotate_left
    ·exact Zput
    refine one_ (i := 6) (N := some 26) #[true, true, true, true, true, true, true, false, true] rfl rfl (one_of HT_.out Zj) (by decide) (fun K hK => ?_)
    refine goes_ Try.func107 Zj rfl #[.agg #[.slice A0_0 l0_0.length c0_0, .slice A0_1 l0_1.length c0_1, .slice (some ad1127) l0_2.length c0_2], .agg #[.int .i64 ((rd_T43 l0_2 a1).f0), .int .i64 ((rd_T43 l0_2 a1).f1), .string ((rd_T43 l0_2 a1).f2), .int .i64 ((rd_T43 l0_2 a1).f3)]] (by rfl) rfl rfl Zo ?_
    with_reducible refine (impl_windowsOfCue.calls k _ _ l0_0 _ _ l0_1 _ _ l0_2 ((rd_T43 l0_2 a1).f0) ((rd_T43 l0_2 a1).f1) ((rd_T43 l0_2 a1).f2) ((rd_T43 l0_2 a1).f3) t1128 _ ?side1 ?side2 ?side3 ?side4 ?side5 ?side6 A8.out).mono ?_
    (case side1 => repeat (first | exact (Kd.C_below HR0_0.out HB.out) | (with_reducible refine Kd.C_alloc ?_ _) | (with_reducible refine Kd.C_drewN ?_ _) | (with_reducible refine Kd.C_drew ?_)))
    (case side2 => exact HC0_0.out)
    (case side3 => repeat (first | exact (Kd.C_below HR0_1.out HB.out) | (with_reducible refine Kd.C_alloc ?_ _) | (with_reducible refine Kd.C_drewN ?_ _) | (with_reducible refine Kd.C_drew ?_)))
    (case side4 => exact HC0_1.out)
    (case side5 => repeat (first | exact (Kd.C_below HR0_2.out HB.out) | (with_reducible refine Kd.C_alloc ?_ _) | (with_reducible refine Kd.C_drewN ?_ _) | (with_reducible refine Kd.C_drew ?_)))
    (case side6 => exact HC0_2.out)
    rintro e w13 ⟨v1129, rfl, ho0, hb⟩
    refine ⟨_, rfl, ?_⟩
    have n0_ := Aside0.mk (Kd.S_lower ho0 (below_size (have z0_ := GE1125; Zf)))
    have n1_ := Aside0.mk (blk_below (g := gb1125) (o := .cells #[.slice A0_0 l0_0.length c0_0, .slice A0_1 l0_1.length c0_1, .slice (some ad1127) l0_2.length c0_2] 32 (0, 0)) (have z0_ := BK1125; Ze) hb)
    have n2_ := Aside0.mk (below_step (have z0_ := GE1125; Zf) hb)
    clear BK1125
    clear HB
    have HO1130 := n0_
    have BK1125 := n1_
    have HB := n2_
    clear n0_ n1_ n2_
    (try clear hb)
    (try clear hb2)
    (try clear hk)
    (try clear hi)
    (try clear ho0)
    obtain ⟨Ao14, co14, eo14⟩ := Kd.S_slice HO1130.out
    (first | subst eo14 | (injection eo14 with f1_ f2_ f3_; have f4_ := f1_.symm; have f5_ := f3_.symm; clear f1_ f2_ f3_; subst f4_; subst f5_))
    refine hK.out _ _ ⟨(blk_cell BK1125.out 0).trans rfl, (blk_cell BK1125.out 1).trans rfl, (blk_cell BK1125.out 2).trans rfl, (have z0_ := hw1127_0; Zbi), (have z0_ := hw1127_1; Zbi), (have z0_ := hw1127_2; Zbi), (have z0_ := hw1127_3; Zbi)⟩ (fun hHeld => ?_)
    clear hK K
    refine norm_ (a' := ?_) ?_ ?_
    rotate_left
    ·show Act.put _ (some 26) _ = _
     simp only [Act.put, List.setIfInBounds_toArray, List.set_cons_zero, List.set_cons_succ, i64_w, i32_w]
     rfl
    refine pureZ HT_ 7 (some 27) (bT 9 9) ?_
    refine done_ (done_of HT_.out Zj) ?_
    try go_wp2
    go_loopg [28] k (fun kq v28 w' => ∃ (x28_1 : Int), v28 = .int .i64 x28_1 ∧ Aside0 (impl_MayMeet.l0 kq a2 t1128 (t1128.length : Int) x28_1 l0_0 l0_1 l0_2 = some (r1, r2)) ∧ Aside0 (kq ≤ k) ∧ Aside0 (Kd.S (Kd.slice 2 (Kd.int .i64)) 61 w' w.heap.size (fun _ => True) (.slice Ao14 t1128.length co14) t1128) ∧ Aside0 (w'.heap[gb1125]? = some (.cells #[(.slice A0_0 l0_0.length c0_0), (.slice A0_1 l0_1.length c0_1), (.slice (some ad1127) l0_2.length c0_2)] 32 (0, 0))) ∧ Aside0 (Below w.heap.size w w'))
    case atStart => exact ⟨(0), Za, H', ⟨Nat.le_refl _⟩, ⟨(have z0_ := HO1130; Zat)⟩, ⟨(have z0_ := BK1125; Ze)⟩, ⟨(have z0_ := GE1125; Zf)⟩⟩
    case round =>
     clear H'
     try clear c1
     try clear p1
     try clear q1
     try clear hx1
     try clear p2
     try clear c4
     try clear c5
     try clear c5b0
     try clear c5b1
     try clear c6
     try clear c6b0
     try clear c7
     try clear c7b0
     try clear c10
     try clear p11
     try clear q11
     try clear hx11
     try clear hcz10_0
     try clear hcz10_1
     try clear hcz10_2
     try clear hfz10_0
     try clear hfz10_1
     try clear hfz10_2
     try clear hx1127_0
     try clear hx1127_1
     try clear hx1127_2
     try clear hx1127_3
     try clear p1127
     try clear q1127
     obtain ⟨x28_1, rfl, HA, HK1, HO_26, BK1125, HB⟩ := hrel
     cases gk with
     | zero => exact absurd HA.out (by simp [impl_MayMeet.l0])
     | succ k1 =>
      have H := HA.out
      clear HA
      simp only [impl_MayMeet.l0] at H
      by_cases c15 : x28_1 < (t1128.length : Int)
      ·rw [if_pos c15] at H
       have c15b0 : decide (x28_1 < (t1128.length : Int)) = true := decide_eq_true c15
       clear c15
       by_cases c16 : 0 ≤ x28_1
       ·rw [if_pos c16] at H
        have c16b0 : decide (0 ≤ x28_1) = true := decide_eq_true c16
        clear c16
        by_cases c17 : x28_1 < (t1128.length : Int)
        ·rw [if_pos c17] at H
         have c17b0 : decide (x28_1 < (t1128.length : Int)) = true := decide_eq_true c17
         clear c17
         by_cases c18 : 0 ≤ a2
         ·rw [if_pos c18] at H
          have c18b0 : decide (0 ≤ a2) = true := decide_eq_true c18
          clear c18
          by_cases c19 : a2 < (l0_2.length : Int)
          ·rw [if_pos c19] at H
           have c19b0 : decide (a2 < (l0_2.length : Int)) = true := decide_eq_true c19
           clear c19
           replace H := Option.bind_eq_some_iff.mp H
           obtain ⟨t1133, A200, H⟩ := H
           replace H : (impl_MayMeet.l1 k1 a2 (rd_L9 t1128 x28_1) t1128 (t1128.length : Int) x28_1 t1133 (t1133.length : Int) 0 l0_0 l0_1 l0_2) = some (r1, r2) := H
           have A20 := Aside0.mk A200
           clear A200
           have H' := Aside0.mk H
           clear H
           have p1131 : 0 ≤ (x28_1 : Int) := of_decide_eq_true Zp
           have q1131 : x28_1 < (t1128.length : Int) := of_decide_eq_true Zp
           obtain ⟨ad1131, A1131_0, c1131_0, e1131, hx1131_0, hl1131_0, hi1131_0⟩ := at_L9 (Kd.S_reads' HO_26.out).2.2 x28_1 p1131 q1131
           cases e1131
           obtain ⟨ce1131, hce1131, hMe1131, hcc1131⟩ := Kd.S_get HO_26.out [] x28_1 p1131 (by first | exact q1131 | exact of_decide_eq_true Zp | (have e_ := (Kd.S_reads' HO_26.out).1; omega))
           obtain ⟨ve1131_0, rfl, ge1131_0⟩ := hMe1131
           have hv1131_0 := hcc1131 0 _ rfl
           rw [Nat.add_zero, show ((Kd.slice 2 (Kd.int .i64))).sz = 1 from rfl, Nat.mul_one] at hv1131_0
           replace hv1131_0 := Option.some.inj (hv1131_0.symm.trans hx1131_0)
           rw [hv1131_0] at ge1131_0
           have HL1131_0 := Aside0.mk (show Kd.R (Kd.int .i64) 2 _ _ _ _ (rd_L9 t1128 x28_1) from ge1131_0)
           clear hv1131_0 ge1131_0
           clear hcc1131 hce1131
           have HR1131_0 := Aside0.mk hi1131_0
           have HC1131_0 := Aside0.mk hl1131_0
           clear hi1131_0 hl1131_0
           replace p1131 := eq_true p1131
           replace q1131 := eq_true q1131
           try go_wp2
           have n0_ := Aside0.mk (Kd.S_drew HO_26.out)
           have n1_ := Aside0.mk (Kd.R_drew HL1131_0.out)
           have n2_ := Aside0.mk (blk_drew BK1125.out)
           have n3_ := Aside0.mk (Kd.C_drew HR1131_0.out)
           have n4_ := Aside0.mk (below_drew1 HB.out)
           clear HO_26
           clear HL1131_0
           clear BK1125
           clear HR1131_0
           clear HB
           have HO_26 := n0_
           have HL1131_0 := n1_
           have BK1125 := n2_
           have HR1131_0 := n3_
           have HB := n4_
           clear n0_ n1_ n2_ n3_ n4_
           have p1132 : 0 ≤ (a2 : Int) := of_decide_eq_true Zp
           have q1132 : a2 < (l0_2.length : Int) := of_decide_eq_true Zp
           obtain ⟨ad1132, e1132, hx1132_0, hx1132_1, hx1132_2, hx1132_3⟩ := at_T43 HR0_2.out a2 p1132 q1132
           have hw1132_3 := hx1132_3
           have hw1132_2 := hx1132_2
           have hw1132_1 := hx1132_1
           have hw1132_0 := hx1132_0
           obtain rfl : ad1127 = ad1132 := (by injection e1132)
           (try replace hx1132_0 := cbH HB hx1132_0)
           (try replace hx1132_1 := cbH HB hx1132_1)
           (try replace hx1132_2 := cbH HB hx1132_2)
           (try replace hx1132_3 := cbH HB hx1132_3)
           replace p1132 := eq_true p1132
           replace q1132 := eq_true q1132
           refine start_ (n := 9) (S := fun w' => w'.cell? ⟨gb1125, 0, none⟩ = some (.slice A0_0 l0_0.length c0_0) ∧ w'.cell? ⟨gb1125, 1, none⟩ = some (.slice A0_1 l0_1.length c0_1) ∧ w'.cell? ⟨gb1125, 2, none⟩ = some (.slice (some ad1127) l0_2.length c0_2) ∧ w'.cell? (ad1127.add ((a2).toNat * 4)) = some (.int .i64 ((rd_T43 l0_2 a2).f0)) ∧ w'.cell? ⟨(ad1127.add ((a2).toNat * 4)).block, (ad1127.add ((a2).toNat * 4)).off + 1, none⟩ = some (.int .i64 ((rd_T43 l0_2 a2).f1)) ∧ w'.cell? ⟨(ad1127.add ((a2).toNat * 4)).block, (ad1127.add ((a2).toNat * 4)).off + 2, none⟩ = some (.string ((rd_T43 l0_2 a2).f2)) ∧ w'.cell? ⟨(ad1127.add ((a2).toNat * 4)).block, (ad1127.add ((a2).toNat * 4)).off + 3, none⟩ = some (.int .i64 ((rd_T43 l0_2 a2).f3))) (ds := []) (bT 9 0) Zj rfl rfl ⟨(blk_cell BK1125.out 0).trans rfl, (blk_cell BK1125.out 1).trans rfl, (blk_cell BK1125.out 2).trans rfl, (have z0_ := hw1132_0; Zbi), (have z0_ := hw1132_1; Zbi), (have z0_ := hw1132_2; Zbi), (have z0_ := hw1132_3; Zbi)⟩ (fun hHeld => ?_); refine with_tabW impl_MayMeet.tab7 impl_MayMeet.bits7 (fun HT_ HW_ => ?_)
           generalize wr.drew = w21 at HO_26 HL1131_0 BK1125 HR1131_0 HB hx1132_0 hx1132_1 hx1132_2 hx1132_3 hHeld ⊢
           refine pureZ HT_ 1 (some 33) #[false, true, false, false, false, false, false, false, false] ?_
           refine pureZ HT_ 3 (some 35) #[false, true, false, true, false, false, false, false, false] ?_
           refine pureZ HT_ 8 (some 40) #[false, true, false, true, false, false, false, false, true] ?_
           refine take_ (i := 0) (N := some 32) (v := ?_) (a' := ?_) #[true, true, false, true, false, false, false, false, true] rfl rfl (take_ofW HT_.out HW_.out Zj) (fun _ _ _ h => h) (Or.inl ⟨by rfl, ?_⟩) hHeld ?_ ?_
           rotate_left
           ·rintro w' ⟨s0, s1, s2, s3, s4, s5, s6⟩
            go_simp
            with_reducible rfl
           rotate_left
           ·exact Zput
           refine take_ (i := 2) (N := some 34) (v := ?_) (a' := ?_) #[true, true, true, true, false, false, false, false, true] rfl rfl (take_ofW HT_.out HW_.out Zj) (fun _ _ _ h => h) (Or.inl ⟨by rfl, ?_⟩) hHeld ?_ ?_
           rotate_left
           ·rintro w' ⟨s0, s1, s2, s3, s4, s5, s6⟩
            go_simp
            with_reducible rfl
           rotate_left
           ·exact Zput
           refine pureZ HT_ 4 (some 36) #[true, true, true, true, true, false, false, false, true] ?_
           refine take_ (i := 5) (N := some 37) (v := ?_) (a' := ?_) #[true, true, true, true, true, true, false, false, true] rfl rfl (take_ofW HT_.out HW_.out Zj) (fun _ _ _ h => h) (Or.inl ⟨by rfl, ?_⟩) hHeld ?_ ?_
           rotate_left
           ·rintro w' ⟨s0, s1, s2, s3, s4, s5, s6⟩
            go_simp
            with_reducible rfl
           rotate_left
           ·exact Zput
           refine one_ (i := 6) (N := some 38) #[true, true, true, true, true, true, true, false, true] rfl rfl (one_of HT_.out Zj) (by decide) (fun K hK => ?_)
           refine goes_ Try.func107 Zj rfl #[.agg #[.slice A0_0 l0_0.length c0_0, .slice A0_1 l0_1.length c0_1, .slice (some ad1127) l0_2.length c0_2], .agg #[.int .i64 ((rd_T43 l0_2 a2).f0), .int .i64 ((rd_T43 l0_2 a2).f1), .string ((rd_T43 l0_2 a2).f2), .int .i64 ((rd_T43 l0_2 a2).f3)]] (by rfl) rfl rfl Zo ?_
           with_reducible refine (impl_windowsOfCue.calls k1 _ _ l0_0 _ _ l0_1 _ _ l0_2 ((rd_T43 l0_2 a2).f0) ((rd_T43 l0_2 a2).f1) ((rd_T43 l0_2 a2).f2) ((rd_T43 l0_2 a2).f3) t1133 _ ?side1 ?side2 ?side3 ?side4 ?side5 ?side6 A20.out).mono ?_
           (case side1 => repeat (first | exact (Kd.C_below HR0_0.out HB.out) | (with_reducible refine Kd.C_alloc ?_ _) | (with_reducible refine Kd.C_drewN ?_ _) | (with_reducible refine Kd.C_drew ?_)))
           (case side2 => exact HC0_0.out)
           (case side3 => repeat (first | exact (Kd.C_below HR0_1.out HB.out) | (with_reducible refine Kd.C_alloc ?_ _) | (with_reducible refine Kd.C_drewN ?_ _) | (with_reducible refine Kd.C_drew ?_)))
           (case side4 => exact HC0_1.out)
           (case side5 => repeat (first | exact (Kd.C_below HR0_2.out HB.out) | (with_reducible refine Kd.C_alloc ?_ _) | (with_reducible refine Kd.C_drewN ?_ _) | (with_reducible refine Kd.C_drew ?_)))
           (case side6 => exact HC0_2.out)
           rintro e w22 ⟨v1134, rfl, ho0, hb⟩
           refine ⟨_, rfl, ?_⟩
           have n0_ := Aside0.mk (Kd.S_elder' (have z0_ := HO_26; Zat) (Kd.S_base ho0) hb)
           have n1_ := Aside0.mk (Kd.R_below (have z0_ := HL1131_0; Zq) hb)
           have n2_ := Aside0.mk (Kd.S_lower (Kd.S_new' (Kd.S_new' ho0 (Kd.S_lt (have z0_ := HO_26; Zat))) (Kd.R_lt (have z0_ := HL1131_0; Zq))) (below_size (have z0_ := GE1125; Zf)))
           have n3_ := Aside0.mk (blk_below (g := gb1125) (o := .cells #[.slice A0_0 l0_0.length c0_0, .slice A0_1 l0_1.length c0_1, .slice (some ad1127) l0_2.length c0_2] 32 (0, 0)) (have z0_ := BK1125; Ze) hb)
           have n4_ := Aside0.mk (Kd.C_below (have z0_ := HR1131_0; Zay) hb)
           have n5_ := Aside0.mk (below_step (have z0_ := GE1125; Zf) hb)
           clear HO_26
           clear HL1131_0
           clear BK1125
           clear HR1131_0
           clear HB
           have HO_26 := n0_
           have HL1131_0 := n1_
           have HO1135 := n2_
           have BK1125 := n3_
           have HR1131_0 := n4_
           have HB := n5_
           clear n0_ n1_ n2_ n3_ n4_ n5_
           (try clear hb)
           (try clear hb2)
           (try clear hk)
           (try clear hi)
           (try clear ho0)
           obtain ⟨Ao23, co23, eo23⟩ := Kd.S_slice HO1135.out
           (first | subst eo23 | (injection eo23 with f1_ f2_ f3_; have f4_ := f1_.symm; have f5_ := f3_.symm; clear f1_ f2_ f3_; subst f4_; subst f5_))
           refine hK.out _ _ ⟨(blk_cell BK1125.out 0).trans rfl, (blk_cell BK1125.out 1).trans rfl, (blk_cell BK1125.out 2).trans rfl, (have z0_ := hw1132_0; Zbi), (have z0_ := hw1132_1; Zbi), (have z0_ := hw1132_2; Zbi), (have z0_ := hw1132_3; Zbi)⟩ (fun hHeld => ?_)
           clear hK K
           refine norm_ (a' := ?_) ?_ ?_
           rotate_left
           ·show Act.put _ (some 38) _ = _
            simp only [Act.put, List.setIfInBounds_toArray, List.set_cons_zero, List.set_cons_succ, i64_w, i32_w]
            rfl
           refine pureZ HT_ 7 (some 39) (bT 9 9) ?_
           refine done_ (done_of HT_.out Zj) ?_
           try go_wp2
           go_loopg [40] k1 (fun kq v40 w' => ∃ (x40_2 : Int), v40 = .int .i64 x40_2 ∧ Aside0 (impl_MayMeet.l1 kq a2 (rd_L9 t1128 x28_1) t1128 (t1128.length : Int) x28_1 t1133 (t1133.length : Int) x40_2 l0_0 l0_1 l0_2 = some (r1, r2)) ∧ Aside0 (kq ≤ k1) ∧ Aside0 (Kd.S (Kd.slice 2 (Kd.int .i64)) 61 w' w.heap.size (fun k_ => some k_ ≠ ((.slice Ao23 t1133.length co23) : Value).ownBlock) (.slice (some ad1131) t1128.length co14) t1128) ∧ Aside0 (Kd.S (Kd.slice 2 (Kd.int .i64)) 61 w' w.heap.size (fun k_ => some k_ ≠ ((.slice (some ad1131) t1128.length co14) : Value).ownBlock) (.slice Ao23 t1133.length co23) t1133) ∧ Aside0 (w'.heap[gb1125]? = some (.cells #[(.slice A0_0 l0_0.length c0_0), (.slice A0_1 l0_1.length c0_1), (.slice (some ad1127) l0_2.length c0_2)] 32 (0, 0))) ∧ Aside0 (Kd.C (Kd.int .i64) w' A1131_0 (rd_L9 t1128 x28_1).length (rd_L9 t1128 x28_1)) ∧ Aside0 (Below w.heap.size w w'))
           case atStart => exact ⟨(0), Za, H', ⟨Nat.le_refl _⟩, ⟨by (with_reducible repeat (first | apply Kd.S_alloc | apply Kd.S_drewN | apply Kd.S_drew)); exact Kd.S_mono HO_26.out (fun _ hk => hk.2)⟩, ⟨by (with_reducible repeat (first | apply Kd.S_alloc | apply Kd.S_drewN | apply Kd.S_drew)); exact Kd.S_mono HO1135.out (fun _ hk => hk.1.2)⟩, ⟨(have z0_ := BK1125; Ze)⟩, ⟨(have z0_ := HR1131_0; Zay)⟩, ⟨(have z0_ := GE1125; Zf)⟩⟩
           case round =>
            clear H'
            try clear c1
            try clear p1
            try clear q1
            try clear hx1
            try clear p2
            try clear c4
            try clear c5
            try clear c5b0
            try clear c5b1
            try clear c6
            try clear c6b0
            try clear c7
            try clear c7b0
            try clear c10
            try clear c11
            try clear p11
            try clear q11
            try clear hx11
            try clear c15
            try clear c15b0
            try clear c16
            try clear c16b0
            try clear c17
            try clear c17b0
            try clear c18
            try clear c18b0
            try clear c19
            try clear c19b0
            try clear hcz10_0
            try clear hcz10_1
            try clear hcz10_2
            try clear hfz10_0
            try clear hfz10_1
            try clear hfz10_2
            try clear hx1127_0
            try clear hx1127_1
            try clear hx1127_2
            try clear hx1127_3
            try clear hx1131_0
            try clear hx1132_0
            try clear hx1132_1
            try clear hx1132_2
            try clear hx1132_3
            try clear p1
            try clear p11
            try clear p1127
            try clear p1131
            try clear p1132
            try clear p2
            try clear q1
            try clear q11
            try clear q1127
            try clear q1131
            try clear q1132
            obtain ⟨x40_2, rfl, HA, HK2, HO_26, HO_38, BK1125, HR1131_0, HB⟩ := hrel
            cases gk with
            | zero => exact absurd HA.out (by simp [impl_MayMeet.l1])
            | succ k2 =>
             have H := HA.out
             clear HA
             simp only [impl_MayMeet.l1] at H
             by_cases c24 : x40_2 < (t1133.length : Int)
             ·rw [if_pos c24] at H
              have c24b0 : decide (x40_2 < (t1133.length : Int)) = true := decide_eq_true c24
              clear c24
              by_cases c25 : 0 ≤ x40_2
              ·rw [if_pos c25] at H
               have c25b0 : decide (0 ≤ x40_2) = true := decide_eq_true c25
               clear c25
               by_cases c26 : x40_2 < (t1133.length : Int)
               ·rw [if_pos c26] at H
                have c26b0 : decide (x40_2 < (t1133.length : Int)) = true := decide_eq_true c26
                clear c26
                by_cases c27 : 0 < ((rd_L9 t1128 x28_1).length : Int)
                ·rw [if_pos c27] at H
                 have c27b0 : decide (0 < ((rd_L9 t1128 x28_1).length : Int)) = true := decide_eq_true c27
                 have c27b1 : decide (0 < (rd_L9 t1128 x28_1).length) = true := decide_eq_true (by omega)
                 clear c27
                 by_cases c28 : 1 < ((rd_L9 t1133 x40_2).length : Int)
                 ·rw [if_pos c28] at H
                  have c28b0 : decide (1 < ((rd_L9 t1133 x40_2).length : Int)) = true := decide_eq_true c28
                  have c28b1 : decide (1 < (rd_L9 t1133 x40_2).length) = true := decide_eq_true (by omega)
                  clear c28
                  by_cases c29 : (rd (rd_L9 t1128 x28_1) 0) ≤ (rd (rd_L9 t1133 x40_2) 1)
                  ·rw [if_pos c29] at H
                   have c29b0 : decide ((rd (rd_L9 t1128 x28_1) 0) ≤ (rd (rd_L9 t1133 x40_2) 1)) = true := decide_eq_true c29
                   clear c29
                   by_cases c30 : 0 < ((rd_L9 t1133 x40_2).length : Int)
                   ·rw [if_pos c30] at H
                    have c30b0 : decide (0 < ((rd_L9 t1133 x40_2).length : Int)) = true := decide_eq_true c30
                    have c30b1 : decide (0 < (rd_L9 t1133 x40_2).length) = true := decide_eq_true (by omega)
                    clear c30
                    by_cases c31 : 1 < ((rd_L9 t1128 x28_1).length : Int)
                    ·rw [if_pos c31] at H
                     have c31b0 : decide (1 < ((rd_L9 t1128 x28_1).length : Int)) = true := decide_eq_true c31
                     have c31b1 : decide (1 < (rd_L9 t1128 x28_1).length) = true := decide_eq_true (by omega)
                     clear c31
                     by_cases c32 : (rd (rd_L9 t1133 x40_2) 0) ≤ (rd (rd_L9 t1128 x28_1) 1)
                     ·rw [if_pos c32] at H
                      have c32b0 : decide ((rd (rd_L9 t1133 x40_2) 0) ≤ (rd (rd_L9 t1128 x28_1) 1)) = true := decide_eq_true c32
                      clear c32
                      simp only [Option.some.injEq, Prod.mk.injEq] at H
                      obtain ⟨rfl, rfl⟩ := H
                      have p1136 : 0 ≤ (x40_2 : Int) := of_decide_eq_true Zp
                      have q1136 : x40_2 < (t1133.length : Int) := of_decide_eq_true Zp
                      obtain ⟨ad1136, A1136_0, c1136_0, e1136, hx1136_0, hl1136_0, hi1136_0⟩ := at_L9 (Kd.S_reads' HO_38.out).2.2 x40_2 p1136 q1136
                      cases e1136
                      obtain ⟨ce1136, hce1136, hMe1136, hcc1136⟩ := Kd.S_get HO_38.out [] x40_2 p1136 (have z0_ := HO_38; Zbj)
                      obtain ⟨ve1136_0, rfl, ge1136_0⟩ := hMe1136
                      have hv1136_0 := hcc1136 0 _ rfl
                      rw [Nat.add_zero, show ((Kd.slice 2 (Kd.int .i64))).sz = 1 from rfl, Nat.mul_one] at hv1136_0
                      replace hv1136_0 := Option.some.inj (hv1136_0.symm.trans hx1136_0)
                      rw [hv1136_0] at ge1136_0
                      have HL1136_0 := Aside0.mk (show Kd.R (Kd.int .i64) 2 _ _ _ _ (rd_L9 t1133 x40_2) from ge1136_0)
                      clear hv1136_0 ge1136_0
                      clear hcc1136 hce1136
                      have HR1136_0 := Aside0.mk hi1136_0
                      have HC1136_0 := Aside0.mk hl1136_0
                      clear hi1136_0 hl1136_0
                      replace p1136 := eq_true p1136
                      replace q1136 := eq_true q1136
                      try go_wp2
                      have n0_ := Aside0.mk (Kd.S_drew HO_26.out)
                      have n1_ := Aside0.mk (Kd.S_drew HO_38.out)
                      have n2_ := Aside0.mk (Kd.R_drew HL1136_0.out)
                      have n3_ := Aside0.mk (blk_drew BK1125.out)
                      have n4_ := Aside0.mk (Kd.C_drew HR1131_0.out)
                      have n5_ := Aside0.mk (Kd.C_drew HR1136_0.out)
                      have n6_ := Aside0.mk (below_drew1 HB.out)
                      clear HO_26
                      clear HO_38
                      clear HL1136_0
                      clear BK1125
                      clear HR1131_0
                      clear HR1136_0
                      clear HB
                      have HO_26 := n0_
                      have HO_38 := n1_
                      have HL1136_0 := n2_
                      have BK1125 := n3_
                      have HR1131_0 := n4_
                      have HR1136_0 := n5_
                      have HB := n6_
                      clear n0_ n1_ n2_ n3_ n4_ n5_ n6_
                      have p1137 : 0 ≤ (0 : Int) := (by omega)
                      have q1137 : 0 < ((rd_L9 t1128 x28_1).length : Int) := of_decide_eq_true Zp
                      obtain ⟨ad1137, e1137, hx1137_0⟩ := Kd.at_int HR1131_0.out 0 p1137 q1137
                      have hw1137_0 := hx1137_0
                      (try rw [show ((0 : Int)).toNat = 0 from rfl] at hw1137_0)
                      (try rw [show 0 * 1 = 0 from rfl] at hw1137_0)
                      (try rw [Addr.add_zero'] at hw1137_0)
                      cases e1137
                      have qi1137 : (0 < (rd_L9 t1128 x28_1).length) = True := eq_true (by omega)
                      (try rw [show ((0 : Int)).toNat = 0 from rfl] at hx1137_0)
                      (try rw [Addr.add_zero'] at hx1137_0)
                      (try replace hx1137_0 := cbH HB hx1137_0)
                      replace p1137 := eq_true p1137
                      replace q1137 := eq_true q1137
                      have p1138 : 0 ≤ (1 : Int) := (by omega)
                      have q1138 : 1 < ((rd_L9 t1133 x40_2).length : Int) := of_decide_eq_true Zp
                      obtain ⟨ad1138, e1138, hx1138_0⟩ := Kd.at_int (have z0_ := HR1136_0; Zay) 1 p1138 q1138
                      cases e1138
                      (try simp only [show (1 : Int).toNat = 1 from rfl, Nat.reduceMul, Nat.reduceEqDiff, Go.Addr.add, ↓reduceIte] at hx1138_0)
                      have qi1138 : (1 < (rd_L9 t1133 x40_2).length) = True := eq_true (by omega)
                      (try rw [show ((1 : Int)).toNat = 1 from rfl] at hx1138_0)
                      replace p1138 := eq_true p1138
                      replace q1138 := eq_true q1138
                      have p1139 : 0 ≤ (0 : Int) := (by omega)
                      have q1139 : 0 < ((rd_L9 t1133 x40_2).length : Int) := of_decide_eq_true Zp
                      obtain ⟨ad1139, e1139, hx1139_0⟩ := Kd.at_int (have z0_ := HR1136_0; Zay) 0 p1139 q1139
                      obtain rfl : ad1138 = ad1139 := (by injection e1139)
                      have qi1139 : (0 < (rd_L9 t1133 x40_2).length) = True := eq_true (by omega)
                      (try rw [show ((0 : Int)).toNat = 0 from rfl] at hx1139_0)
                      (try rw [Addr.add_zero'] at hx1139_0)
                      replace p1139 := eq_true p1139
                      replace q1139 := eq_true q1139
                      have p1140 : 0 ≤ (1 : Int) := (by omega)
                      have q1140 : 1 < ((rd_L9 t1128 x28_1).length : Int) := of_decide_eq_true Zp
                      obtain ⟨ad1140, e1140, hx1140_0⟩ := Kd.at_int HR1131_0.out 1 p1140 q1140
                      have hw1140_0 := hx1140_0
                      (try rw [show ((1 : Int)).toNat = 1 from rfl] at hw1140_0)
                      (try rw [show 1 * 1 = 1 from rfl] at hw1140_0)
                      (try simp only [Nat.reduceMul, Nat.reduceEqDiff, Go.Addr.add, ↓reduceIte] at hw1140_0)
                      obtain rfl : ad1137 = ad1140 := (by injection e1140)
                      (try simp only [show (1 : Int).toNat = 1 from rfl, Nat.reduceMul, Nat.reduceEqDiff, Go.Addr.add, ↓reduceIte] at hx1140_0)
                      have qi1140 : (1 < (rd_L9 t1128 x28_1).length) = True := eq_true (by omega)
                      (try rw [show ((1 : Int)).toNat = 1 from rfl] at hx1140_0)
                      (try replace hx1140_0 := cbH HB hx1140_0)
                      replace p1140 := eq_true p1140
                      replace q1140 := eq_true q1140
                      refine start_ (n := 16) (S := fun w' => w'.cell? ad1137 = some (.int .i64 (rd (rd_L9 t1128 x28_1) 0)) ∧ w'.cell? ⟨ad1138.block, ad1138.off + 1, none⟩ = some (.int .i64 (rd (rd_L9 t1133 x40_2) 1)) ∧ w'.cell? ad1138 = some (.int .i64 (rd (rd_L9 t1133 x40_2) 0)) ∧ w'.cell? ⟨ad1137.block, ad1137.off + 1, none⟩ = some (.int .i64 (rd (rd_L9 t1128 x28_1) 1))) (ds := []) (bT 16 0) Zj rfl rfl ⟨(have z0_ := hw1137_0; Zbi), hx1138_0, hx1139_0, (have z0_ := hw1140_0; Zbi)⟩ (fun hHeld => ?_); refine with_tabW impl_MayMeet.tab10 impl_MayMeet.bits10 (fun HT_ HW_ => ?_)
                      generalize wr.drew = w33 at HO_26 HO_38 HL1136_0 BK1125 HR1131_0 HR1136_0 HB hx1137_0 hx1138_0 hx1139_0 hx1140_0 hHeld ⊢
                      refine pureZ HT_ 0 (some 44) (bT 16 1) ?_
                      refine pureZ HT_ 1 (some 45) (bT 16 2) ?_
                      refine pureZ HT_ 3 (some 47) #[true, true, false, true, false, false, false, false, false, false, false, false, false, false, false, false] ?_
                      refine pureZ HT_ 4 (some 48) #[true, true, false, true, true, false, false, false, false, false, false, false, false, false, false, false] ?_
                      refine take_ (i := 2) (N := some 46) (v := ?_) (a' := ?_) (bT 16 5) rfl rfl (take_ofW HT_.out HW_.out Zj) (fun _ _ _ h => h) (Or.inl ⟨by rfl, ?_⟩) hHeld ?_ ?_
                      rotate_left
                      ·rintro w' ⟨s0, s1, s2, s3⟩
                       go_simp
                       with_reducible rfl
                      rotate_left
                      ·exact Zput
                      refine take_ (i := 5) (N := some 49) (v := ?_) (a' := ?_) (bT 16 6) rfl rfl (take_ofW HT_.out HW_.out Zj) (fun _ _ _ h => h) (Or.inl ⟨by rfl, ?_⟩) hHeld ?_ ?_
                      rotate_left
                      ·rintro w' ⟨s0, s1, s2, s3⟩
                       go_simp
                       with_reducible rfl
                      rotate_left
                      ·exact Zput
                      refine pureZ HT_ 6 (some 50) (bT 16 7) ?_
                      refine pureZ HT_ 7 (some 51) (bT 16 8) ?_
                      refine pureZ HT_ 8 (some 52) (bT 16 9) ?_
                      refine pureZ HT_ 9 (some 53) (bT 16 10) ?_
                      refine pureZ HT_ 11 (some 55) #[true, true, true, true, true, true, true, true, true, true, false, true, false, false, false, false] ?_
                      refine pureZ HT_ 12 (some 56) #[true, true, true, true, true, true, true, true, true, true, false, true, true, false, false, false] ?_
                      refine take_ (i := 10) (N := some 54) (v := ?_) (a' := ?_) (bT 16 13) rfl rfl (take_ofW HT_.out HW_.out Zj) (fun _ _ _ h => h) (Or.inl ⟨by rfl, ?_⟩) hHeld ?_ ?_
                      rotate_left
                      ·rintro w' ⟨s0, s1, s2, s3⟩
                       go_simp
                       with_reducible rfl
                      rotate_left
                      ·exact Zput
                      refine take_ (i := 13) (N := some 57) (v := ?_) (a' := ?_) (bT 16 14) rfl rfl (take_ofW HT_.out HW_.out Zj) (fun _ _ _ h => h) (Or.inl ⟨by rfl, ?_⟩) hHeld ?_ ?_
                      rotate_left
                      ·rintro w' ⟨s0, s1, s2, s3⟩
                       go_simp
                       with_reducible rfl
                      rotate_left
                      ·exact Zput
                      refine pureZ HT_ 14 (some 58) (bT 16 15) ?_
                      refine pureZ HT_ 15 (some 59) (bT 16 16) ?_
                      refine done_ (done_of HT_.out Zj) ?_
                      try go_wp2
                      go_ret2
                      exact ⟨Zk, (have z0_ := GE1125; Zf)⟩
                     ·rw [if_neg c32] at H
                      have c32b0 : decide ((rd (rd_L9 t1133 x40_2) 0) ≤ (rd (rd_L9 t1128 x28_1) 1)) = false := decide_eq_false c32
                      clear c32
                      have H' := Aside0.mk H
                      clear H
                      have p1136 : 0 ≤ (x40_2 : Int) := of_decide_eq_true Zp
                      have q1136 : x40_2 < (t1133.length : Int) := of_decide_eq_true Zp
                      obtain ⟨ad1136, A1136_0, c1136_0, e1136, hx1136_0, hl1136_0, hi1136_0⟩ := at_L9 (Kd.S_reads' HO_38.out).2.2 x40_2 p1136 q1136
                      cases e1136
                      obtain ⟨ce1136, hce1136, hMe1136, hcc1136⟩ := Kd.S_get HO_38.out [] x40_2 p1136 (have z0_ := HO_38; Zbj)
                      obtain ⟨ve1136_0, rfl, ge1136_0⟩ := hMe1136
                      have hv1136_0 := hcc1136 0 _ rfl
                      rw [Nat.add_zero, show ((Kd.slice 2 (Kd.int .i64))).sz = 1 from rfl, Nat.mul_one] at hv1136_0
                      replace hv1136_0 := Option.some.inj (hv1136_0.symm.trans hx1136_0)
                      rw [hv1136_0] at ge1136_0
                      have HL1136_0 := Aside0.mk (show Kd.R (Kd.int .i64) 2 _ _ _ _ (rd_L9 t1133 x40_2) from ge1136_0)
                      clear hv1136_0 ge1136_0
                      clear hcc1136 hce1136
                      have HR1136_0 := Aside0.mk hi1136_0
                      have HC1136_0 := Aside0.mk hl1136_0
                      clear hi1136_0 hl1136_0
                      replace p1136 := eq_true p1136
                      replace q1136 := eq_true q1136
                      try go_wp2
                      have n0_ := Aside0.mk (Kd.S_drew HO_26.out)
                      have n1_ := Aside0.mk (Kd.S_drew HO_38.out)
                      have n2_ := Aside0.mk (Kd.R_drew HL1136_0.out)
                      have n3_ := Aside0.mk (blk_drew BK1125.out)
                      have n4_ := Aside0.mk (Kd.C_drew HR1131_0.out)
                      have n5_ := Aside0.mk (Kd.C_drew HR1136_0.out)
                      have n6_ := Aside0.mk (below_drew1 HB.out)
                      clear HO_26
                      clear HO_38
                      clear HL1136_0
                      clear BK1125
                      clear HR1131_0
                      clear HR1136_0
                      clear HB
                      have HO_26 := n0_
                      have HO_38 := n1_
                      have HL1136_0 := n2_
                      have BK1125 := n3_
                      have HR1131_0 := n4_
                      have HR1136_0 := n5_
                      have HB := n6_
                      clear n0_ n1_ n2_ n3_ n4_ n5_ n6_
                      have p1137 : 0 ≤ (0 : Int) := (by omega)
                      have q1137 : 0 < ((rd_L9 t1128 x28_1).length : Int) := of_decide_eq_true Zp
                      obtain ⟨ad1137, e1137, hx1137_0⟩ := Kd.at_int HR1131_0.out 0 p1137 q1137
                      have hw1137_0 := hx1137_0
                      (try rw [show ((0 : Int)).toNat = 0 from rfl] at hw1137_0)
                      (try rw [show 0 * 1 = 0 from rfl] at hw1137_0)
                      (try rw [Addr.add_zero'] at hw1137_0)
                      cases e1137
                      have qi1137 : (0 < (rd_L9 t1128 x28_1).length) = True := eq_true (by omega)
                      (try rw [show ((0 : Int)).toNat = 0 from rfl] at hx1137_0)
                      (try rw [Addr.add_zero'] at hx1137_0)
                      (try replace hx1137_0 := cbH HB hx1137_0)
                      replace p1137 := eq_true p1137
                      replace q1137 := eq_true q1137
                      have p1138 : 0 ≤ (1 : Int) := (by omega)
                      have q1138 : 1 < ((rd_L9 t1133 x40_2).length : Int) := of_decide_eq_true Zp
                      obtain ⟨ad1138, e1138, hx1138_0⟩ := Kd.at_int (have z0_ := HR1136_0; Zay) 1 p1138 q1138
                      cases e1138
                      (try simp only [show (1 : Int).toNat = 1 from rfl, Nat.reduceMul, Nat.reduceEqDiff, Go.Addr.add, ↓reduceIte] at hx1138_0)
                      have qi1138 : (1 < (rd_L9 t1133 x40_2).length) = True := eq_true (by omega)
                      (try rw [show ((1 : Int)).toNat = 1 from rfl] at hx1138_0)
                      replace p1138 := eq_true p1138
                      replace q1138 := eq_true q1138
                      have p1139 : 0 ≤ (0 : Int) := (by omega)
                      have q1139 : 0 < ((rd_L9 t1133 x40_2).length : Int) := of_decide_eq_true Zp
                      obtain ⟨ad1139, e1139, hx1139_0⟩ := Kd.at_int (have z0_ := HR1136_0; Zay) 0 p1139 q1139
                      obtain rfl : ad1138 = ad1139 := (by injection e1139)
                      have qi1139 : (0 < (rd_L9 t1133 x40_2).length) = True := eq_true (by omega)
                      (try rw [show ((0 : Int)).toNat = 0 from rfl] at hx1139_0)
                      (try rw [Addr.add_zero'] at hx1139_0)
                      replace p1139 := eq_true p1139
                      replace q1139 := eq_true q1139
                      have p1140 : 0 ≤ (1 : Int) := (by omega)
                      have q1140 : 1 < ((rd_L9 t1128 x28_1).length : Int) := of_decide_eq_true Zp
                      obtain ⟨ad1140, e1140, hx1140_0⟩ := Kd.at_int HR1131_0.out 1 p1140 q1140
                      have hw1140_0 := hx1140_0
                      (try rw [show ((1 : Int)).toNat = 1 from rfl] at hw1140_0)
                      (try rw [show 1 * 1 = 1 from rfl] at hw1140_0)
                      (try simp only [Nat.reduceMul, Nat.reduceEqDiff, Go.Addr.add, ↓reduceIte] at hw1140_0)
                      obtain rfl : ad1137 = ad1140 := (by injection e1140)
                      (try simp only [show (1 : Int).toNat = 1 from rfl, Nat.reduceMul, Nat.reduceEqDiff, Go.Addr.add, ↓reduceIte] at hx1140_0)
                      have qi1140 : (1 < (rd_L9 t1128 x28_1).length) = True := eq_true (by omega)
                      (try rw [show ((1 : Int)).toNat = 1 from rfl] at hx1140_0)
                      (try replace hx1140_0 := cbH HB hx1140_0)
                      replace p1140 := eq_true p1140
                      replace q1140 := eq_true q1140
                      refine start_ (n := 16) (S := fun w' => w'.cell? ad1137 = some (.int .i64 (rd (rd_L9 t1128 x28_1) 0)) ∧ w'.cell? ⟨ad1138.block, ad1138.off + 1, none⟩ = some (.int .i64 (rd (rd_L9 t1133 x40_2) 1)) ∧ w'.cell? ad1138 = some (.int .i64 (rd (rd_L9 t1133 x40_2) 0)) ∧ w'.cell? ⟨ad1137.block, ad1137.off + 1, none⟩ = some (.int .i64 (rd (rd_L9 t1128 x28_1) 1))) (ds := []) (bT 16 0) Zj rfl rfl ⟨(have z0_ := hw1137_0; Zbi), hx1138_0, hx1139_0, (have z0_ := hw1140_0; Zbi)⟩ (fun hHeld => ?_); refine with_tabW impl_MayMeet.tab10 impl_MayMeet.bits10 (fun HT_ HW_ => ?_)
                      generalize wr.drew = w34 at HO_26 HO_38 HL1136_0 BK1125 HR1131_0 HR1136_0 HB hx1137_0 hx1138_0 hx1139_0 hx1140_0 hHeld ⊢
                      refine pureZ HT_ 0 (some 44) (bT 16 1) ?_
                      refine pureZ HT_ 1 (some 45) (bT 16 2) ?_
                      refine pureZ HT_ 3 (some 47) #[true, true, false, true, false, false, false, false, false, false, false, false, false, false, false, false] ?_
                      refine pureZ HT_ 4 (some 48) #[true, true, false, true, true, false, false, false, false, false, false, false, false, false, false, false] ?_
                      refine take_ (i := 2) (N := some 46) (v := ?_) (a' := ?_) (bT 16 5) rfl rfl (take_ofW HT_.out HW_.out Zj) (fun _ _ _ h => h) (Or.inl ⟨by rfl, ?_⟩) hHeld ?_ ?_
                      rotate_left
                      ·rintro w' ⟨s0, s1, s2, s3⟩
                       go_simp
                       with_reducible rfl
                      rotate_left
                      ·exact Zput
                      refine take_ (i := 5) (N := some 49) (v := ?_) (a' := ?_) (bT 16 6) rfl rfl (take_ofW HT_.out HW_.out Zj) (fun _ _ _ h => h) (Or.inl ⟨by rfl, ?_⟩) hHeld ?_ ?_
                      rotate_left
                      ·rintro w' ⟨s0, s1, s2, s3⟩
                       go_simp
                       with_reducible rfl
                      rotate_left
                      ·exact Zput
                      refine pureZ HT_ 6 (some 50) (bT 16 7) ?_
                      refine pureZ HT_ 7 (some 51) (bT 16 8) ?_
                      refine pureZ HT_ 8 (some 52) (bT 16 9) ?_
                      refine pureZ HT_ 9 (some 53) (bT 16 10) ?_
                      refine pureZ HT_ 11 (some 55) #[true, true, true, true, true, true, true, true, true, true, false, true, false, false, false, false] ?_
                      refine pureZ HT_ 12 (some 56) #[true, true, true, true, true, true, true, true, true, true, false, true, true, false, false, false] ?_
                      refine take_ (i := 10) (N := some 54) (v := ?_) (a' := ?_) (bT 16 13) rfl rfl (take_ofW HT_.out HW_.out Zj) (fun _ _ _ h => h) (Or.inl ⟨by rfl, ?_⟩) hHeld ?_ ?_
                      rotate_left
                      ·rintro w' ⟨s0, s1, s2, s3⟩
                       go_simp
                       with_reducible rfl
                      rotate_left
                      ·exact Zput
                      refine take_ (i := 13) (N := some 57) (v := ?_) (a' := ?_) (bT 16 14) rfl rfl (take_ofW HT_.out HW_.out Zj) (fun _ _ _ h => h) (Or.inl ⟨by rfl, ?_⟩) hHeld ?_ ?_
                      rotate_left
                      ·rintro w' ⟨s0, s1, s2, s3⟩
                       go_simp
                       with_reducible rfl
                      rotate_left
                      ·exact Zput
                      refine pureZ HT_ 14 (some 58) (bT 16 15) ?_
                      refine pureZ HT_ 15 (some 59) (bT 16 16) ?_
                      refine done_ (done_of HT_.out Zj) ?_
                      try go_wp2
                      go_roundg k2
                      case measure => have := HK1.out; have := HK2.out; omega
                      case rel => exact ⟨(wrap64 (x40_2 + 1)), Za, H', ⟨by have := HK1.out; have := HK2.out; omega⟩, ⟨(have z0_ := HO_26; Zat)⟩, ⟨(have z0_ := HO_38; Zat)⟩, ⟨(have z0_ := BK1125; Ze)⟩, ⟨(have z0_ := HR1131_0; Zay)⟩, ⟨(have z0_ := GE1125; Zf)⟩⟩
                    ·rw [if_neg c31] at H
                     exact absurd H (by simp)
                   ·rw [if_neg c30] at H
                    exact absurd H (by simp)
                  ·rw [if_neg c29] at H
                   have c29b0 : decide ((rd (rd_L9 t1128 x28_1) 0) ≤ (rd (rd_L9 t1133 x40_2) 1)) = false := decide_eq_false c29
                   clear c29
                   have H' := Aside0.mk H
                   clear H
                   have p1136 : 0 ≤ (x40_2 : Int) := of_decide_eq_true Zp
                   have q1136 : x40_2 < (t1133.length : Int) := of_decide_eq_true Zp
                   obtain ⟨ad1136, A1136_0, c1136_0, e1136, hx1136_0, hl1136_0, hi1136_0⟩ := at_L9 (Kd.S_reads' HO_38.out).2.2 x40_2 p1136 q1136
                   cases e1136
                   obtain ⟨ce1136, hce1136, hMe1136, hcc1136⟩ := Kd.S_get HO_38.out [] x40_2 p1136 (have z0_ := HO_38; Zbj)
                   obtain ⟨ve1136_0, rfl, ge1136_0⟩ := hMe1136
                   have hv1136_0 := hcc1136 0 _ rfl
                   rw [Nat.add_zero, show ((Kd.slice 2 (Kd.int .i64))).sz = 1 from rfl, Nat.mul_one] at hv1136_0
                   replace hv1136_0 := Option.some.inj (hv1136_0.symm.trans hx1136_0)
                   rw [hv1136_0] at ge1136_0
                   have HL1136_0 := Aside0.mk (show Kd.R (Kd.int .i64) 2 _ _ _ _ (rd_L9 t1133 x40_2) from ge1136_0)
                   clear hv1136_0 ge1136_0
                   clear hcc1136 hce1136
                   have HR1136_0 := Aside0.mk hi1136_0
                   have HC1136_0 := Aside0.mk hl1136_0
                   clear hi1136_0 hl1136_0
                   replace p1136 := eq_true p1136
                   replace q1136 := eq_true q1136
                   try go_wp2
                   have n0_ := Aside0.mk (Kd.S_drew HO_26.out)
                   have n1_ := Aside0.mk (Kd.S_drew HO_38.out)
                   have n2_ := Aside0.mk (Kd.R_drew HL1136_0.out)
                   have n3_ := Aside0.mk (blk_drew BK1125.out)
                   have n4_ := Aside0.mk (Kd.C_drew HR1131_0.out)
                   have n5_ := Aside0.mk (Kd.C_drew HR1136_0.out)
                   have n6_ := Aside0.mk (below_drew1 HB.out)
                   clear HO_26
                   clear HO_38
                   clear HL1136_0
                   clear BK1125
                   clear HR1131_0
                   clear HR1136_0
                   clear HB
                   have HO_26 := n0_
                   have HO_38 := n1_
                   have HL1136_0 := n2_
                   have BK1125 := n3_
                   have HR1131_0 := n4_
                   have HR1136_0 := n5_
                   have HB := n6_
                   clear n0_ n1_ n2_ n3_ n4_ n5_ n6_
                   have p1137 : 0 ≤ (0 : Int) := (by omega)
                   have q1137 : 0 < ((rd_L9 t1128 x28_1).length : Int) := of_decide_eq_true Zp
                   obtain ⟨ad1137, e1137, hx1137_0⟩ := Kd.at_int HR1131_0.out 0 p1137 q1137
                   have hw1137_0 := hx1137_0
                   (try rw [show ((0 : Int)).toNat = 0 from rfl] at hw1137_0)
                   (try rw [show 0 * 1 = 0 from rfl] at hw1137_0)
                   (try rw [Addr.add_zero'] at hw1137_0)
                   cases e1137
                   have qi1137 : (0 < (rd_L9 t1128 x28_1).length) = True := eq_true (by omega)
                   (try rw [show ((0 : Int)).toNat = 0 from rfl] at hx1137_0)
                   (try rw [Addr.add_zero'] at hx1137_0)
                   (try replace hx1137_0 := cbH HB hx1137_0)
                   replace p1137 := eq_true p1137
                   replace q1137 := eq_true q1137
                   have p1138 : 0 ≤ (1 : Int) := (by omega)
                   have q1138 : 1 < ((rd_L9 t1133 x40_2).length : Int) := of_decide_eq_true Zp
                   obtain ⟨ad1138, e1138, hx1138_0⟩ := Kd.at_int (have z0_ := HR1136_0; Zay) 1 p1138 q1138
                   cases e1138
                   (try simp only [show (1 : Int).toNat = 1 from rfl, Nat.reduceMul, Nat.reduceEqDiff, Go.Addr.add, ↓reduceIte] at hx1138_0)
                   have qi1138 : (1 < (rd_L9 t1133 x40_2).length) = True := eq_true (by omega)
                   (try rw [show ((1 : Int)).toNat = 1 from rfl] at hx1138_0)
                   replace p1138 := eq_true p1138
                   replace q1138 := eq_true q1138
                   refine start_ (n := 16) (S := fun w' => w'.cell? ad1137 = some (.int .i64 (rd (rd_L9 t1128 x28_1) 0)) ∧ w'.cell? ⟨ad1138.block, ad1138.off + 1, none⟩ = some (.int .i64 (rd (rd_L9 t1133 x40_2) 1))) (ds := []) (bT 16 0) Zj rfl rfl ⟨(have z0_ := hw1137_0; Zbi), hx1138_0⟩ (fun hHeld => ?_); refine with_tabW impl_MayMeet.tab10 impl_MayMeet.bits10 (fun HT_ HW_ => ?_)
                   generalize wr.drew = w35 at HO_26 HO_38 HL1136_0 BK1125 HR1131_0 HR1136_0 HB hx1137_0 hx1138_0 hHeld ⊢
                   refine pureZ HT_ 0 (some 44) (bT 16 1) ?_
                   refine pureZ HT_ 1 (some 45) (bT 16 2) ?_
                   refine pureZ HT_ 3 (some 47) #[true, true, false, true, false, false, false, false, false, false, false, false, false, false, false, false] ?_
                   refine pureZ HT_ 4 (some 48) #[true, true, false, true, true, false, false, false, false, false, false, false, false, false, false, false] ?_
                   refine take_ (i := 2) (N := some 46) (v := ?_) (a' := ?_) (bT 16 5) rfl rfl (take_ofW HT_.out HW_.out Zj) (fun _ _ _ h => h) (Or.inl ⟨by rfl, ?_⟩) hHeld ?_ ?_
                   rotate_left
                   ·rintro w' ⟨s0, s1⟩
                    go_simp
                    with_reducible rfl
                   rotate_left
                   ·exact Zput
                   refine take_ (i := 5) (N := some 49) (v := ?_) (a' := ?_) (bT 16 6) rfl rfl (take_ofW HT_.out HW_.out Zj) (fun _ _ _ h => h) (Or.inl ⟨by rfl, ?_⟩) hHeld ?_ ?_
                   rotate_left
                   ·rintro w' ⟨s0, s1⟩
                    go_simp
                    with_reducible rfl
                   rotate_left
                   ·exact Zput
                   refine pureZ HT_ 6 (some 50) (bT 16 7) ?_
                   refine pureZ HT_ 7 (some 51) (bT 16 8) ?_
                   refine pure_ (i := 8) (N := some 52) (v := undef) (a' := ?_) (bT 16 9) rfl rfl (any_of HT_.out Zj) (fun _ _ _ h => h) (Or.inr ⟨by rfl, rfl⟩) ?_ ?_
                   rotate_left
                   ·exact Zput
                   refine pure_ (i := 9) (N := some 53) (v := undef) (a' := ?_) (bT 16 10) rfl rfl (any_of HT_.out Zj) (fun _ _ _ h => h) (Or.inr ⟨by rfl, rfl⟩) ?_ ?_
                   rotate_left
                   ·exact Zput
                   refine pure_ (i := 10) (N := some 54) (v := undef) (a' := ?_) (bT 16 11) rfl rfl (any_of HT_.out Zj) (fun _ _ _ h => h) (Or.inr ⟨by rfl, rfl⟩) ?_ ?_
                   rotate_left
                   ·exact Zput
                   refine pure_ (i := 11) (N := some 55) (v := undef) (a' := ?_) (bT 16 12) rfl rfl (any_of HT_.out Zj) (fun _ _ _ h => h) (Or.inr ⟨by rfl, rfl⟩) ?_ ?_
                   rotate_left
                   ·exact Zput
                   refine pure_ (i := 12) (N := some 56) (v := undef) (a' := ?_) (bT 16 13) rfl rfl (any_of HT_.out Zj) (fun _ _ _ h => h) (Or.inr ⟨by rfl, rfl⟩) ?_ ?_
                   rotate_left
                   ·exact Zput
                   refine pure_ (i := 13) (N := some 57) (v := undef) (a' := ?_) (bT 16 14) rfl rfl (any_of HT_.out Zj) (fun _ _ _ h => h) (Or.inr ⟨by rfl, rfl⟩) ?_ ?_
                   rotate_left
                   ·exact Zput
                   refine pure_ (i := 14) (N := some 58) (v := undef) (a' := ?_) (bT 16 15) rfl rfl (any_of HT_.out Zj) (fun _ _ _ h => h) (Or.inr ⟨by rfl, rfl⟩) ?_ ?_
                   rotate_left
                   ·exact Zput
                   refine pureZ HT_ 15 (some 59) (bT 16 16) ?_
                   refine done_ (done_of HT_.out Zj) ?_
                   try go_wp2
                   go_roundg k2
                   case measure => have := HK1.out; have := HK2.out; omega
                   case rel => exact ⟨(wrap64 (x40_2 + 1)), Za, H', ⟨by have := HK1.out; have := HK2.out; omega⟩, ⟨(have z0_ := HO_26; Zat)⟩, ⟨(have z0_ := HO_38; Zat)⟩, ⟨(have z0_ := BK1125; Ze)⟩, ⟨(have z0_ := HR1131_0; Zay)⟩, ⟨(have z0_ := GE1125; Zf)⟩⟩
                 ·rw [if_neg c28] at H
                  exact absurd H (by simp)
                ·rw [if_neg c27] at H
                 exact absurd H (by simp)
               ·rw [if_neg c26] at H
                exact absurd H (by simp)
              ·rw [if_neg c25] at H
               exact absurd H (by simp)
             ·rw [if_neg c24] at H
              have c24b0 : decide (x40_2 < (t1133.length : Int)) = false := decide_eq_false c24
              clear c24
              have H' := Aside0.mk H
              clear H
              go_wp2
              go_roundg k2
              case measure => have := HK1.out; have := HK2.out; omega
              case rel => exact ⟨(wrap64 (x28_1 + 1)), Za, H', ⟨by have := HK1.out; have := HK2.out; omega⟩, ⟨by (with_reducible repeat (first | apply Kd.S_alloc | apply Kd.S_drewN | apply Kd.S_drew)); exact Kd.S_mono HO_26.out (fun _ hk => trivial)⟩, ⟨(have z0_ := BK1125; Ze)⟩, ⟨(have z0_ := GE1125; Zf)⟩⟩
          ·rw [if_neg c19] at H
           exact absurd H (by simp)
         ·rw [if_neg c18] at H
          exact absurd H (by simp)
        ·rw [if_neg c17] at H
         exact absurd H (by simp)
       ·rw [if_neg c16] at H
        exact absurd H (by simp)
      ·rw [if_neg c15] at H
       have c15b0 : decide (x28_1 < (t1128.length : Int)) = false := decide_eq_false c15
       clear c15
       simp only [Option.some.injEq, Prod.mk.injEq] at H
       obtain ⟨rfl, rfl⟩ := H
       go_wp2
       go_ret2
       exact ⟨Zk, (have z0_ := GE1125; Zf)⟩
   ·rw [if_neg c7] at H
    exact absurd H (by simp)
  ·rw [if_neg c6] at H
   exact absurd H (by simp)
 ·rw [if_neg c5] at H
  have c5b0 : (t1126 == 0) = false := beq_eq_false_iff_ne.mpr c5
  have c5b1 : (t1126 != 0) = true := bne_iff_ne.mpr c5
  simp only [Option.some.injEq, Prod.mk.injEq] at H
  obtain ⟨rfl, rfl⟩ := H
  go_enter Try.func43, Try.ntmps43
  go_wp2_with (first | ((with_reducible refine gate_dst (N := 3) rfl ?_); refine box_event ?hg (N := 3) ?hd (cs := #[.slice A0_0 l0_0.length c0_0, .slice A0_1 l0_1.length c0_1, .slice A0_2 l0_2.length c0_2]) (t := 32) ?hr ?_; (case hd => rfl); (case hg => rfl); (case hr => first | (go_simp; done) | (go_simp; rfl)); intro gb1125 hg w36 hbox hb; have n0_ := Aside0.mk (below_step Zc hb); have n1_ := Aside0.mk (hbox); have n2_ := Aside0.mk ((Zd : w.heap.size ≤ gb1125)); have n3_ := Aside0.mk ((Zd : w.heap.size ≤ gb1125)); clear HB; have HB := n0_; have BK1125 := n1_; have GW1125 := n2_; have GE1125 := n3_; clear n0_ n1_ n2_ n3_; clear hb hbox hg; obtain ⟨hcz37_0, hcz37_1, hcz37_2, hfz37_0, hfz37_1, hfz37_2⟩ := cz3 BK1125) | ((with_reducible refine gate_callee (f := 104) rfl ?_); refine goesL_ (some 16) rfl rfl Try.func104 Zj rfl #[.agg #[.slice A0_0 l0_0.length c0_0, .slice A0_1 l0_1.length c0_1, .slice A0_2 l0_2.length c0_2], .int .i64 a1, .int .i64 a2] rfl Zo ?_; (with_reducible refine (impl_twoCues.calls k _ _ l0_0 _ _ l0_1 _ _ l0_2 a1 a2 t1126 _ ?side1 ?side2 ?side3 ?side4 ?side5 ?side6 A4.out).mono ?_); (case side1 => repeat (first | exact (Kd.C_below HR0_0.out HB.out) | (with_reducible refine Kd.C_alloc ?_ _) | (with_reducible refine Kd.C_drewN ?_ _) | (with_reducible refine Kd.C_drew ?_))); (case side2 => exact HC0_0.out); (case side3 => repeat (first | exact (Kd.C_below HR0_1.out HB.out) | (with_reducible refine Kd.C_alloc ?_ _) | (with_reducible refine Kd.C_drewN ?_ _) | (with_reducible refine Kd.C_drew ?_))); (case side4 => exact HC0_1.out); (case side5 => repeat (first | exact (Kd.C_below HR0_2.out HB.out) | (with_reducible refine Kd.C_alloc ?_ _) | (with_reducible refine Kd.C_drewN ?_ _) | (with_reducible refine Kd.C_drew ?_))); (case side6 => exact HC0_2.out); rintro e w38 ⟨rfl, hb⟩; refine ⟨_, rfl, ?_⟩; have n0_ := Aside0.mk (blk_below (g := gb1125) (o := .cells #[.slice A0_0 l0_0.length c0_0, .slice A0_1 l0_1.length c0_1, .slice A0_2 l0_2.length c0_2] 32 (0, 0)) (have z0_ := BK1125; Ze) hb); have n1_ := Aside0.mk (below_step (have z0_ := GE1125; Zf) hb); clear BK1125; clear HB; have BK1125 := n0_; have HB := n1_; clear n0_ n1_; (try clear hb); (try clear hb2); (try clear hk); (try clear hi)))
  go_ret2
  exact ⟨Zk, (have z0_ := GE1125; Zf)⟩
end Go.Proofs.Ytnlbaflbhicooaa.F
namespace Go.Proofs.Ytnlbaflbhicooaa.F
open Go.RowKit Go.Proofs.YtnlbaflbhicooaaW.PrintWords Go.Proofs.YtnlbaflbhicooaaW.PrintLast Go.Proofs.YtnlbaflbhicooaaW.PrintMore
set_option linter.unusedVariables false
set_option linter.unusedSimpArgs false
structure Ok_FnExactMayMeet (k : Nat) (l0_0 : List S110) (l0_1 : List S105) (l0_2 : List S40) (a1 : Int) (a2 : Int) (L0_0 : List S108) (M0_0 : List S108) (t0_0 : Int) (L0_1 : List S92) (M0_1 : List S92) (t0_1 : Int) (L0_2 : List S43) (M0_2 : List S43) (t0_2 : Int) (q1 : Bool) (q2 : Int) : Prop where
 ne0_0 : L0_0 ≠ []
 tk0_0 : M0_0 = L0_0.take l0_0.length ∧ l0_0.length ≤ L0_0.length
 ln0_0 : M0_0.length = l0_0.length
 rm0_0 : laws_roomBehind.f (M0_0.length : Int) = some t0_0
 jn0_0 : wrap64 ((M0_0.length : Int) + t0_0) = (L0_0.length : Int)
 eq0_0 : laws_eqBarS.f k L0_0 L0_0 = some true
 ne0_1 : L0_1 ≠ []
 tk0_1 : M0_1 = L0_1.take l0_1.length ∧ l0_1.length ≤ L0_1.length
 ln0_1 : M0_1.length = l0_1.length
 rm0_1 : laws_roomBehind.f (M0_1.length : Int) = some t0_1
 jn0_1 : wrap64 ((M0_1.length : Int) + t0_1) = (L0_1.length : Int)
 eq0_1 : laws_eqArticleS.f k L0_1 L0_1 = some true
 ne0_2 : L0_2 ≠ []
 tk0_2 : M0_2 = L0_2.take l0_2.length ∧ l0_2.length ≤ L0_2.length
 ln0_2 : M0_2.length = l0_2.length
 rm0_2 : laws_roomBehind.f (M0_2.length : Int) = some t0_2
 jn0_2 : wrap64 ((M0_2.length : Int) + t0_2) = (L0_2.length : Int)
 eq0_2 : laws_eqCueS.f k L0_2 L0_2 = some true
 fu0 : full_toShow.f k l0_0 l0_1 l0_2 false = some (L0_0, L0_1, L0_2)
 to0 : laws_toShow.f k l0_0 l0_1 l0_2 true = some (M0_0, M0_1, M0_2)
 sp : spec_MayMeet.f k M0_0 M0_1 M0_2 a1 a2 = some (q1, q2)
 im : impl_MayMeet.f k M0_0 M0_1 M0_2 a1 a2 = some (q1, q2)
def Law_FnExactMayMeet (k : Nat) (l0_0 : List S110) (l0_1 : List S105) (l0_2 : List S40) (a1 : Int) (a2 : Int) : Prop := ∃ s1 : Int, laws_szShow.f k l0_0 l0_1 l0_2 1000000 = some s1 ∧ (s1 < 0 ∨ (0 ≤ s1 ∧ ∃ (L0_0 : List S108) (M0_0 : List S108) (t0_0 : Int) (L0_1 : List S92) (M0_1 : List S92) (t0_1 : Int) (L0_2 : List S43) (M0_2 : List S43) (t0_2 : Int) (q1 : Bool) (q2 : Int), Ok_FnExactMayMeet k l0_0 l0_1 l0_2 a1 a2 L0_0 M0_0 t0_0 L0_1 M0_1 t0_1 L0_2 M0_2 t0_2 q1 q2))
def Pure_FnExactMayMeet : Prop := ∀ (l0_0 : List S110) (l0_1 : List S105) (l0_2 : List S40) (a1 : Int) (a2 : Int), l0_0.length ≤ maxLen → (∀ x ∈ l0_0, Pr110 x) → l0_1.length ≤ maxLen → (∀ x ∈ l0_1, Pr105 x) → l0_2.length ≤ maxLen → (∀ x ∈ l0_2, Pr40 x) → I64 a1 → I64 a2 → ∃ k, Law_FnExactMayMeet k l0_0 l0_1 l0_2 a1 a2
def law_FnExactMayMeet.T : Bool × List (List Nat × List Nat) := (true, [([], []), ([], []), ([1], [1]), ([0, 2, 2], [0, 2]), ([3], [3])])
def law_FnExactMayMeet.B : List Nat := [0, 0, 2, 7, 15]
theorem law_FnExactMayMeet.tab : rtab .any (opsOf Try.f9 10) = law_FnExactMayMeet.T := by kernel_rfl
theorem law_FnExactMayMeet.bits : waitsOk law_FnExactMayMeet.T.2 law_FnExactMayMeet.B = true := by kernel_rfl
set_option maxHeartbeats 8000000 in
set_option maxRecDepth 100000 in
theorem law_FnExactMayMeet (k : Nat) (A0_0 : Option Addr) (c0_0 : Nat) (l0_0 : List S110) (A0_1 : Option Addr) (c0_1 : Nat) (l0_1 : List S105) (A0_2 : Option Addr) (c0_2 : Nat) (l0_2 : List S40) (a1 : Int) (a2 : Int) (w : World) (hr0_0 : Kd.C k110 w A0_0 l0_0.length l0_0) (hc0_0 : l0_0.length ≤ c0_0) (hr0_1 : Kd.C k105 w A0_1 l0_1.length l0_1) (hc0_1 : l0_1.length ≤ c0_1) (hr0_2 : Kd.C k40 w A0_2 l0_2.length l0_2) (hc0_2 : l0_2.length ≤ c0_2) (h : Law_FnExactMayMeet k l0_0 l0_1 l0_2 a1 a2) :
  Calls Try.prog 9 #[.agg #[.slice A0_0 l0_0.length c0_0, .slice A0_1 l0_1.length c0_1, .slice A0_2 l0_2.length c0_2], .int .i64 a1, .int .i64 a2] w fun e w' => e = .returned (.bool true) ∧ Below w.heap.size w w' := by
 have HR0_0 := Aside0.mk hr0_0
 have HC0_0 := Aside0.mk hc0_0
 clear hr0_0 hc0_0
 have HR0_1 := Aside0.mk hr0_1
 have HC0_1 := Aside0.mk hc0_1
 clear hr0_1 hc0_1
 have HR0_2 := Aside0.mk hr0_2
 have HC0_2 := Aside0.mk hc0_2
 clear hr0_2 hc0_2
 have HB := Aside0.mk (Below.refl w.heap.size w)
 obtain ⟨s1, hs_, h⟩ := h
 have HS1 := Aside0.mk hs_
 clear hs_
 rcases h with h | ⟨h', h⟩
 ·have f_ : decide (s1 < 0) = true := decide_eq_true h
  clear h
  go_enter Try.func9, Try.ntmps9
  go_wp2_with (first | ((with_reducible refine gate_dst (N := 3) rfl ?_); refine box_event ?hg (N := 3) ?hd (cs := #[.slice A0_0 l0_0.length c0_0, .slice A0_1 l0_1.length c0_1, .slice A0_2 l0_2.length c0_2]) (t := 26) ?hr ?_; (case hd => rfl); (case hg => rfl); (case hr => first | (go_simp; done) | (go_simp; rfl)); intro g_0 hg w1 hbox hb; have nk_ := Aside0.mk hbox; have ne_ := Aside0.mk (Zd : w.heap.size ≤ g_0); have OB0 := Aside0.mk (Zaj : w.heap.size ≤ g_0); clear hbox hg; have nb_ := Aside0.mk (below_step Zc hb); clear HB; have HB := nb_; clear nb_ hb; have BK0 := nk_; have GE0 := ne_; clear nk_ ne_; obtain ⟨hcz1_0, hcz1_1, hcz1_2, hfz1_0, hfz1_1, hfz1_2⟩ := cz3 BK0) | ((with_reducible refine gate_callee (f := 19) rfl ?_); (try (refine gate_guard (by rfl) ?_; dsimp only)); refine goesL_ (some 17) rfl rfl Try.func19 Zj rfl #[.agg #[.slice A0_0 l0_0.length c0_0, .slice A0_1 l0_1.length c0_1, .slice A0_2 l0_2.length c0_2], .int .i64 1000000] rfl Zo ?_; (with_reducible refine (laws_szShow.calls k _ _ l0_0 _ _ l0_1 _ _ l0_2 1000000 s1 _ (Kd.C_below HR0_0.out Zc) HC0_0.out (Kd.C_below HR0_1.out Zc) HC0_1.out (Kd.C_below HR0_2.out Zc) HC0_2.out HS1.out).mono ?_); rintro e w1 ⟨rfl, hb⟩; refine ⟨_, rfl, ?_⟩; have nb_ := Aside0.mk (below_step Zc hb); have nk0_ := Aside0.mk (blk_below (g := g_0) (o := .cells #[.slice A0_0 l0_0.length c0_0, .slice A0_1 l0_1.length c0_1, .slice A0_2 l0_2.length c0_2] 26 (0, 0)) (have z0_ := BK0; Ze) hb); clear HB; have HB := nb_; clear nb_ hb; clear BK0; have BK0 := nk0_; clear nk0_; obtain ⟨hcz2_0, hcz2_1, hcz2_2, hfz2_0, hfz2_1, hfz2_2⟩ := cz3 BK0))
  go_ret
  exact ⟨rfl, Zc⟩
 have fs1 : decide (s1 < 0) = false := decide_eq_false (by omega)
 clear h'
 obtain ⟨L0_0, M0_0, t0_0, L0_1, M0_1, t0_1, L0_2, M0_2, t0_2, q1, q2, h⟩ := h
 have HF := Aside0.mk h
 clear h
 have f1q1 : (q1 != q1) = false := by simp
 have f2q1 : (q1 == q1) = true := by simp
 have f1q2 : (q2 != q2) = false := by simp
 have f2q2 : (q2 == q2) = true := by simp
 go_enter Try.func9, Try.ntmps9
 go_wp2_with (first | ((with_reducible refine gate_dst (N := 3) rfl ?_); refine box_event ?hg (N := 3) ?hd (cs := #[.slice A0_0 l0_0.length c0_0, .slice A0_1 l0_1.length c0_1, .slice A0_2 l0_2.length c0_2]) (t := 26) ?hr ?_; (case hd => rfl); (case hg => rfl); (case hr => first | (go_simp; done) | (go_simp; rfl)); intro g_0 hg w1 hbox hb; have nk_ := Aside0.mk hbox; have ne_ := Aside0.mk (Zd : w.heap.size ≤ g_0); have OB0 := Aside0.mk (Zaj : w.heap.size ≤ g_0); clear hbox hg; have nb_ := Aside0.mk (below_step Zc hb); clear HB; have HB := nb_; clear nb_ hb; have BK0 := nk_; have GE0 := ne_; clear nk_ ne_; obtain ⟨hcz1_0, hcz1_1, hcz1_2, hfz1_0, hfz1_1, hfz1_2⟩ := cz3 BK0) | ((with_reducible refine gate_callee (f := 19) rfl ?_); (try (refine gate_guard (by rfl) ?_; dsimp only)); refine goesL_ (some 17) rfl rfl Try.func19 Zj rfl #[.agg #[.slice A0_0 l0_0.length c0_0, .slice A0_1 l0_1.length c0_1, .slice A0_2 l0_2.length c0_2], .int .i64 1000000] rfl Zo ?_; (with_reducible refine (laws_szShow.calls k _ _ l0_0 _ _ l0_1 _ _ l0_2 1000000 s1 _ (Kd.C_below HR0_0.out Zc) HC0_0.out (Kd.C_below HR0_1.out Zc) HC0_1.out (Kd.C_below HR0_2.out Zc) HC0_2.out HS1.out).mono ?_); rintro e w1 ⟨rfl, hb⟩; refine ⟨_, rfl, ?_⟩; have nb_ := Aside0.mk (below_step Zc hb); have nk0_ := Aside0.mk (blk_below (g := g_0) (o := .cells #[.slice A0_0 l0_0.length c0_0, .slice A0_1 l0_1.length c0_1, .slice A0_2 l0_2.length c0_2] 26 (0, 0)) (have z0_ := BK0; Ze) hb); clear HB; have HB := nb_; clear nb_ hb; clear BK0; have BK0 := nk0_; clear nk0_; obtain ⟨hcz2_0, hcz2_1, hcz2_2, hfz2_0, hfz2_1, hfz2_2⟩ := cz3 BK0) | ((with_reducible refine gate_callee (f := 21) rfl ?_); (try (refine gate_guard (by rfl) ?_; dsimp only)); refine goesL_ (some 22) rfl rfl Try.func21 Zj rfl #[.agg #[.slice A0_0 l0_0.length c0_0, .slice A0_1 l0_1.length c0_1, .slice A0_2 l0_2.length c0_2], .bool false] rfl Zo ?_; (with_reducible refine (full_toShow.calls k _ _ l0_0 _ _ l0_1 _ _ l0_2 false L0_0 L0_1 L0_2 _ (Kd.C_below HR0_0.out Zc) HC0_0.out (Kd.C_below HR0_1.out Zc) HC0_1.out (Kd.C_below HR0_2.out Zc) HC0_2.out HF.out.fu0 HF.out.ne0_0 HF.out.ne0_1 HF.out.ne0_2).mono ?_); rintro e w1 ⟨a_1, b_1, a_2, b_2, a_3, b_3, he_, ho0, ho1, ho2, hb⟩; rw [← HF.out.ln0_0, ← HF.out.ln0_1, ← HF.out.ln0_2] at he_; subst he_; refine ⟨_, rfl, ?_⟩; obtain ⟨lo1, hi1, hx0_, hx1_, hx2_, ha_, hz_, _⟩ := Ob_mk3 (base := w.heap.size) ho0 ho1 ho2 hb (below_le Zc) (Nat.succ_le_of_lt (blk_lt (have z0_ := BK0; Ze))); have X1 := Aside0.mk hx0_; have X2 := Aside0.mk hx1_; have X3 := Aside0.mk hx2_; have OX1 := Aside0.mk (And.intro ha_ hz_); clear hx0_ hx1_ hx2_ ha_ hz_ ho0 ho1 ho2; have nb_ := Aside0.mk (below_step Zc hb); have nk0_ := Aside0.mk (blk_below (g := g_0) (o := .cells #[.slice A0_0 l0_0.length c0_0, .slice A0_1 l0_1.length c0_1, .slice A0_2 l0_2.length c0_2] 26 (0, 0)) (have z0_ := BK0; Ze) hb); clear HB; have HB := nb_; clear nb_ hb; clear BK0; have BK0 := nk0_; clear nk0_; obtain ⟨hcz3_0, hcz3_1, hcz3_2, hfz3_0, hfz3_1, hfz3_2⟩ := cz3 BK0) | ((with_reducible refine gate_callee (f := 42) rfl ?_); (try (refine gate_guard (by rfl) ?_; dsimp only)); refine goesL_ (some 25) rfl rfl Try.func42 Zj rfl #[.agg #[.slice a_1 M0_0.length b_1, .slice a_2 M0_1.length b_2, .slice a_3 M0_2.length b_3], .int .i64 a1, .int .i64 a2] rfl Zo ?_; (with_reducible refine (spec_MayMeet.calls k _ _ M0_0 _ _ M0_1 _ _ M0_2 a1 a2 q1 q2 _ (fullC (have z0_ := X1; Zbk) HF.out.tk0_0).1 (fullC X1.out HF.out.tk0_0).2.1 (fullC (have z0_ := X2; Zbk) HF.out.tk0_1).1 (fullC X2.out HF.out.tk0_1).2.1 (fullC (have z0_ := X3; Zbk) HF.out.tk0_2).1 (fullC X3.out HF.out.tk0_2).2.1 HF.out.sp).mono ?_); rintro e w1 ⟨rfl, hb⟩; refine ⟨_, rfl, ?_⟩; have n0_ := Aside0.mk (Ob_below (have z0_ := X1; Zbk) hb); have n1_ := Aside0.mk (Ob_below (have z0_ := X2; Zbk) hb); have n2_ := Aside0.mk (Ob_below (have z0_ := X3; Zbk) hb); have nb_ := Aside0.mk (below_step Zc hb); have nk0_ := Aside0.mk (blk_below (g := g_0) (o := .cells #[.slice A0_0 l0_0.length c0_0, .slice A0_1 l0_1.length c0_1, .slice A0_2 l0_2.length c0_2] 26 (0, 0)) (have z0_ := BK0; Ze) hb); clear X1; clear X2; clear X3; clear HB; have X1 := n0_; clear n0_; have X2 := n1_; clear n1_; have X3 := n2_; clear n2_; have HB := nb_; clear nb_ hb; clear BK0; have BK0 := nk0_; clear nk0_; obtain ⟨hcz4_0, hcz4_1, hcz4_2, hfz4_0, hfz4_1, hfz4_2⟩ := cz3 BK0) | ((with_reducible refine gate_callee (f := 21) rfl ?_); (try (refine gate_guard (by rfl) ?_; dsimp only)); refine goesL_ (some 29) rfl rfl Try.func21 Zj rfl #[.agg #[.slice A0_0 l0_0.length c0_0, .slice A0_1 l0_1.length c0_1, .slice A0_2 l0_2.length c0_2], .bool false] rfl Zo ?_; (with_reducible refine (full_toShow.calls k _ _ l0_0 _ _ l0_1 _ _ l0_2 false L0_0 L0_1 L0_2 _ (Kd.C_below HR0_0.out Zc) HC0_0.out (Kd.C_below HR0_1.out Zc) HC0_1.out (Kd.C_below HR0_2.out Zc) HC0_2.out HF.out.fu0 HF.out.ne0_0 HF.out.ne0_1 HF.out.ne0_2).mono ?_); rintro e w1 ⟨a_4, b_4, a_5, b_5, a_6, b_6, he_, ho0, ho1, ho2, hb⟩; rw [← HF.out.ln0_0, ← HF.out.ln0_1, ← HF.out.ln0_2] at he_; subst he_; refine ⟨_, rfl, ?_⟩; obtain ⟨lo4, hi4, hx0_, hx1_, hx2_, ha_, hz_, _⟩ := Ob_mk3 (base := w.heap.size) ho0 ho1 ho2 hb (below_le Zc) (Ob_hi (have z0_ := X1; Zbk)); have X4 := Aside0.mk hx0_; have X5 := Aside0.mk hx1_; have X6 := Aside0.mk hx2_; have OX4 := Aside0.mk (And.intro ha_ hz_); clear hx0_ hx1_ hx2_ ha_ hz_ ho0 ho1 ho2; have n0_ := Aside0.mk (Ob_below (have z0_ := X1; Zbk) hb); have n1_ := Aside0.mk (Ob_below (have z0_ := X2; Zbk) hb); have n2_ := Aside0.mk (Ob_below (have z0_ := X3; Zbk) hb); have nb_ := Aside0.mk (below_step Zc hb); have nk0_ := Aside0.mk (blk_below (g := g_0) (o := .cells #[.slice A0_0 l0_0.length c0_0, .slice A0_1 l0_1.length c0_1, .slice A0_2 l0_2.length c0_2] 26 (0, 0)) (have z0_ := BK0; Ze) hb); clear X1; clear X2; clear X3; clear HB; have X1 := n0_; clear n0_; have X2 := n1_; clear n1_; have X3 := n2_; clear n2_; have HB := nb_; clear nb_ hb; clear BK0; have BK0 := nk0_; clear nk0_; obtain ⟨hcz5_0, hcz5_1, hcz5_2, hfz5_0, hfz5_1, hfz5_2⟩ := cz3 BK0) | ((with_reducible refine gate_dst (N := 10) rfl ?_); refine box_event ?hg (N := 10) ?hd (cs := #[.slice none 0 0, .slice none 0 0, .slice none 0 0]) (t := 32) ?hr ?_; (case hd => rfl); (case hg => rfl); (case hr => first | (go_simp; done) | (go_simp; rfl)); intro g_91 hg w1 hbox hb; have nk_ := Aside0.mk hbox; have ne_ := Aside0.mk (Zd : w.heap.size ≤ g_91); have OB91 := Aside0.mk (by rw [hg]; exact (Ob_hi (have z0_ := X4; Zbk)) : hi4 ≤ g_91); clear hbox hg; have n0_ := Aside0.mk (Ob_below (have z0_ := X1; Zbk) hb); have n1_ := Aside0.mk (Ob_below (have z0_ := X2; Zbk) hb); have n2_ := Aside0.mk (Ob_below (have z0_ := X3; Zbk) hb); have n3_ := Aside0.mk (Ob_below (have z0_ := X4; Zbk) hb); have n4_ := Aside0.mk (Ob_below (have z0_ := X5; Zbk) hb); have n5_ := Aside0.mk (Ob_below (have z0_ := X6; Zbk) hb); have nb_ := Aside0.mk (below_step Zc hb); have nk0_ := Aside0.mk (blk_below (g := g_0) (o := .cells #[.slice A0_0 l0_0.length c0_0, .slice A0_1 l0_1.length c0_1, .slice A0_2 l0_2.length c0_2] 26 (0, 0)) (have z0_ := BK0; Ze) hb); clear X1; clear X2; clear X3; clear X4; clear X5; clear X6; clear HB; have X1 := n0_; clear n0_; have X2 := n1_; clear n1_; have X3 := n2_; clear n2_; have X4 := n3_; clear n3_; have X5 := n4_; clear n4_; have X6 := n5_; clear n5_; have HB := nb_; clear nb_ hb; clear BK0; have BK0 := nk0_; clear nk0_; obtain ⟨hcz6_0, hcz6_1, hcz6_2, hfz6_0, hfz6_1, hfz6_2⟩ := cz3 BK0; have BK91 := nk_; have GE91 := ne_; clear nk_ ne_; skip) | ((with_reducible refine gate_store (t := 32) (p := 10) rfl ?_); obtain ⟨hcz7_0, hcz7_1, hcz7_2, hfz7_0, hfz7_1, hfz7_2⟩ := cz3 BK91; refine store_event (t := 32) (p := 10) (v := ?vo) (w1 := (((w1.setCell ⟨g_91, 0, none⟩ (.slice a_4 M0_0.length b_4)).setCell ⟨g_91, 1, none⟩ (.slice a_5 M0_1.length b_5)).setCell ⟨g_91, 2, none⟩ (.slice a_6 M0_2.length b_6))) ?hg ?ho ?hn ?hr ?_; (case ho => rfl); (case hg => rfl); (case hn => rfl); (case hr => first | (go_simp; done) | (go_simp; rfl)); intro w2 hw; clear hcz7_0 hfz7_0 hcz7_1 hfz7_1 hcz7_2 hfz7_2; have n0_ := Aside0.mk (Ob_set (g := g_91) (j := 2) (Ob_set (g := g_91) (j := 1) (Ob_set (g := g_91) (j := 0) (X1.out) Zbl (.slice a_4 M0_0.length b_4)) Zbl (.slice a_5 M0_1.length b_5)) Zbl (.slice a_6 M0_2.length b_6)); rw [← hw] at n0_; have n1_ := Aside0.mk (Ob_set (g := g_91) (j := 2) (Ob_set (g := g_91) (j := 1) (Ob_set (g := g_91) (j := 0) (X2.out) Zbl (.slice a_4 M0_0.length b_4)) Zbl (.slice a_5 M0_1.length b_5)) Zbl (.slice a_6 M0_2.length b_6)); rw [← hw] at n1_; have n2_ := Aside0.mk (Ob_set (g := g_91) (j := 2) (Ob_set (g := g_91) (j := 1) (Ob_set (g := g_91) (j := 0) (X3.out) Zbl (.slice a_4 M0_0.length b_4)) Zbl (.slice a_5 M0_1.length b_5)) Zbl (.slice a_6 M0_2.length b_6)); rw [← hw] at n2_; have n3_ := Aside0.mk (Ob_set (g := g_91) (j := 2) (Ob_set (g := g_91) (j := 1) (Ob_set (g := g_91) (j := 0) (X4.out) Zbl (.slice a_4 M0_0.length b_4)) Zbl (.slice a_5 M0_1.length b_5)) Zbl (.slice a_6 M0_2.length b_6)); rw [← hw] at n3_; have n4_ := Aside0.mk (Ob_set (g := g_91) (j := 2) (Ob_set (g := g_91) (j := 1) (Ob_set (g := g_91) (j := 0) (X5.out) Zbl (.slice a_4 M0_0.length b_4)) Zbl (.slice a_5 M0_1.length b_5)) Zbl (.slice a_6 M0_2.length b_6)); rw [← hw] at n4_; have n5_ := Aside0.mk (Ob_set (g := g_91) (j := 2) (Ob_set (g := g_91) (j := 1) (Ob_set (g := g_91) (j := 0) (X6.out) Zbl (.slice a_4 M0_0.length b_4)) Zbl (.slice a_5 M0_1.length b_5)) Zbl (.slice a_6 M0_2.length b_6)); rw [← hw] at n5_; have nb_ : Aside0 (Below w.heap.size w w2) := ⟨by rw [hw]; exact below_set (below_set (below_set (HB.out) GE91.out) GE91.out) GE91.out⟩; have nk0_ : Aside0 (w2.heap[g_0]? = some (.cells #[.slice A0_0 l0_0.length c0_0, .slice A0_1 l0_1.length c0_1, .slice A0_2 l0_2.length c0_2] 26 (0, 0))) := ⟨by rw [hw]; exact blk_far (blk_far (blk_far (BK0.out) (show g_0 ≠ g_91 from Zbl) _) (show g_0 ≠ g_91 from Zbl) _) (show g_0 ≠ g_91 from Zbl) _⟩; have nk91_ : Aside0 (w2.heap[g_91]? = some (.cells #[.slice a_4 M0_0.length b_4, .slice a_5 M0_1.length b_5, .slice a_6 M0_2.length b_6] 32 (0, 0))) := ⟨by rw [hw]; exact blk_put (cs := #[.slice a_4 M0_0.length b_4, .slice a_5 M0_1.length b_5, .slice none 0 0]) (blk_put (cs := #[.slice a_4 M0_0.length b_4, .slice none 0 0, .slice none 0 0]) (blk_put (cs := #[.slice none 0 0, .slice none 0 0, .slice none 0 0]) (BK91.out) 0 _ rfl) 1 _ rfl) 2 _ rfl⟩; clear X1; clear X2; clear X3; clear X4; clear X5; clear X6; clear HB; have X1 := n0_; clear n0_; have X2 := n1_; clear n1_; have X3 := n2_; clear n2_; have X4 := n3_; clear n3_; have X5 := n4_; clear n4_; have X6 := n5_; clear n5_; have HB := nb_; clear nb_ hw; clear BK0; have BK0 := nk0_; clear nk0_; clear BK91; have BK91 := nk91_; clear nk91_; obtain ⟨hcz8_0, hcz8_1, hcz8_2, hfz8_0, hfz8_1, hfz8_2⟩ := cz3 BK0; obtain ⟨hcz9_0, hcz9_1, hcz9_2, hfz9_0, hfz9_1, hfz9_2⟩ := cz3 BK91) | ((with_reducible refine gate_callee (f := 43) rfl ?_); (try (refine gate_guard (by rfl) ?_; dsimp only)); refine goesL_ (some 34) rfl rfl Try.func43 Zj rfl #[.agg #[.slice a_4 M0_0.length b_4, .slice a_5 M0_1.length b_5, .slice a_6 M0_2.length b_6], .int .i64 a1, .int .i64 a2] rfl Zo ?_; (with_reducible refine (impl_MayMeet.calls k _ _ M0_0 _ _ M0_1 _ _ M0_2 a1 a2 q1 q2 _ (fullC (have z0_ := X4; Zbk) HF.out.tk0_0).1 (fullC X4.out HF.out.tk0_0).2.1 (fullC (have z0_ := X5; Zbk) HF.out.tk0_1).1 (fullC X5.out HF.out.tk0_1).2.1 (fullC (have z0_ := X6; Zbk) HF.out.tk0_2).1 (fullC X6.out HF.out.tk0_2).2.1 HF.out.im).mono ?_); rintro e w1 ⟨rfl, hb⟩; refine ⟨_, rfl, ?_⟩; have n0_ := Aside0.mk (Ob_below (have z0_ := X1; Zbk) hb); have n1_ := Aside0.mk (Ob_below (have z0_ := X2; Zbk) hb); have n2_ := Aside0.mk (Ob_below (have z0_ := X3; Zbk) hb); have n3_ := Aside0.mk (Ob_below (have z0_ := X4; Zbk) hb); have n4_ := Aside0.mk (Ob_below (have z0_ := X5; Zbk) hb); have n5_ := Aside0.mk (Ob_below (have z0_ := X6; Zbk) hb); have nb_ := Aside0.mk (below_step Zc hb); have nk0_ := Aside0.mk (blk_below (g := g_0) (o := .cells #[.slice A0_0 l0_0.length c0_0, .slice A0_1 l0_1.length c0_1, .slice A0_2 l0_2.length c0_2] 26 (0, 0)) (have z0_ := BK0; Ze) hb); have nk91_ := Aside0.mk (blk_below (g := g_91) (o := .cells #[.slice a_4 M0_0.length b_4, .slice a_5 M0_1.length b_5, .slice a_6 M0_2.length b_6] 32 (0, 0)) (have z0_ := BK91; Ze) hb); clear X1; clear X2; clear X3; clear X4; clear X5; clear X6; clear HB; have X1 := n0_; clear n0_; have X2 := n1_; clear n1_; have X3 := n2_; clear n2_; have X4 := n3_; clear n3_; have X5 := n4_; clear n4_; have X6 := n5_; clear n5_; have HB := nb_; clear nb_ hb; clear BK0; have BK0 := nk0_; clear nk0_; clear BK91; have BK91 := nk91_; clear nk91_; obtain ⟨hcz10_0, hcz10_1, hcz10_2, hfz10_0, hfz10_1, hfz10_2⟩ := cz3 BK0; obtain ⟨hcz11_0, hcz11_1, hcz11_2, hfz11_0, hfz11_1, hfz11_2⟩ := cz3 BK91))
 refine start_w (n := 5) (S := fun w' => w'.cell? ⟨g_91, 0, none⟩ = some (.slice a_4 M0_0.length b_4) ∧ w'.cell? ⟨g_91, 1, none⟩ = some (.slice a_5 M0_1.length b_5) ∧ w'.cell? ⟨g_91, 2, none⟩ = some (.slice a_6 M0_2.length b_6) ∧ w'.cell? ⟨g_0, 0, none⟩ = some (.slice A0_0 l0_0.length c0_0) ∧ w'.cell? ⟨g_0, 1, none⟩ = some (.slice A0_1 l0_1.length c0_1) ∧ w'.cell? ⟨g_0, 2, none⟩ = some (.slice A0_2 l0_2.length c0_2)) (ds := []) (bT 5 0) Zj rfl rfl (fun w1 hb => ?_)
 have n0_ := Aside0.mk (Ob_below (have z0_ := X1; Zbk) hb); have n1_ := Aside0.mk (Ob_below (have z0_ := X2; Zbk) hb); have n2_ := Aside0.mk (Ob_below (have z0_ := X3; Zbk) hb); have n3_ := Aside0.mk (Ob_below (have z0_ := X4; Zbk) hb); have n4_ := Aside0.mk (Ob_below (have z0_ := X5; Zbk) hb); have n5_ := Aside0.mk (Ob_below (have z0_ := X6; Zbk) hb); have nb_ := Aside0.mk (below_step Zc hb); have nk0_ := Aside0.mk (blk_below (g := g_0) (o := .cells #[.slice A0_0 l0_0.length c0_0, .slice A0_1 l0_1.length c0_1, .slice A0_2 l0_2.length c0_2] 26 (0, 0)) (have z0_ := BK0; Ze) hb); have nk91_ := Aside0.mk (blk_below (g := g_91) (o := .cells #[.slice a_4 M0_0.length b_4, .slice a_5 M0_1.length b_5, .slice a_6 M0_2.length b_6] 32 (0, 0)) (have z0_ := BK91; Ze) hb); clear X1; clear X2; clear X3; clear X4; clear X5; clear X6; clear HB; have X1 := n0_; clear n0_; have X2 := n1_; clear n1_; have X3 := n2_; clear n2_; have X4 := n3_; clear n3_; have X5 := n4_; clear n4_; have X6 := n5_; clear n5_; have HB := nb_; clear nb_ hb; clear BK0; have BK0 := nk0_; clear nk0_; clear BK91; have BK91 := nk91_; clear nk91_; obtain ⟨hcz12_0, hcz12_1, hcz12_2, hfz12_0, hfz12_1, hfz12_2⟩ := cz3 BK0; obtain ⟨hcz13_0, hcz13_1, hcz13_2, hfz13_0, hfz13_1, hfz13_2⟩ := cz3 BK91
 refine ⟨⟨(blk_cell BK91.out 0).trans rfl, (blk_cell BK91.out 1).trans rfl, (blk_cell BK91.out 2).trans rfl, (blk_cell BK0.out 0).trans rfl, (blk_cell BK0.out 1).trans rfl, (blk_cell BK0.out 2).trans rfl⟩, fun hHeld => ?_⟩
 refine with_tabW law_FnExactMayMeet.tab law_FnExactMayMeet.bits (fun HT_ HW_ => ?_)
 refine take_ (i := 0) (N := some 45) (v := ?_) (a' := ?_) (bT 5 1) rfl rfl (take_ofW HT_.out HW_.out Zj) (fun _ _ _ h => h) (Or.inl ⟨by rfl, ?_⟩) hHeld ?_ ?_
 rotate_left
 ·rintro w' ⟨s0, s1, s2, s3, s4, s5⟩
  go_simp
  with_reducible rfl
 rotate_left
 ·exact Zput
 refine take_ (i := 1) (N := some 46) (v := ?_) (a' := ?_) (bT 5 2) rfl rfl (take_ofW HT_.out HW_.out Zj) (fun _ _ _ h => h) (Or.inl ⟨by rfl, ?_⟩) hHeld ?_ ?_
 rotate_left
 ·rintro w' ⟨s0, s1, s2, s3, s4, s5⟩
  go_simp
  with_reducible rfl
 rotate_left
 ·exact Zput
 refine one_ (i := 2) (N := some 47) (bT 5 3) rfl rfl (one_of HT_.out Zj) (by decide) (fun K hK => ?_)
 refine goes_ Try.func21 Zj rfl #[.agg #[.slice A0_0 l0_0.length c0_0, .slice A0_1 l0_1.length c0_1, .slice A0_2 l0_2.length c0_2], .bool false] (by rfl) rfl rfl Zo ?_
 (with_reducible refine (full_toShow.calls k _ _ l0_0 _ _ l0_1 _ _ l0_2 false L0_0 L0_1 L0_2 _ (Kd.C_below HR0_0.out Zc) HC0_0.out (Kd.C_below HR0_1.out Zc) HC0_1.out (Kd.C_below HR0_2.out Zc) HC0_2.out HF.out.fu0 HF.out.ne0_0 HF.out.ne0_1 HF.out.ne0_2).mono ?_)
 rintro e w1 ⟨a_7, b_7, a_8, b_8, a_9, b_9, he_, ho0, ho1, ho2, hb⟩; rw [← HF.out.ln0_0, ← HF.out.ln0_1, ← HF.out.ln0_2] at he_; subst he_; refine ⟨_, rfl, ?_⟩; obtain ⟨lo7, hi7, hx0_, hx1_, hx2_, ha_, hz_, _⟩ := Ob_mk3 (base := w.heap.size) ho0 ho1 ho2 hb (below_le Zc) (Nat.succ_le_of_lt (blk_lt (have z0_ := BK91; Ze))); have X7 := Aside0.mk hx0_; have X8 := Aside0.mk hx1_; have X9 := Aside0.mk hx2_; have OX7 := Aside0.mk (And.intro ha_ hz_); clear hx0_ hx1_ hx2_ ha_ hz_ ho0 ho1 ho2; have n0_ := Aside0.mk (Ob_below (have z0_ := X1; Zbk) hb); have n1_ := Aside0.mk (Ob_below (have z0_ := X2; Zbk) hb); have n2_ := Aside0.mk (Ob_below (have z0_ := X3; Zbk) hb); have n3_ := Aside0.mk (Ob_below (have z0_ := X4; Zbk) hb); have n4_ := Aside0.mk (Ob_below (have z0_ := X5; Zbk) hb); have n5_ := Aside0.mk (Ob_below (have z0_ := X6; Zbk) hb); have nb_ := Aside0.mk (below_step Zc hb); have nk0_ := Aside0.mk (blk_below (g := g_0) (o := .cells #[.slice A0_0 l0_0.length c0_0, .slice A0_1 l0_1.length c0_1, .slice A0_2 l0_2.length c0_2] 26 (0, 0)) (have z0_ := BK0; Ze) hb); have nk91_ := Aside0.mk (blk_below (g := g_91) (o := .cells #[.slice a_4 M0_0.length b_4, .slice a_5 M0_1.length b_5, .slice a_6 M0_2.length b_6] 32 (0, 0)) (have z0_ := BK91; Ze) hb); clear X1; clear X2; clear X3; clear X4; clear X5; clear X6; clear HB; have X1 := n0_; clear n0_; have X2 := n1_; clear n1_; have X3 := n2_; clear n2_; have X4 := n3_; clear n3_; have X5 := n4_; clear n4_; have X6 := n5_; clear n5_; have HB := nb_; clear nb_ hb; clear BK0; have BK0 := nk0_; clear nk0_; clear BK91; have BK91 := nk91_; clear nk91_; obtain ⟨hcz14_0, hcz14_1, hcz14_2, hfz14_0, hfz14_1, hfz14_2⟩ := cz3 BK0; obtain ⟨hcz15_0, hcz15_1, hcz15_2, hfz15_0, hfz15_1, hfz15_2⟩ := cz3 BK91
 clear hHeld
 refine hK.out _ _ ⟨(blk_cell BK91.out 0).trans rfl, (blk_cell BK91.out 1).trans rfl, (blk_cell BK91.out 2).trans rfl, (blk_cell BK0.out 0).trans rfl, (blk_cell BK0.out 1).trans rfl, (blk_cell BK0.out 2).trans rfl⟩ (fun hHeld => ?_)
 clear hK K
 refine norm_ (a' := ?_) ?_ ?_
 rotate_left
 ·show Act.put _ (some 47) _ = _
  simp only [Act.put, List.setIfInBounds_toArray, List.set_cons_zero, List.set_cons_succ, i64_w, i32_w]
  rfl
 refine one_ (i := 3) (N := some 48) (bT 5 4) rfl rfl (one_of HT_.out Zj) (by decide) (fun K hK => ?_)
 refine goes_ Try.func24 Zj rfl #[.agg #[.slice a_4 M0_0.length b_4, .slice a_5 M0_1.length b_5, .slice a_6 M0_2.length b_6], .agg #[.slice a_7 M0_0.length b_7, .slice a_8 M0_1.length b_8, .slice a_9 M0_2.length b_9]] (by rfl) rfl rfl Zo ?_
 (with_reducible refine (same_intactShow k M0_0.length M0_1.length M0_2.length _ _ _ _ _ _ _ _ _ _ _ _ L0_0 L0_1 L0_2 t0_0 t0_1 t0_2 _ (fullC (have z0_ := X4; Zbk) HF.out.tk0_0).2.2.2 (fullC X4.out HF.out.tk0_0).2.2.1 (fullC (have z0_ := X7; Zbk) HF.out.tk0_0).2.2.2 (fullC X7.out HF.out.tk0_0).2.2.1 HF.out.rm0_0 HF.out.jn0_0 HF.out.eq0_0 (fullC (have z0_ := X5; Zbk) HF.out.tk0_1).2.2.2 (fullC X5.out HF.out.tk0_1).2.2.1 (fullC (have z0_ := X8; Zbk) HF.out.tk0_1).2.2.2 (fullC X8.out HF.out.tk0_1).2.2.1 HF.out.rm0_1 HF.out.jn0_1 HF.out.eq0_1 (fullC (have z0_ := X6; Zbk) HF.out.tk0_2).2.2.2 (fullC X6.out HF.out.tk0_2).2.2.1 (fullC (have z0_ := X9; Zbk) HF.out.tk0_2).2.2.2 (fullC X9.out HF.out.tk0_2).2.2.1 HF.out.rm0_2 HF.out.jn0_2 HF.out.eq0_2).mono ?_)
 rintro e w1 ⟨rfl, hb⟩; refine ⟨_, rfl, ?_⟩; have n0_ := Aside0.mk (Ob_below (have z0_ := X1; Zbk) hb); have n1_ := Aside0.mk (Ob_below (have z0_ := X2; Zbk) hb); have n2_ := Aside0.mk (Ob_below (have z0_ := X3; Zbk) hb); have n3_ := Aside0.mk (Ob_below (have z0_ := X4; Zbk) hb); have n4_ := Aside0.mk (Ob_below (have z0_ := X5; Zbk) hb); have n5_ := Aside0.mk (Ob_below (have z0_ := X6; Zbk) hb); have n6_ := Aside0.mk (Ob_below (have z0_ := X7; Zbk) hb); have n7_ := Aside0.mk (Ob_below (have z0_ := X8; Zbk) hb); have n8_ := Aside0.mk (Ob_below (have z0_ := X9; Zbk) hb); have nb_ := Aside0.mk (below_step Zc hb); have nk0_ := Aside0.mk (blk_below (g := g_0) (o := .cells #[.slice A0_0 l0_0.length c0_0, .slice A0_1 l0_1.length c0_1, .slice A0_2 l0_2.length c0_2] 26 (0, 0)) (have z0_ := BK0; Ze) hb); have nk91_ := Aside0.mk (blk_below (g := g_91) (o := .cells #[.slice a_4 M0_0.length b_4, .slice a_5 M0_1.length b_5, .slice a_6 M0_2.length b_6] 32 (0, 0)) (have z0_ := BK91; Ze) hb); clear X1; clear X2; clear X3; clear X4; clear X5; clear X6; clear X7; clear X8; clear X9; clear HB; have X1 := n0_; clear n0_; have X2 := n1_; clear n1_; have X3 := n2_; clear n2_; have X4 := n3_; clear n3_; have X5 := n4_; clear n4_; have X6 := n5_; clear n5_; have X7 := n6_; clear n6_; have X8 := n7_; clear n7_; have X9 := n8_; clear n8_; have HB := nb_; clear nb_ hb; clear BK0; have BK0 := nk0_; clear nk0_; clear BK91; have BK91 := nk91_; clear nk91_; obtain ⟨hcz16_0, hcz16_1, hcz16_2, hfz16_0, hfz16_1, hfz16_2⟩ := cz3 BK0; obtain ⟨hcz17_0, hcz17_1, hcz17_2, hfz17_0, hfz17_1, hfz17_2⟩ := cz3 BK91
 clear hHeld
 refine hK.out _ _ ⟨(blk_cell BK91.out 0).trans rfl, (blk_cell BK91.out 1).trans rfl, (blk_cell BK91.out 2).trans rfl, (blk_cell BK0.out 0).trans rfl, (blk_cell BK0.out 1).trans rfl, (blk_cell BK0.out 2).trans rfl⟩ (fun hHeld => ?_)
 clear hK K
 refine norm_ (a' := ?_) ?_ ?_
 rotate_left
 ·show Act.put _ (some 48) _ = _
  simp only [Act.put, List.setIfInBounds_toArray, List.set_cons_zero, List.set_cons_succ, i64_w, i32_w]
  rfl
 refine pureZ HT_ 4 (some 49) (bT 5 5) ?_
 refine done_ (done_of HT_.out Zj) ?_
 clear hHeld HT_ HW_
 go_wp2_with (first | ((with_reducible refine gate_callee (f := 21) rfl ?_); (try (refine gate_guard (by rfl) ?_; dsimp only)); refine goesL_ (some 52) rfl rfl Try.func21 Zj rfl #[.agg #[.slice A0_0 l0_0.length c0_0, .slice A0_1 l0_1.length c0_1, .slice A0_2 l0_2.length c0_2], .bool true] rfl Zo ?_; (with_reducible refine (laws_toShow.calls k _ _ l0_0 _ _ l0_1 _ _ l0_2 true M0_0 M0_1 M0_2 _ (Kd.C_below HR0_0.out Zc) HC0_0.out (Kd.C_below HR0_1.out Zc) HC0_1.out (Kd.C_below HR0_2.out Zc) HC0_2.out HF.out.to0).mono ?_); rintro e w1 ⟨v0_, v1_, v2_, rfl, ho0, ho1, ho2, hb⟩; refine ⟨_, rfl, ?_⟩; obtain ⟨lo10, hi10, hx0_, hx1_, hx2_, ha_, hz_, _⟩ := Ob_mk3 (base := w.heap.size) ho0 ho1 ho2 hb (below_le Zc) (Ob_hi (have z0_ := X7; Zbk)); have X10 := Aside0.mk hx0_; have X11 := Aside0.mk hx1_; have X12 := Aside0.mk hx2_; have OX10 := Aside0.mk (And.intro ha_ hz_); clear hx0_ hx1_ hx2_ ha_ hz_ ho0 ho1 ho2; have n0_ := Aside0.mk (Ob_below (have z0_ := X1; Zbk) hb); have n1_ := Aside0.mk (Ob_below (have z0_ := X2; Zbk) hb); have n2_ := Aside0.mk (Ob_below (have z0_ := X3; Zbk) hb); have n3_ := Aside0.mk (Ob_below (have z0_ := X4; Zbk) hb); have n4_ := Aside0.mk (Ob_below (have z0_ := X5; Zbk) hb); have n5_ := Aside0.mk (Ob_below (have z0_ := X6; Zbk) hb); have n6_ := Aside0.mk (Ob_below (have z0_ := X7; Zbk) hb); have n7_ := Aside0.mk (Ob_below (have z0_ := X8; Zbk) hb); have n8_ := Aside0.mk (Ob_below (have z0_ := X9; Zbk) hb); have nb_ := Aside0.mk (below_step Zc hb); have nk0_ := Aside0.mk (blk_below (g := g_0) (o := .cells #[.slice A0_0 l0_0.length c0_0, .slice A0_1 l0_1.length c0_1, .slice A0_2 l0_2.length c0_2] 26 (0, 0)) (have z0_ := BK0; Ze) hb); have nk91_ := Aside0.mk (blk_below (g := g_91) (o := .cells #[.slice a_4 M0_0.length b_4, .slice a_5 M0_1.length b_5, .slice a_6 M0_2.length b_6] 32 (0, 0)) (have z0_ := BK91; Ze) hb); clear X1; clear X2; clear X3; clear X4; clear X5; clear X6; clear X7; clear X8; clear X9; clear HB; have X1 := n0_; clear n0_; have X2 := n1_; clear n1_; have X3 := n2_; clear n2_; have X4 := n3_; clear n3_; have X5 := n4_; clear n4_; have X6 := n5_; clear n5_; have X7 := n6_; clear n6_; have X8 := n7_; clear n7_; have X9 := n8_; clear n8_; have HB := nb_; clear nb_ hb; clear BK0; have BK0 := nk0_; clear nk0_; clear BK91; have BK91 := nk91_; clear nk91_; obtain ⟨hcz18_0, hcz18_1, hcz18_2, hfz18_0, hfz18_1, hfz18_2⟩ := cz3 BK0; obtain ⟨hcz19_0, hcz19_1, hcz19_2, hfz19_0, hfz19_1, hfz19_2⟩ := cz3 BK91; obtain ⟨a_10, b_10, e_⟩ := Ob_slice X10.out; subst e_; obtain ⟨a_11, b_11, e_⟩ := Ob_slice X11.out; subst e_; obtain ⟨a_12, b_12, e_⟩ := Ob_slice X12.out; subst e_) | ((with_reducible refine gate_callee (f := 43) rfl ?_); (try (refine gate_guard (by rfl) ?_; dsimp only)); refine goesL_ (some 55) rfl rfl Try.func43 Zj rfl #[.agg #[.slice a_10 M0_0.length b_10, .slice a_11 M0_1.length b_11, .slice a_12 M0_2.length b_12], .int .i64 a1, .int .i64 a2] rfl Zo ?_; (with_reducible refine (impl_MayMeet.calls k _ _ M0_0 _ _ M0_1 _ _ M0_2 a1 a2 q1 q2 _ (Ob_C (have z0_ := X10; Zbk)).2.2 (Ob_C X10.out).2.1 (Ob_C (have z0_ := X11; Zbk)).2.2 (Ob_C X11.out).2.1 (Ob_C (have z0_ := X12; Zbk)).2.2 (Ob_C X12.out).2.1 HF.out.im).mono ?_); rintro e w1 ⟨rfl, hb⟩; refine ⟨_, rfl, ?_⟩; have n0_ := Aside0.mk (Ob_below (have z0_ := X1; Zbk) hb); have n1_ := Aside0.mk (Ob_below (have z0_ := X2; Zbk) hb); have n2_ := Aside0.mk (Ob_below (have z0_ := X3; Zbk) hb); have n3_ := Aside0.mk (Ob_below (have z0_ := X4; Zbk) hb); have n4_ := Aside0.mk (Ob_below (have z0_ := X5; Zbk) hb); have n5_ := Aside0.mk (Ob_below (have z0_ := X6; Zbk) hb); have n6_ := Aside0.mk (Ob_below (have z0_ := X7; Zbk) hb); have n7_ := Aside0.mk (Ob_below (have z0_ := X8; Zbk) hb); have n8_ := Aside0.mk (Ob_below (have z0_ := X9; Zbk) hb); have n9_ := Aside0.mk (Ob_below (have z0_ := X10; Zbk) hb); have n10_ := Aside0.mk (Ob_below (have z0_ := X11; Zbk) hb); have n11_ := Aside0.mk (Ob_below (have z0_ := X12; Zbk) hb); have nb_ := Aside0.mk (below_step Zc hb); have nk0_ := Aside0.mk (blk_below (g := g_0) (o := .cells #[.slice A0_0 l0_0.length c0_0, .slice A0_1 l0_1.length c0_1, .slice A0_2 l0_2.length c0_2] 26 (0, 0)) (have z0_ := BK0; Ze) hb); have nk91_ := Aside0.mk (blk_below (g := g_91) (o := .cells #[.slice a_4 M0_0.length b_4, .slice a_5 M0_1.length b_5, .slice a_6 M0_2.length b_6] 32 (0, 0)) (have z0_ := BK91; Ze) hb); clear X1; clear X2; clear X3; clear X4; clear X5; clear X6; clear X7; clear X8; clear X9; clear X10; clear X11; clear X12; clear HB; have X1 := n0_; clear n0_; have X2 := n1_; clear n1_; have X3 := n2_; clear n2_; have X4 := n3_; clear n3_; have X5 := n4_; clear n4_; have X6 := n5_; clear n5_; have X7 := n6_; clear n6_; have X8 := n7_; clear n7_; have X9 := n8_; clear n8_; have X10 := n9_; clear n9_; have X11 := n10_; clear n10_; have X12 := n11_; clear n11_; have HB := nb_; clear nb_ hb; clear BK0; have BK0 := nk0_; clear nk0_; clear BK91; have BK91 := nk91_; clear nk91_; obtain ⟨hcz20_0, hcz20_1, hcz20_2, hfz20_0, hfz20_1, hfz20_2⟩ := cz3 BK0; obtain ⟨hcz21_0, hcz21_1, hcz21_2, hfz21_0, hfz21_1, hfz21_2⟩ := cz3 BK91))
 go_ret
 exact ⟨rfl, Zc⟩
end Go.Proofs.Ytnlbaflbhicooaa.F
namespace Go.Proofs.Ytnlbaflbhicooaa.F
open Go.RowKit Go.Proofs.YtnlbaflbhicooaaW.PrintWords Go.Proofs.YtnlbaflbhicooaaW.PrintLast Go.Proofs.YtnlbaflbhicooaaW.PrintMore
set_option linter.unusedVariables false
set_option linter.unusedSimpArgs false
def Evt (P : Nat → Prop) : Prop := ∃ K, ∀ k, K ≤ k → P k
theorem Evt.and {P Q : Nat → Prop} (h : Evt P) (h' : Evt Q) : Evt (fun k => P k ∧ Q k) := by
 obtain ⟨K, h⟩ := h
 obtain ⟨K', h'⟩ := h'
 exact ⟨K + K', fun k hk => ⟨h k (by omega), h' k (by omega)⟩⟩
theorem Evt.mono {P Q : Nat → Prop} (h : Evt P) (hq : ∀ k, P k → Q k) : Evt Q := by
 obtain ⟨K, h⟩ := h
 exact ⟨K, fun k hk => hq k (h k hk)⟩
theorem Evt.of {P : Nat → Prop} (h : ∀ k, P k) : Evt P := ⟨0, fun k _ => h k⟩
theorem Evt.ex {P : Nat → Prop} (h : Evt P) : ∃ k, P k := by
 obtain ⟨K, h⟩ := h
 exact ⟨K, h K (Nat.le_refl _)⟩
theorem Evt.succ {P : Nat → Prop} (h : Evt (fun k => P (k + 1))) : Evt P := by
 obtain ⟨K, h⟩ := h
 refine ⟨K + 1, fun k hk => ?_⟩
 obtain ⟨m, rfl⟩ : ∃ m, k = m + 1 := ⟨k - 1, by omega⟩
 exact h m (by omega)
theorem w64 {n : Int} (h : -9223372036854775808 ≤ n ∧ n ≤ 9223372036854775807) : wrap64 n = n := by unfold wrap64; omega
theorem room_some (n : Nat) : ∃ t : Int, laws_roomBehind.f (n : Int) = some t ∧ 0 ≤ t ∧ t ≤ n + 1 ∧ (n = 0 → 1 ≤ t) := by
 unfold laws_roomBehind.f
 have h6 : Int.tmod (n : Int) 6 = (n : Int) % 6 := Int.tmod_eq_emod_of_nonneg (by omega)
 have h3 : Int.tmod (n : Int) 3 = (n : Int) % 3 := Int.tmod_eq_emod_of_nonneg (by omega)
 rw [h6, h3]
 by_cases a : (n : Int) % 6 = 5
 ·rw [if_pos a]
  exact ⟨0, rfl, by omega, by omega, by omega⟩
 ·rw [if_neg a]
  by_cases b : (n : Int) % 3 = 0
  ·rw [if_pos b]
   exact ⟨1, rfl, by omega, by omega, by omega⟩
  ·rw [if_neg b]
   exact ⟨n, rfl, by omega, by omega, by omega⟩
theorem getD_at {α : Type} (xs : List α) (z : α) (i : Nat) (h : i < xs.length) : xs.getD ((i : Int)).toNat z = xs[i] := by
 rw [Int.toNat_natCast, List.getD_eq_getElem?_getD, List.getElem?_eq_getElem h]; rfl
theorem take_set_ge {α : Type} (xs : List α) (n i : Nat) (v : α) (h : n ≤ i) : (xs.set i v).take n = xs.take n := by
 apply List.ext_getElem?
 intro j
 simp only [List.getElem?_take, List.getElem?_set]
 by_cases hj : j < n
 ·rw [if_pos hj, if_pos hj, if_neg (by omega)]
 ·rw [if_neg hj, if_neg hj]
theorem take_set_snoc {α : Type} (xs : List α) (i : Nat) (v : α) (h : i < xs.length) : (xs.set i v).take (i + 1) = xs.take i ++ [v] := by
 rw [List.take_succ_eq_append_getElem (by simpa using h), take_set_ge _ _ _ _ (Nat.le_refl _), List.getElem_set_self]
def allF (p : Nat → Bool) : Nat → Nat → Bool
 | _, 0 => true
 | i, d + 1 => p i && allF p (i + 1) d
theorem allF_true {p : Nat → Bool} : ∀ (d i : Nat), allF p i d = true ↔ ∀ j, i ≤ j → j < i + d → p j = true
 | 0, i => by simp [allF]; intro j h1 h2; omega
 | d + 1, i => by
  unfold allF
  rw [Bool.and_eq_true, allF_true d (i + 1)]
  constructor
  ·rintro ⟨h1, h2⟩ j h3 h4
   rcases Nat.eq_or_lt_of_le h3 with e | e
   ·exact e ▸ h1
   ·exact h2 j e (by omega)
  ·exact fun h => ⟨h i (Nat.le_refl _) (by omega), fun j h1 h2 => h j (by omega) (by omega)⟩
theorem all_loopF {f : Nat → Nat → Option Bool} {p : Nat → Bool} {e : Bool} (a n : Nat) (hs : ∀ k i, a ≤ i → i < n → f (k + 1) i = if p i = true then f k (i + 1) else some false) (he : ∀ k, f (k + 1) n = some e) :
  ∀ d k i, a ≤ i → n - i = d → i ≤ n → d < k → f k i = some (allF p i d && e) := by
 intro d
 induction d with
 | zero =>
  intro k i ha hd hi hk
  obtain ⟨k, rfl⟩ : ∃ m, k = m + 1 := ⟨k - 1, by omega⟩
  have : i = n := by omega
  subst this
  rw [he]
  rfl
 | succ d ih =>
  intro k i ha hd hi hk
  obtain ⟨k, rfl⟩ : ∃ m, k = m + 1 := ⟨k - 1, by omega⟩
  rw [hs k i ha (by omega)]
  unfold allF
  by_cases hp : p i = true
  ·rw [if_pos hp, ih k (i + 1) (by omega) (by omega) (by omega) (by omega), hp, Bool.true_and]
  ·rw [if_neg hp]
   replace hp := Bool.eq_false_iff.mpr hp
   rw [hp, Bool.false_and, Bool.false_and]
theorem all_loop {f : Nat → Nat → Option Bool} {p : Nat → Bool} {e : Bool} (n : Nat) (hs : ∀ k i, i < n → f (k + 1) i = if p i = true then f k (i + 1) else some false) (he : ∀ k, f (k + 1) n = some e) :
  ∀ d k i, n - i = d → i ≤ n → d < k → f k i = some (allF p i d && e) := fun d k i => all_loopF 0 n (fun k i _ h => hs k i h) he d k i (Nat.zero_le _)
def foldF {σ : Type} (step : Nat → σ → σ) : Nat → Nat → σ → σ
 | _, 0, s => s
 | i, d + 1, s => foldF step (i + 1) d (step i s)
theorem foldF_snoc {σ : Type} (f : Nat → σ → σ) : ∀ (d i : Nat) (s : σ), foldF f i (d + 1) s = f (i + d) (foldF f i d s)
 | 0, i, s => rfl
 | d + 1, i, s => by
  have h := foldF_snoc f d (i + 1) (f i s)
  rw [show i + 1 + d = i + (d + 1) by omega] at h
  exact h
theorem fold_loop {σ β : Type} {f : Nat → Nat → σ → Option β} {step : Nat → σ → σ} {I : Nat → σ → Prop} {e : σ → Option β} (n : Nat) (hs : ∀ k i s, i < n → I i s → f (k + 1) i s = f k (i + 1) (step i s)) (hI : ∀ i s, i < n → I i s → I (i + 1) (step i s)) (he : ∀ k s, I n s → f (k + 1) n s = e s) :
  ∀ d k i s, n - i = d → i ≤ n → I i s → d < k → f k i s = e (foldF step i d s) := by
 intro d
 induction d with
 | zero =>
  intro k i s hd hi h0 hk
  obtain ⟨k, rfl⟩ : ∃ m, k = m + 1 := ⟨k - 1, by omega⟩
  have : i = n := by omega
  subst this
  exact he k s h0
 | succ d ih =>
  intro k i s hd hi h0 hk
  obtain ⟨k, rfl⟩ : ∃ m, k = m + 1 := ⟨k - 1, by omega⟩
  rw [hs k i s (by omega) h0]
  exact ih k (i + 1) _ (by omega) (by omega) (hI i s (by omega) h0) (by omega)
def inB (n lo hi : Int) : Bool := decide (lo ≤ n ∧ n ≤ hi)
theorem inB_true {n lo hi : Int} : inB n lo hi = true ↔ lo ≤ n ∧ n ≤ hi := by unfold inB; exact decide_eq_true_iff
theorem inB_false {n lo hi : Int} : inB n lo hi = false ↔ ¬ (lo ≤ n ∧ n ≤ hi) := by unfold inB; exact decide_eq_false_iff_not
theorem getD_take {α : Type} (xs : List α) (z : α) (n i : Nat) (h : i < n) : (xs.take n).getD i z = xs.getD i z := by
 rw [List.getD_eq_getElem?_getD, List.getD_eq_getElem?_getD, List.getElem?_take, if_pos h]
end Go.Proofs.Ytnlbaflbhicooaa.F
namespace Go.Proofs.Ytnlbaflbhicooaa.F
open Go.RowKit Go.Proofs.YtnlbaflbhicooaaW.PrintWords Go.Proofs.YtnlbaflbhicooaaW.PrintLast Go.Proofs.YtnlbaflbhicooaaW.PrintMore
set_option linter.unusedVariables false
set_option linter.unusedSimpArgs false
def conv_BarS (x : S110) : S108 := ⟨x.f0, x.f1⟩
theorem full_BarS_l1 (d : Nat) : ∀ (k : Nat) (x0 : List S110) (x5 : List S108) (i : Nat), x5.length - i = d → x0.length ≤ i → i ≤ x5.length → x5.length ≤ 4000000 → d < k →
  full_toBarS.l1 k x0 x5 (i : Int) = some (x5.take i ++ List.replicate d (⟨(-7000000000000000101), (-7000000000000000101)⟩ : S108)) := by
 induction d with
 | zero =>
  intro k x0 x5 i hd h1 h2 h3 hk
  obtain ⟨k, rfl⟩ : ∃ m, k = m + 1 := ⟨k - 1, by omega⟩
  simp only [full_toBarS.l1]
  rw [if_neg (by omega), if_pos (by omega), if_pos (by omega), List.take_of_length_le (by omega)]
  simp
 | succ d ih =>
  intro k x0 x5 i hd h1 h2 h3 hk
  obtain ⟨k, rfl⟩ : ∃ m, k = m + 1 := ⟨k - 1, by omega⟩
  have hr := ih k x0 (x5.set i (⟨(-7000000000000000101), (-7000000000000000101)⟩ : S108)) (i + 1) Zbm (by omega) Zbm Zbm (by omega)
  rw [take_set_snoc _ _ _ (by omega), List.append_assoc, List.singleton_append, ← List.replicate_succ] at hr
  rw [← hr]
  simp only [full_toBarS.l1, laws_fillerBar.f, Option.bind_some]
  rw [if_pos (by omega)]
  rw [if_pos (by omega), w64 (by omega)]
  rfl
theorem full_BarS_l0 (d : Nat) : ∀ (k : Nat) (x0 : List S110) (x5 : List S108) (i : Nat), x0.length - i = d → i ≤ x0.length → x0.length ≤ x5.length → x5.length ≤ 4000000 → x5.take i = (x0.take i).map conv_BarS → d + x5.length + 1 < k →
  full_toBarS.l0 k x0 x5 (i : Int) = some (x0.map conv_BarS ++ List.replicate (x5.length - x0.length) (⟨(-7000000000000000101), (-7000000000000000101)⟩ : S108)) := by
 induction d with
 | zero =>
  intro k x0 x5 i hd h1 h2 h3 h4 hk
  obtain ⟨k, rfl⟩ : ∃ m, k = m + 1 := ⟨k - 1, by omega⟩
  simp only [full_toBarS.l0]
  rw [if_neg (by omega), full_BarS_l1 (x5.length - x0.length) k x0 x5 x0.length rfl (Nat.le_refl _) h2 h3 (by omega)]
  have e : i = x0.length := by omega
  subst e
  rw [h4, List.take_length]
 | succ d ih =>
  intro k x0 x5 i hd h1 h2 h3 h4 hk
  obtain ⟨k, rfl⟩ : ∃ m, k = m + 1 := ⟨k - 1, by omega⟩
  have hi : i < x0.length := by omega
  have h5 : (x5.set i (conv_BarS x0[i])).take (i + 1) = (x0.take (i + 1)).map conv_BarS := by
   rw [take_set_snoc _ _ _ (by omega), h4, List.take_succ_eq_append_getElem hi, List.map_append]; rfl
  have hr := ih k x0 (x5.set i (conv_BarS x0[i])) (i + 1) (by omega) (by omega) Zbm Zbm h5 Zbm
  rw [List.length_set] at hr
  rw [← hr]
  simp only [full_toBarS.l0, laws_toBar.f, Option.bind_some]
  rw [if_pos (by omega), if_pos (by omega)]
  rw [if_pos (by omega), w64 (by omega), rd_T110, getD_at _ _ _ hi]
  rfl
theorem to_BarS_l1 (d : Nat) : ∀ (k : Nat) (x0 : List S110) (x5 : List S108) (i : Nat), x5.length - i = d → x0.length ≤ i → i ≤ x5.length → x5.length ≤ 4000000 → d < k →
  laws_toBarS.l1 k x0 x5 (i : Int) = some (x5.take x0.length) := by
 induction d with
 | zero =>
  intro k x0 x5 i hd h1 h2 h3 hk
  obtain ⟨k, rfl⟩ : ∃ m, k = m + 1 := ⟨k - 1, by omega⟩
  simp only [laws_toBarS.l1]; rw [if_neg (by omega), if_pos (by omega), if_pos (by omega), Int.toNat_natCast]
 | succ d ih =>
  intro k x0 x5 i hd h1 h2 h3 hk
  obtain ⟨k, rfl⟩ : ∃ m, k = m + 1 := ⟨k - 1, by omega⟩
  have hr := ih k x0 (x5.set i (⟨(-7000000000000000101), (-7000000000000000101)⟩ : S108)) (i + 1) Zbm (by omega) Zbm Zbm (by omega)
  rw [take_set_ge _ _ _ _ h1] at hr
  rw [← hr]
  simp only [laws_toBarS.l1, laws_fillerBar.f, Option.bind_some]
  rw [if_pos (by omega)]
  rw [if_pos (by omega), w64 (by omega)]
  rfl
theorem to_BarS_l0 (d : Nat) : ∀ (k : Nat) (x0 : List S110) (x5 : List S108) (i : Nat), x0.length - i = d → i ≤ x0.length → x0.length ≤ x5.length → x5.length ≤ 4000000 → x5.take i = (x0.take i).map conv_BarS → d + x5.length + 1 < k →
  laws_toBarS.l0 k x0 x5 (i : Int) = some (x0.map conv_BarS) := by
 induction d with
 | zero =>
  intro k x0 x5 i hd h1 h2 h3 h4 hk
  obtain ⟨k, rfl⟩ : ∃ m, k = m + 1 := ⟨k - 1, by omega⟩
  simp only [laws_toBarS.l0]
  rw [if_neg (by omega), to_BarS_l1 (x5.length - x0.length) k x0 x5 x0.length rfl (Nat.le_refl _) h2 h3 (by omega)]
  have e : i = x0.length := by omega
  subst e
  rw [h4, List.take_length]
 | succ d ih =>
  intro k x0 x5 i hd h1 h2 h3 h4 hk
  obtain ⟨k, rfl⟩ : ∃ m, k = m + 1 := ⟨k - 1, by omega⟩
  have hi : i < x0.length := by omega
  have h5 : (x5.set i (conv_BarS x0[i])).take (i + 1) = (x0.take (i + 1)).map conv_BarS := by
   rw [take_set_snoc _ _ _ (by omega), h4, List.take_succ_eq_append_getElem hi, List.map_append]; rfl
  have hr := ih k x0 (x5.set i (conv_BarS x0[i])) (i + 1) (by omega) (by omega) Zbm Zbm h5 Zbm
  rw [← hr]
  simp only [laws_toBarS.l0, laws_toBar.f, Option.bind_some]
  rw [if_pos (by omega), if_pos (by omega)]
  rw [if_pos (by omega), w64 (by omega), rd_T110, getD_at _ _ _ hi]
  rfl
theorem to_BarS (l : List S110) (hl : l.length ≤ 1000000) : ∃ (L : List S108) (t : Int), L ≠ [] ∧ (l.map conv_BarS = L.take l.length ∧ l.length ≤ L.length) ∧ (l.map conv_BarS).length = l.length ∧ L.length ≤ 2000001 ∧
  laws_roomBehind.f ((l.map conv_BarS).length : Int) = some t ∧ wrap64 (((l.map conv_BarS).length : Int) + t) = (L.length : Int) ∧
  Evt (fun k => full_toBarS.f k l false = some L) ∧ Evt (fun k => laws_toBarS.f k l true = some (l.map conv_BarS)) := by
 obtain ⟨t, ht, h0, h1, h2⟩ := room_some l.length
 have hw : wrap64 ((l.length : Int) + t) = (l.length : Int) + t := w64 (by omega)
 have hn : ((l.length : Int) + t).toNat = l.length + t.toNat := by omega
 have hm : (l.map conv_BarS).length = l.length := List.length_map _
 have hlen : (l.map conv_BarS ++ List.replicate (l.length + t.toNat - l.length) (⟨(-7000000000000000101), (-7000000000000000101)⟩ : S108)).length = l.length + t.toNat := by rw [List.length_append, List.length_replicate, hm]; omega
 refine ⟨l.map conv_BarS ++ List.replicate (l.length + t.toNat - l.length) (⟨(-7000000000000000101), (-7000000000000000101)⟩ : S108), t, ?_, ⟨?_, by omega⟩, hm, by omega, by rw [hm]; exact ht, by rw [hm, hw, hlen]; omega, ?_, ?_⟩
 ·intro e
  rw [e] at hlen
  simp at hlen
  have := h2 (by omega)
  omega
 ·rw [← hm, List.take_left]
 ·refine Evt.succ ⟨l.length + (l.length + t.toNat) + 2, fun k hk => ?_⟩
  show full_toBarS.f (k + 1) l false = _
  unfold full_toBarS.f
  rw [if_neg (by decide)]
  simp only [full_toBarS.j0]
  rw [if_neg (by decide), ht]
  simp only [Option.bind_some]
  rw [hw, if_pos (by omega), hn, if_pos (by omega)]
  have z := full_BarS_l0 l.length k l (List.replicate (l.length + t.toNat) z108) 0 (by omega) (by omega) Zbn Zbn (by simp) Zbn
  rw [List.length_replicate] at z
  exact z
 ·refine Evt.succ ⟨l.length + (l.length + t.toNat) + 2, fun k hk => ?_⟩
  show laws_toBarS.f (k + 1) l true = _
  unfold laws_toBarS.f
  rw [if_pos rfl]
  simp only [laws_toBarS.j0]
  by_cases e : l.length = 0
  ·have e2 : l = [] := List.length_eq_zero_iff.mp e
   subst e2
   rfl
  ·have e3 : ((l.length : Int) == 0) = false := by rw [beq_eq_false_iff_ne]; omega
   rw [e3, if_neg (by decide), ht]
   simp only [Option.bind_some]
   rw [hw, if_pos (by omega), hn, if_pos (by omega)]
   exact to_BarS_l0 l.length k l (List.replicate (l.length + t.toNat) z108) 0 (by omega) (by omega) Zbn Zbn (by simp) Zbn
theorem eq_BarS_l0 (d : Nat) : ∀ (k : Nat) (xs : List S108) (i : Nat), xs.length - i = d → i ≤ xs.length → xs.length ≤ 4000000 → d < k → laws_eqBarS.l0 k xs xs (i : Int) = some true := by
 induction d with
 | zero =>
  intro k xs i hd h1 h2 hk
  obtain ⟨k, rfl⟩ : ∃ m, k = m + 1 := ⟨k - 1, by omega⟩
  simp only [laws_eqBarS.l0]; rw [if_neg (by omega)]
 | succ d ih =>
  intro k xs i hd h1 h2 hk
  obtain ⟨k, rfl⟩ : ∃ m, k = m + 1 := ⟨k - 1, by omega⟩
  have hr := ih k xs (i + 1) (by omega) (by omega) h2 (by omega)
  simp only [laws_eqBarS.l0, laws_eqBar.f, if_true, Option.bind_some]
  rw [if_pos (by omega), if_pos (by omega), if_pos (by omega), w64 (by omega)]
  exact hr
theorem eq_BarS (xs : List S108) (h : xs.length ≤ 4000000) : Evt (fun k => laws_eqBarS.f k xs xs = some true) := by
 refine ⟨xs.length + 1, fun k hk => ?_⟩
 show laws_eqBarS.f k xs xs = _
 unfold laws_eqBarS.f
 rw [if_pos rfl]
 exact eq_BarS_l0 xs.length k xs 0 (by omega) (by omega) h (by omega)
theorem sz_BarS (l : List S110) (a : Int) (h0 : 0 ≤ a) (h1 : a ≤ 1000000) (hl : l.length ≤ maxLen) :
  (l.length ≤ a ∧ laws_szBarS.f l a = some (a - l.length)) ∨ laws_szBarS.f l a = some (-1) := by
 unfold maxLen at hl
 unfold laws_szBarS.f
 rw [w64 (by omega)]
 by_cases h : a - (l.length : Int) < 0
 ·rw [if_pos h]
  exact .inr rfl
 ·rw [if_neg h]
  exact .inl ⟨by omega, rfl⟩
end Go.Proofs.Ytnlbaflbhicooaa.F
namespace Go.Proofs.Ytnlbaflbhicooaa.F
open Go.RowKit Go.Proofs.YtnlbaflbhicooaaW.PrintWords Go.Proofs.YtnlbaflbhicooaaW.PrintLast Go.Proofs.YtnlbaflbhicooaaW.PrintMore
set_option linter.unusedVariables false
set_option linter.unusedSimpArgs false
end Go.Proofs.Ytnlbaflbhicooaa.F
namespace Go.Proofs.Ytnlbaflbhicooaa.F
open Go.RowKit Go.Proofs.YtnlbaflbhicooaaW.PrintWords Go.Proofs.YtnlbaflbhicooaaW.PrintLast Go.Proofs.YtnlbaflbhicooaaW.PrintMore
set_option linter.unusedVariables false
set_option linter.unusedSimpArgs false
def conv_ArticleS (x : S105) : S92 := ⟨x.f0, x.f1, x.f2, x.f3, x.f4, x.f5, x.f6, x.f7, x.f8⟩
theorem full_ArticleS_l1 (d : Nat) : ∀ (k : Nat) (x0 : List S105) (x5 : List S92) (i : Nat), x5.length - i = d → x0.length ≤ i → i ≤ x5.length → x5.length ≤ 4000000 → d < k →
  full_toArticleS.l1 k x0 x5 (i : Int) = some (x5.take i ++ List.replicate d (⟨(⟨#[126, 115, 112, 97, 114, 101, 126]⟩ : ByteArray), (-7000000000000000101), (-7000000000000000101), (-7000000000000000101), (-7000000000000000101), (-7000000000000000101), (-7000000000000000101), (-7000000000000000101), (-7000000000000000101)⟩ : S92)) := by
 induction d with
 | zero =>
  intro k x0 x5 i hd h1 h2 h3 hk
  obtain ⟨k, rfl⟩ : ∃ m, k = m + 1 := ⟨k - 1, by omega⟩
  simp only [full_toArticleS.l1]
  rw [if_neg (by omega), if_pos (by omega), if_pos (by omega), List.take_of_length_le (by omega)]
  simp
 | succ d ih =>
  intro k x0 x5 i hd h1 h2 h3 hk
  obtain ⟨k, rfl⟩ : ∃ m, k = m + 1 := ⟨k - 1, by omega⟩
  have hr := ih k x0 (x5.set i (⟨(⟨#[126, 115, 112, 97, 114, 101, 126]⟩ : ByteArray), (-7000000000000000101), (-7000000000000000101), (-7000000000000000101), (-7000000000000000101), (-7000000000000000101), (-7000000000000000101), (-7000000000000000101), (-7000000000000000101)⟩ : S92)) (i + 1) Zbm (by omega) Zbm Zbm (by omega)
  rw [take_set_snoc _ _ _ (by omega), List.append_assoc, List.singleton_append, ← List.replicate_succ] at hr
  rw [← hr]
  simp only [full_toArticleS.l1, laws_fillerArticle.f, Option.bind_some]
  rw [if_pos (by omega)]
  rw [if_pos (by omega), w64 (by omega)]
  rfl
theorem full_ArticleS_l0 (d : Nat) : ∀ (k : Nat) (x0 : List S105) (x5 : List S92) (i : Nat), x0.length - i = d → i ≤ x0.length → x0.length ≤ x5.length → x5.length ≤ 4000000 → x5.take i = (x0.take i).map conv_ArticleS → d + x5.length + 1 < k →
  full_toArticleS.l0 k x0 x5 (i : Int) = some (x0.map conv_ArticleS ++ List.replicate (x5.length - x0.length) (⟨(⟨#[126, 115, 112, 97, 114, 101, 126]⟩ : ByteArray), (-7000000000000000101), (-7000000000000000101), (-7000000000000000101), (-7000000000000000101), (-7000000000000000101), (-7000000000000000101), (-7000000000000000101), (-7000000000000000101)⟩ : S92)) := by
 induction d with
 | zero =>
  intro k x0 x5 i hd h1 h2 h3 h4 hk
  obtain ⟨k, rfl⟩ : ∃ m, k = m + 1 := ⟨k - 1, by omega⟩
  simp only [full_toArticleS.l0]
  rw [if_neg (by omega), full_ArticleS_l1 (x5.length - x0.length) k x0 x5 x0.length rfl (Nat.le_refl _) h2 h3 (by omega)]
  have e : i = x0.length := by omega
  subst e
  rw [h4, List.take_length]
 | succ d ih =>
  intro k x0 x5 i hd h1 h2 h3 h4 hk
  obtain ⟨k, rfl⟩ : ∃ m, k = m + 1 := ⟨k - 1, by omega⟩
  have hi : i < x0.length := by omega
  have h5 : (x5.set i (conv_ArticleS x0[i])).take (i + 1) = (x0.take (i + 1)).map conv_ArticleS := by
   rw [take_set_snoc _ _ _ (by omega), h4, List.take_succ_eq_append_getElem hi, List.map_append]; rfl
  have hr := ih k x0 (x5.set i (conv_ArticleS x0[i])) (i + 1) (by omega) (by omega) Zbm Zbm h5 Zbm
  rw [List.length_set] at hr
  rw [← hr]
  simp only [full_toArticleS.l0, laws_toArticle.f, Option.bind_some]
  rw [if_pos (by omega), if_pos (by omega)]
  rw [if_pos (by omega), w64 (by omega), rd_T105, getD_at _ _ _ hi]
  rfl
theorem to_ArticleS_l1 (d : Nat) : ∀ (k : Nat) (x0 : List S105) (x5 : List S92) (i : Nat), x5.length - i = d → x0.length ≤ i → i ≤ x5.length → x5.length ≤ 4000000 → d < k →
  laws_toArticleS.l1 k x0 x5 (i : Int) = some (x5.take x0.length) := by
 induction d with
 | zero =>
  intro k x0 x5 i hd h1 h2 h3 hk
  obtain ⟨k, rfl⟩ : ∃ m, k = m + 1 := ⟨k - 1, by omega⟩
  simp only [laws_toArticleS.l1]; rw [if_neg (by omega), if_pos (by omega), if_pos (by omega), Int.toNat_natCast]
 | succ d ih =>
  intro k x0 x5 i hd h1 h2 h3 hk
  obtain ⟨k, rfl⟩ : ∃ m, k = m + 1 := ⟨k - 1, by omega⟩
  have hr := ih k x0 (x5.set i (⟨(⟨#[126, 115, 112, 97, 114, 101, 126]⟩ : ByteArray), (-7000000000000000101), (-7000000000000000101), (-7000000000000000101), (-7000000000000000101), (-7000000000000000101), (-7000000000000000101), (-7000000000000000101), (-7000000000000000101)⟩ : S92)) (i + 1) Zbm (by omega) Zbm Zbm (by omega)
  rw [take_set_ge _ _ _ _ h1] at hr
  rw [← hr]
  simp only [laws_toArticleS.l1, laws_fillerArticle.f, Option.bind_some]
  rw [if_pos (by omega)]
  rw [if_pos (by omega), w64 (by omega)]
  rfl
theorem to_ArticleS_l0 (d : Nat) : ∀ (k : Nat) (x0 : List S105) (x5 : List S92) (i : Nat), x0.length - i = d → i ≤ x0.length → x0.length ≤ x5.length → x5.length ≤ 4000000 → x5.take i = (x0.take i).map conv_ArticleS → d + x5.length + 1 < k →
  laws_toArticleS.l0 k x0 x5 (i : Int) = some (x0.map conv_ArticleS) := by
 induction d with
 | zero =>
  intro k x0 x5 i hd h1 h2 h3 h4 hk
  obtain ⟨k, rfl⟩ : ∃ m, k = m + 1 := ⟨k - 1, by omega⟩
  simp only [laws_toArticleS.l0]
  rw [if_neg (by omega), to_ArticleS_l1 (x5.length - x0.length) k x0 x5 x0.length rfl (Nat.le_refl _) h2 h3 (by omega)]
  have e : i = x0.length := by omega
  subst e
  rw [h4, List.take_length]
 | succ d ih =>
  intro k x0 x5 i hd h1 h2 h3 h4 hk
  obtain ⟨k, rfl⟩ : ∃ m, k = m + 1 := ⟨k - 1, by omega⟩
  have hi : i < x0.length := by omega
  have h5 : (x5.set i (conv_ArticleS x0[i])).take (i + 1) = (x0.take (i + 1)).map conv_ArticleS := by
   rw [take_set_snoc _ _ _ (by omega), h4, List.take_succ_eq_append_getElem hi, List.map_append]; rfl
  have hr := ih k x0 (x5.set i (conv_ArticleS x0[i])) (i + 1) (by omega) (by omega) Zbm Zbm h5 Zbm
  rw [← hr]
  simp only [laws_toArticleS.l0, laws_toArticle.f, Option.bind_some]
  rw [if_pos (by omega), if_pos (by omega)]
  rw [if_pos (by omega), w64 (by omega), rd_T105, getD_at _ _ _ hi]
  rfl
theorem to_ArticleS (l : List S105) (hl : l.length ≤ 1000000) : ∃ (L : List S92) (t : Int), L ≠ [] ∧ (l.map conv_ArticleS = L.take l.length ∧ l.length ≤ L.length) ∧ (l.map conv_ArticleS).length = l.length ∧ L.length ≤ 2000001 ∧
  laws_roomBehind.f ((l.map conv_ArticleS).length : Int) = some t ∧ wrap64 (((l.map conv_ArticleS).length : Int) + t) = (L.length : Int) ∧
  Evt (fun k => full_toArticleS.f k l false = some L) ∧ Evt (fun k => laws_toArticleS.f k l true = some (l.map conv_ArticleS)) := by
 obtain ⟨t, ht, h0, h1, h2⟩ := room_some l.length
 have hw : wrap64 ((l.length : Int) + t) = (l.length : Int) + t := w64 (by omega)
 have hn : ((l.length : Int) + t).toNat = l.length + t.toNat := by omega
 have hm : (l.map conv_ArticleS).length = l.length := List.length_map _
 have hlen : (l.map conv_ArticleS ++ List.replicate (l.length + t.toNat - l.length) (⟨(⟨#[126, 115, 112, 97, 114, 101, 126]⟩ : ByteArray), (-7000000000000000101), (-7000000000000000101), (-7000000000000000101), (-7000000000000000101), (-7000000000000000101), (-7000000000000000101), (-7000000000000000101), (-7000000000000000101)⟩ : S92)).length = l.length + t.toNat := by rw [List.length_append, List.length_replicate, hm]; omega
 refine ⟨l.map conv_ArticleS ++ List.replicate (l.length + t.toNat - l.length) (⟨(⟨#[126, 115, 112, 97, 114, 101, 126]⟩ : ByteArray), (-7000000000000000101), (-7000000000000000101), (-7000000000000000101), (-7000000000000000101), (-7000000000000000101), (-7000000000000000101), (-7000000000000000101), (-7000000000000000101)⟩ : S92), t, ?_, ⟨?_, by omega⟩, hm, by omega, by rw [hm]; exact ht, by rw [hm, hw, hlen]; omega, ?_, ?_⟩
 ·intro e
  rw [e] at hlen
  simp at hlen
  have := h2 (by omega)
  omega
 ·rw [← hm, List.take_left]
 ·refine Evt.succ ⟨l.length + (l.length + t.toNat) + 2, fun k hk => ?_⟩
  show full_toArticleS.f (k + 1) l false = _
  unfold full_toArticleS.f
  rw [if_neg (by decide)]
  simp only [full_toArticleS.j0]
  rw [if_neg (by decide), ht]
  simp only [Option.bind_some]
  rw [hw, if_pos (by omega), hn, if_pos (by omega)]
  have z := full_ArticleS_l0 l.length k l (List.replicate (l.length + t.toNat) z92) 0 (by omega) (by omega) Zbn Zbn (by simp) Zbn
  rw [List.length_replicate] at z
  exact z
 ·refine Evt.succ ⟨l.length + (l.length + t.toNat) + 2, fun k hk => ?_⟩
  show laws_toArticleS.f (k + 1) l true = _
  unfold laws_toArticleS.f
  rw [if_pos rfl]
  simp only [laws_toArticleS.j0]
  by_cases e : l.length = 0
  ·have e2 : l = [] := List.length_eq_zero_iff.mp e
   subst e2
   rfl
  ·have e3 : ((l.length : Int) == 0) = false := by rw [beq_eq_false_iff_ne]; omega
   rw [e3, if_neg (by decide), ht]
   simp only [Option.bind_some]
   rw [hw, if_pos (by omega), hn, if_pos (by omega)]
   exact to_ArticleS_l0 l.length k l (List.replicate (l.length + t.toNat) z92) 0 (by omega) (by omega) Zbn Zbn (by simp) Zbn
theorem eq_ArticleS_l0 (d : Nat) : ∀ (k : Nat) (xs : List S92) (i : Nat), xs.length - i = d → i ≤ xs.length → xs.length ≤ 4000000 → d < k → laws_eqArticleS.l0 k xs xs (i : Int) = some true := by
 induction d with
 | zero =>
  intro k xs i hd h1 h2 hk
  obtain ⟨k, rfl⟩ : ∃ m, k = m + 1 := ⟨k - 1, by omega⟩
  simp only [laws_eqArticleS.l0]; rw [if_neg (by omega)]
 | succ d ih =>
  intro k xs i hd h1 h2 hk
  obtain ⟨k, rfl⟩ : ∃ m, k = m + 1 := ⟨k - 1, by omega⟩
  have hr := ih k xs (i + 1) (by omega) (by omega) h2 (by omega)
  simp only [laws_eqArticleS.l0, laws_eqArticle.f, if_true, Option.bind_some]
  rw [if_pos (by omega), if_pos (by omega), if_pos (by omega), w64 (by omega)]
  exact hr
theorem eq_ArticleS (xs : List S92) (h : xs.length ≤ 4000000) : Evt (fun k => laws_eqArticleS.f k xs xs = some true) := by
 refine ⟨xs.length + 1, fun k hk => ?_⟩
 show laws_eqArticleS.f k xs xs = _
 unfold laws_eqArticleS.f
 rw [if_pos rfl]
 exact eq_ArticleS_l0 xs.length k xs 0 (by omega) (by omega) h (by omega)
theorem sz_ArticleS_l0 (d : Nat) : ∀ (k : Nat) (l : List S105) (a : Int) (i : Nat), l.length - i = d → i ≤ l.length → l.length ≤ 1000000 → 0 ≤ a → a ≤ 1000000 → (∀ x ∈ l, x.f0.size ≤ maxLen) → d < k →
  ∃ s, laws_szArticleS.l0 k l a (i : Int) = some s ∧ (∀ m, k ≤ m → laws_szArticleS.l0 m l a (i : Int) = some s) ∧ (s < 0 ∨ (0 ≤ s ∧ s ≤ a ∧ ∀ j, i ≤ j → (h : j < l.length) → (l[j]).f0.size ≤ 1000000)) := by
 induction d with
 | zero =>
  intro k l a i hd h1 h2 h3 h4 hp hk
  have e : ∀ m, k ≤ m → laws_szArticleS.l0 m l a (i : Int) = some a := fun m hm => by
   obtain ⟨m, rfl⟩ : ∃ q, m = q + 1 := ⟨m - 1, by omega⟩
   simp only [laws_szArticleS.l0]
   rw [if_neg (by omega)]
  exact ⟨a, e k (Nat.le_refl _), e, .inr ⟨h3, Int.le_refl _, fun j h5 h6 => absurd h6 (by omega)⟩⟩
 | succ d ih =>
  intro k l a i hd h1 h2 h3 h4 hp hk
  have hi : i < l.length := by omega
  have hs := hp l[i] (List.getElem_mem hi)
  have hm : maxLen = 9223372036854775807 := rfl
  have er : rd_T105 l (i : Int) = l[i] := by unfold rd_T105; exact getD_at _ _ _ hi
  by_cases c : a - ((l[i]).f0.size : Int) < 0
  ·have e : ∀ m, k ≤ m → laws_szArticleS.l0 m l a (i : Int) = some (-1) := fun m hm => by
    obtain ⟨m, rfl⟩ : ∃ q, m = q + 1 := ⟨m - 1, by omega⟩
    simp only [laws_szArticleS.l0, laws_szArticle.f]
    rw [if_pos (by omega), if_pos (by omega), er, w64 (n := a - ((l[i]).f0.size : Int)) (by omega), if_pos c]
    rfl
   exact ⟨-1, e k (Nat.le_refl _), e, .inl (by omega)⟩
  ·obtain ⟨s, _, e2, e3⟩ := ih (k - 1) l (a - ((l[i]).f0.size : Int)) (i + 1) (by omega) (by omega) h2 (by omega) (by omega) hp (by omega)
   have e : ∀ m, k ≤ m → laws_szArticleS.l0 m l a (i : Int) = some s := fun m hm => by
    obtain ⟨m, rfl⟩ : ∃ q, m = q + 1 := ⟨m - 1, by omega⟩
    simp only [laws_szArticleS.l0, laws_szArticle.f]
    rw [if_pos (by omega), if_pos (by omega), er, w64 (n := a - ((l[i]).f0.size : Int)) (by omega), if_neg c, Option.bind_some, if_neg c, w64 (n := (i : Int) + 1) (by omega)]
    exact e2 m (by omega)
   refine ⟨s, e k (Nat.le_refl _), e, ?_⟩
   rcases e3 with e3 | ⟨e3, e4, e5⟩
   ·exact .inl e3
   ·refine .inr ⟨e3, by omega, fun j h5 h6 => ?_⟩
    by_cases q : j = i
    ·subst q; omega
    ·exact e5 j (by omega) h6
theorem sz_ArticleS (l : List S105) (a : Int) (h0 : 0 ≤ a) (h1 : a ≤ 1000000) (hl : l.length ≤ maxLen) (hp : ∀ x ∈ l, x.f0.size ≤ maxLen) :
  ∃ s, Evt (fun k => laws_szArticleS.f k l a = some s) ∧ (s < 0 ∨ (0 ≤ s ∧ s ≤ a ∧ l.length ≤ 1000000 ∧ ∀ x ∈ l, x.f0.size ≤ 1000000)) := by
 have hm : maxLen = 9223372036854775807 := rfl
 by_cases h : a - (l.length : Int) < 0
 ·refine ⟨-1, Evt.of fun k => ?_, .inl (by omega)⟩
  unfold laws_szArticleS.f
  rw [w64 (by omega), if_pos h]
 ·obtain ⟨s, _, e2, e3⟩ := sz_ArticleS_l0 l.length (l.length + 1) l (a - (l.length : Int)) 0 (by omega) (by omega) (by omega) (by omega) (by omega) hp (by omega)
  refine ⟨s, ⟨l.length + 1, fun k hk => ?_⟩, ?_⟩
  ·show laws_szArticleS.f k l a = _
   unfold laws_szArticleS.f
   rw [w64 (by omega), if_neg h]
   exact e2 k hk
  ·rcases e3 with e3 | ⟨e3, e4, e5⟩
   ·exact .inl e3
   ·refine .inr ⟨e3, by omega, by omega, fun x hx => ?_⟩
    obtain ⟨j, hj, rfl⟩ := List.getElem_of_mem hx
    exact e5 j (by omega) hj
end Go.Proofs.Ytnlbaflbhicooaa.F
namespace Go.Proofs.Ytnlbaflbhicooaa.F
open Go.RowKit Go.Proofs.YtnlbaflbhicooaaW.PrintWords Go.Proofs.YtnlbaflbhicooaaW.PrintLast Go.Proofs.YtnlbaflbhicooaaW.PrintMore
set_option linter.unusedVariables false
set_option linter.unusedSimpArgs false
def conv_CueS (x : S40) : S43 := ⟨x.f0, x.f1, x.f2, x.f3⟩
theorem full_CueS_l1 (d : Nat) : ∀ (k : Nat) (x0 : List S40) (x5 : List S43) (i : Nat), x5.length - i = d → x0.length ≤ i → i ≤ x5.length → x5.length ≤ 4000000 → d < k →
  full_toCueS.l1 k x0 x5 (i : Int) = some (x5.take i ++ List.replicate d (⟨(-7000000000000000101), (-7000000000000000101), (⟨#[126, 115, 112, 97, 114, 101, 126]⟩ : ByteArray), (-7000000000000000101)⟩ : S43)) := by
 induction d with
 | zero =>
  intro k x0 x5 i hd h1 h2 h3 hk
  obtain ⟨k, rfl⟩ : ∃ m, k = m + 1 := ⟨k - 1, by omega⟩
  simp only [full_toCueS.l1]
  rw [if_neg (by omega), if_pos (by omega), if_pos (by omega), List.take_of_length_le (by omega)]
  simp
 | succ d ih =>
  intro k x0 x5 i hd h1 h2 h3 hk
  obtain ⟨k, rfl⟩ : ∃ m, k = m + 1 := ⟨k - 1, by omega⟩
  have hr := ih k x0 (x5.set i (⟨(-7000000000000000101), (-7000000000000000101), (⟨#[126, 115, 112, 97, 114, 101, 126]⟩ : ByteArray), (-7000000000000000101)⟩ : S43)) (i + 1) Zbm (by omega) Zbm Zbm (by omega)
  rw [take_set_snoc _ _ _ (by omega), List.append_assoc, List.singleton_append, ← List.replicate_succ] at hr
  rw [← hr]
  simp only [full_toCueS.l1, laws_fillerCue.f, Option.bind_some]
  rw [if_pos (by omega)]
  rw [if_pos (by omega), w64 (by omega)]
  rfl
theorem full_CueS_l0 (d : Nat) : ∀ (k : Nat) (x0 : List S40) (x5 : List S43) (i : Nat), x0.length - i = d → i ≤ x0.length → x0.length ≤ x5.length → x5.length ≤ 4000000 → x5.take i = (x0.take i).map conv_CueS → d + x5.length + 1 < k →
  full_toCueS.l0 k x0 x5 (i : Int) = some (x0.map conv_CueS ++ List.replicate (x5.length - x0.length) (⟨(-7000000000000000101), (-7000000000000000101), (⟨#[126, 115, 112, 97, 114, 101, 126]⟩ : ByteArray), (-7000000000000000101)⟩ : S43)) := by
 induction d with
 | zero =>
  intro k x0 x5 i hd h1 h2 h3 h4 hk
  obtain ⟨k, rfl⟩ : ∃ m, k = m + 1 := ⟨k - 1, by omega⟩
  simp only [full_toCueS.l0]
  rw [if_neg (by omega), full_CueS_l1 (x5.length - x0.length) k x0 x5 x0.length rfl (Nat.le_refl _) h2 h3 (by omega)]
  have e : i = x0.length := by omega
  subst e
  rw [h4, List.take_length]
 | succ d ih =>
  intro k x0 x5 i hd h1 h2 h3 h4 hk
  obtain ⟨k, rfl⟩ : ∃ m, k = m + 1 := ⟨k - 1, by omega⟩
  have hi : i < x0.length := by omega
  have h5 : (x5.set i (conv_CueS x0[i])).take (i + 1) = (x0.take (i + 1)).map conv_CueS := by
   rw [take_set_snoc _ _ _ (by omega), h4, List.take_succ_eq_append_getElem hi, List.map_append]; rfl
  have hr := ih k x0 (x5.set i (conv_CueS x0[i])) (i + 1) (by omega) (by omega) Zbm Zbm h5 Zbm
  rw [List.length_set] at hr
  rw [← hr]
  simp only [full_toCueS.l0, laws_toCue.f, Option.bind_some]
  rw [if_pos (by omega), if_pos (by omega)]
  rw [if_pos (by omega), w64 (by omega), rd_T40, getD_at _ _ _ hi]
  rfl
theorem to_CueS_l1 (d : Nat) : ∀ (k : Nat) (x0 : List S40) (x5 : List S43) (i : Nat), x5.length - i = d → x0.length ≤ i → i ≤ x5.length → x5.length ≤ 4000000 → d < k →
  laws_toCueS.l1 k x0 x5 (i : Int) = some (x5.take x0.length) := by
 induction d with
 | zero =>
  intro k x0 x5 i hd h1 h2 h3 hk
  obtain ⟨k, rfl⟩ : ∃ m, k = m + 1 := ⟨k - 1, by omega⟩
  simp only [laws_toCueS.l1]; rw [if_neg (by omega), if_pos (by omega), if_pos (by omega), Int.toNat_natCast]
 | succ d ih =>
  intro k x0 x5 i hd h1 h2 h3 hk
  obtain ⟨k, rfl⟩ : ∃ m, k = m + 1 := ⟨k - 1, by omega⟩
  have hr := ih k x0 (x5.set i (⟨(-7000000000000000101), (-7000000000000000101), (⟨#[126, 115, 112, 97, 114, 101, 126]⟩ : ByteArray), (-7000000000000000101)⟩ : S43)) (i + 1) Zbm (by omega) Zbm Zbm (by omega)
  rw [take_set_ge _ _ _ _ h1] at hr
  rw [← hr]
  simp only [laws_toCueS.l1, laws_fillerCue.f, Option.bind_some]
  rw [if_pos (by omega)]
  rw [if_pos (by omega), w64 (by omega)]
  rfl
theorem to_CueS_l0 (d : Nat) : ∀ (k : Nat) (x0 : List S40) (x5 : List S43) (i : Nat), x0.length - i = d → i ≤ x0.length → x0.length ≤ x5.length → x5.length ≤ 4000000 → x5.take i = (x0.take i).map conv_CueS → d + x5.length + 1 < k →
  laws_toCueS.l0 k x0 x5 (i : Int) = some (x0.map conv_CueS) := by
 induction d with
 | zero =>
  intro k x0 x5 i hd h1 h2 h3 h4 hk
  obtain ⟨k, rfl⟩ : ∃ m, k = m + 1 := ⟨k - 1, by omega⟩
  simp only [laws_toCueS.l0]
  rw [if_neg (by omega), to_CueS_l1 (x5.length - x0.length) k x0 x5 x0.length rfl (Nat.le_refl _) h2 h3 (by omega)]
  have e : i = x0.length := by omega
  subst e
  rw [h4, List.take_length]
 | succ d ih =>
  intro k x0 x5 i hd h1 h2 h3 h4 hk
  obtain ⟨k, rfl⟩ : ∃ m, k = m + 1 := ⟨k - 1, by omega⟩
  have hi : i < x0.length := by omega
  have h5 : (x5.set i (conv_CueS x0[i])).take (i + 1) = (x0.take (i + 1)).map conv_CueS := by
   rw [take_set_snoc _ _ _ (by omega), h4, List.take_succ_eq_append_getElem hi, List.map_append]; rfl
  have hr := ih k x0 (x5.set i (conv_CueS x0[i])) (i + 1) (by omega) (by omega) Zbm Zbm h5 Zbm
  rw [← hr]
  simp only [laws_toCueS.l0, laws_toCue.f, Option.bind_some]
  rw [if_pos (by omega), if_pos (by omega)]
  rw [if_pos (by omega), w64 (by omega), rd_T40, getD_at _ _ _ hi]
  rfl
theorem to_CueS (l : List S40) (hl : l.length ≤ 1000000) : ∃ (L : List S43) (t : Int), L ≠ [] ∧ (l.map conv_CueS = L.take l.length ∧ l.length ≤ L.length) ∧ (l.map conv_CueS).length = l.length ∧ L.length ≤ 2000001 ∧
  laws_roomBehind.f ((l.map conv_CueS).length : Int) = some t ∧ wrap64 (((l.map conv_CueS).length : Int) + t) = (L.length : Int) ∧
  Evt (fun k => full_toCueS.f k l false = some L) ∧ Evt (fun k => laws_toCueS.f k l true = some (l.map conv_CueS)) := by
 obtain ⟨t, ht, h0, h1, h2⟩ := room_some l.length
 have hw : wrap64 ((l.length : Int) + t) = (l.length : Int) + t := w64 (by omega)
 have hn : ((l.length : Int) + t).toNat = l.length + t.toNat := by omega
 have hm : (l.map conv_CueS).length = l.length := List.length_map _
 have hlen : (l.map conv_CueS ++ List.replicate (l.length + t.toNat - l.length) (⟨(-7000000000000000101), (-7000000000000000101), (⟨#[126, 115, 112, 97, 114, 101, 126]⟩ : ByteArray), (-7000000000000000101)⟩ : S43)).length = l.length + t.toNat := by rw [List.length_append, List.length_replicate, hm]; omega
 refine ⟨l.map conv_CueS ++ List.replicate (l.length + t.toNat - l.length) (⟨(-7000000000000000101), (-7000000000000000101), (⟨#[126, 115, 112, 97, 114, 101, 126]⟩ : ByteArray), (-7000000000000000101)⟩ : S43), t, ?_, ⟨?_, by omega⟩, hm, by omega, by rw [hm]; exact ht, by rw [hm, hw, hlen]; omega, ?_, ?_⟩
 ·intro e
  rw [e] at hlen
  simp at hlen
  have := h2 (by omega)
  omega
 ·rw [← hm, List.take_left]
 ·refine Evt.succ ⟨l.length + (l.length + t.toNat) + 2, fun k hk => ?_⟩
  show full_toCueS.f (k + 1) l false = _
  unfold full_toCueS.f
  rw [if_neg (by decide)]
  simp only [full_toCueS.j0]
  rw [if_neg (by decide), ht]
  simp only [Option.bind_some]
  rw [hw, if_pos (by omega), hn, if_pos (by omega)]
  have z := full_CueS_l0 l.length k l (List.replicate (l.length + t.toNat) z43) 0 (by omega) (by omega) Zbn Zbn (by simp) Zbn
  rw [List.length_replicate] at z
  exact z
 ·refine Evt.succ ⟨l.length + (l.length + t.toNat) + 2, fun k hk => ?_⟩
  show laws_toCueS.f (k + 1) l true = _
  unfold laws_toCueS.f
  rw [if_pos rfl]
  simp only [laws_toCueS.j0]
  by_cases e : l.length = 0
  ·have e2 : l = [] := List.length_eq_zero_iff.mp e
   subst e2
   rfl
  ·have e3 : ((l.length : Int) == 0) = false := by rw [beq_eq_false_iff_ne]; omega
   rw [e3, if_neg (by decide), ht]
   simp only [Option.bind_some]
   rw [hw, if_pos (by omega), hn, if_pos (by omega)]
   exact to_CueS_l0 l.length k l (List.replicate (l.length + t.toNat) z43) 0 (by omega) (by omega) Zbn Zbn (by simp) Zbn
theorem eq_CueS_l0 (d : Nat) : ∀ (k : Nat) (xs : List S43) (i : Nat), xs.length - i = d → i ≤ xs.length → xs.length ≤ 4000000 → d < k → laws_eqCueS.l0 k xs xs (i : Int) = some true := by
 induction d with
 | zero =>
  intro k xs i hd h1 h2 hk
  obtain ⟨k, rfl⟩ : ∃ m, k = m + 1 := ⟨k - 1, by omega⟩
  simp only [laws_eqCueS.l0]; rw [if_neg (by omega)]
 | succ d ih =>
  intro k xs i hd h1 h2 hk
  obtain ⟨k, rfl⟩ : ∃ m, k = m + 1 := ⟨k - 1, by omega⟩
  have hr := ih k xs (i + 1) (by omega) (by omega) h2 (by omega)
  simp only [laws_eqCueS.l0, laws_eqCue.f, if_true, Option.bind_some]
  rw [if_pos (by omega), if_pos (by omega), if_pos (by omega), w64 (by omega)]
  exact hr
theorem eq_CueS (xs : List S43) (h : xs.length ≤ 4000000) : Evt (fun k => laws_eqCueS.f k xs xs = some true) := by
 refine ⟨xs.length + 1, fun k hk => ?_⟩
 show laws_eqCueS.f k xs xs = _
 unfold laws_eqCueS.f
 rw [if_pos rfl]
 exact eq_CueS_l0 xs.length k xs 0 (by omega) (by omega) h (by omega)
theorem sz_CueS_l0 (d : Nat) : ∀ (k : Nat) (l : List S40) (a : Int) (i : Nat), l.length - i = d → i ≤ l.length → l.length ≤ 1000000 → 0 ≤ a → a ≤ 1000000 → (∀ x ∈ l, x.f2.size ≤ maxLen) → d < k →
  ∃ s, laws_szCueS.l0 k l a (i : Int) = some s ∧ (∀ m, k ≤ m → laws_szCueS.l0 m l a (i : Int) = some s) ∧ (s < 0 ∨ (0 ≤ s ∧ s ≤ a ∧ ∀ j, i ≤ j → (h : j < l.length) → (l[j]).f2.size ≤ 1000000)) := by
 induction d with
 | zero =>
  intro k l a i hd h1 h2 h3 h4 hp hk
  have e : ∀ m, k ≤ m → laws_szCueS.l0 m l a (i : Int) = some a := fun m hm => by
   obtain ⟨m, rfl⟩ : ∃ q, m = q + 1 := ⟨m - 1, by omega⟩
   simp only [laws_szCueS.l0]
   rw [if_neg (by omega)]
  exact ⟨a, e k (Nat.le_refl _), e, .inr ⟨h3, Int.le_refl _, fun j h5 h6 => absurd h6 (by omega)⟩⟩
 | succ d ih =>
  intro k l a i hd h1 h2 h3 h4 hp hk
  have hi : i < l.length := by omega
  have hs := hp l[i] (List.getElem_mem hi)
  have hm : maxLen = 9223372036854775807 := rfl
  have er : rd_T40 l (i : Int) = l[i] := by unfold rd_T40; exact getD_at _ _ _ hi
  by_cases c : a - ((l[i]).f2.size : Int) < 0
  ·have e : ∀ m, k ≤ m → laws_szCueS.l0 m l a (i : Int) = some (-1) := fun m hm => by
    obtain ⟨m, rfl⟩ : ∃ q, m = q + 1 := ⟨m - 1, by omega⟩
    simp only [laws_szCueS.l0, laws_szCue.f]
    rw [if_pos (by omega), if_pos (by omega), er, w64 (n := a - ((l[i]).f2.size : Int)) (by omega), if_pos c]
    rfl
   exact ⟨-1, e k (Nat.le_refl _), e, .inl (by omega)⟩
  ·obtain ⟨s, _, e2, e3⟩ := ih (k - 1) l (a - ((l[i]).f2.size : Int)) (i + 1) (by omega) (by omega) h2 (by omega) (by omega) hp (by omega)
   have e : ∀ m, k ≤ m → laws_szCueS.l0 m l a (i : Int) = some s := fun m hm => by
    obtain ⟨m, rfl⟩ : ∃ q, m = q + 1 := ⟨m - 1, by omega⟩
    simp only [laws_szCueS.l0, laws_szCue.f]
    rw [if_pos (by omega), if_pos (by omega), er, w64 (n := a - ((l[i]).f2.size : Int)) (by omega), if_neg c, Option.bind_some, if_neg c, w64 (n := (i : Int) + 1) (by omega)]
    exact e2 m (by omega)
   refine ⟨s, e k (Nat.le_refl _), e, ?_⟩
   rcases e3 with e3 | ⟨e3, e4, e5⟩
   ·exact .inl e3
   ·refine .inr ⟨e3, by omega, fun j h5 h6 => ?_⟩
    by_cases q : j = i
    ·subst q; omega
    ·exact e5 j (by omega) h6
theorem sz_CueS (l : List S40) (a : Int) (h0 : 0 ≤ a) (h1 : a ≤ 1000000) (hl : l.length ≤ maxLen) (hp : ∀ x ∈ l, x.f2.size ≤ maxLen) :
  ∃ s, Evt (fun k => laws_szCueS.f k l a = some s) ∧ (s < 0 ∨ (0 ≤ s ∧ s ≤ a ∧ l.length ≤ 1000000 ∧ ∀ x ∈ l, x.f2.size ≤ 1000000)) := by
 have hm : maxLen = 9223372036854775807 := rfl
 by_cases h : a - (l.length : Int) < 0
 ·refine ⟨-1, Evt.of fun k => ?_, .inl (by omega)⟩
  unfold laws_szCueS.f
  rw [w64 (by omega), if_pos h]
 ·obtain ⟨s, _, e2, e3⟩ := sz_CueS_l0 l.length (l.length + 1) l (a - (l.length : Int)) 0 (by omega) (by omega) (by omega) (by omega) (by omega) hp (by omega)
  refine ⟨s, ⟨l.length + 1, fun k hk => ?_⟩, ?_⟩
  ·show laws_szCueS.f k l a = _
   unfold laws_szCueS.f
   rw [w64 (by omega), if_neg h]
   exact e2 k hk
  ·rcases e3 with e3 | ⟨e3, e4, e5⟩
   ·exact .inl e3
   ·refine .inr ⟨e3, by omega, by omega, fun x hx => ?_⟩
    obtain ⟨j, hj, rfl⟩ := List.getElem_of_mem hx
    exact e5 j (by omega) hj
end Go.Proofs.Ytnlbaflbhicooaa.F
namespace Go.Proofs.Ytnlbaflbhicooaa.F
open Go.RowKit Go.Proofs.YtnlbaflbhicooaaW.PrintWords Go.Proofs.YtnlbaflbhicooaaW.PrintLast Go.Proofs.YtnlbaflbhicooaaW.PrintMore
set_option linter.unusedVariables false
set_option linter.unusedSimpArgs false
theorem sz_Show (l0 : List S110) (l1 : List S105) (l2 : List S40) (n0 : l0.length ≤ maxLen) (n1 : l1.length ≤ maxLen) (p1 : ∀ x ∈ l1, x.f0.size ≤ maxLen) (n2 : l2.length ≤ maxLen) (p2 : ∀ x ∈ l2, x.f2.size ≤ maxLen) :
  ∃ s, Evt (fun k => laws_szShow.f k l0 l1 l2 1000000 = some s) ∧ (s < 0 ∨ (0 ≤ s ∧ s ≤ 1000000 ∧ l0.length ≤ 1000000 ∧ (l1.length ≤ 1000000 ∧ ∀ x ∈ l1, x.f0.size ≤ 1000000) ∧ l2.length ≤ 1000000 ∧ ∀ x ∈ l2, x.f2.size ≤ 1000000)) := by
 rcases sz_BarS l0 1000000 (by omega) (by omega) n0 with ⟨z0, e0⟩ | e0
 rotate_left
 ·refine ⟨-1, Evt.of fun k => ?_, .inl (by omega)⟩
  unfold laws_szShow.f
  rw [e0]; rfl
 ·obtain ⟨s1, e1, h1⟩ := sz_ArticleS l1 (1000000 - (l0.length : Int)) (by omega) (by omega) n1 p1
  rcases h1 with h1 | ⟨h1, h2, h3, h4⟩
  ·refine ⟨-1, e1.mono fun k hk => ?_, .inl (by omega)⟩
   unfold laws_szShow.f
   rw [e0]
   simp only [Option.bind_some]
   rw [if_neg (by omega), hk]
   simp only [Option.bind_some]
   rw [if_pos h1]
  ·obtain ⟨s2, e2, g1⟩ := sz_CueS l2 s1 h1 (by omega) n2 p2
   rcases g1 with g1 | ⟨g1, g2, g3, g4⟩
   ·refine ⟨-1, (e1.and e2).mono fun k hk => ?_, .inl (by omega)⟩
    unfold laws_szShow.f
    rw [e0]
    simp only [Option.bind_some]
    rw [if_neg (by omega), hk.1]
    simp only [Option.bind_some]
    rw [if_neg (by omega), hk.2]
    simp only [Option.bind_some]
    rw [if_pos g1]
   ·refine ⟨s2, (e1.and e2).mono fun k hk => ?_, .inr ⟨g1, by omega, by omega, ⟨h3, h4⟩, g3, g4⟩⟩
    unfold laws_szShow.f
    rw [e0]
    simp only [Option.bind_some]
    rw [if_neg (by omega), hk.1]
    simp only [Option.bind_some]
    rw [if_neg (by omega), hk.2]
    simp only [Option.bind_some]
    rw [if_neg (by omega)]
theorem full_Show {l0 : List S110} {l1 : List S105} {l2 : List S40} {L0 : List S108} {L1 : List S92} {L2 : List S43} (h0 : Evt (fun k => full_toBarS.f k l0 false = some L0)) (h1 : Evt (fun k => full_toArticleS.f k l1 false = some L1)) (h2 : Evt (fun k => full_toCueS.f k l2 false = some L2)) : Evt (fun k => full_toShow.f k l0 l1 l2 false = some (L0, L1, L2)) :=
 (h0.and (h1.and h2)).mono fun k h => by
  unfold full_toShow.f
  rw [h.1, h.2.1, h.2.2]; rfl
theorem bare_Show {l0 : List S110} {l1 : List S105} {l2 : List S40} {L0 : List S108} {L1 : List S92} {L2 : List S43} (h0 : Evt (fun k => laws_toBarS.f k l0 true = some L0)) (h1 : Evt (fun k => laws_toArticleS.f k l1 true = some L1)) (h2 : Evt (fun k => laws_toCueS.f k l2 true = some L2)) : Evt (fun k => laws_toShow.f k l0 l1 l2 true = some (L0, L1, L2)) :=
 (h0.and (h1.and h2)).mono fun k h => by
  unfold laws_toShow.f
  rw [h.1, h.2.1, h.2.2]; rfl
end Go.Proofs.Ytnlbaflbhicooaa.F
namespace Go.Proofs.Ytnlbaflbhicooaa.F
open Go.RowKit Go.Proofs.YtnlbaflbhicooaaW.PrintWords Go.Proofs.YtnlbaflbhicooaaW.PrintLast Go.Proofs.YtnlbaflbhicooaaW.PrintMore
set_option linter.unusedVariables false
set_option linter.unusedSimpArgs false
theorem In_eq (n lo hi : Int) : spec_l01In.f n lo hi = some (inB n lo hi) := by
 unfold spec_l01In.f inB
 by_cases h : n ≥ lo
 ·rw [if_pos h]; congr 1; simp; omega
 ·rw [if_neg h]; congr 1; simp; omega
theorem Wi_eq (n lo hi : Int) : impl_within.f n lo hi = some (inB n lo hi) := by
 unfold impl_within.f inB
 by_cases h : lo ≤ n
 ·rw [if_pos h]; congr 1; simp; omega
 ·rw [if_neg h]; congr 1; simp; omega
end Go.Proofs.Ytnlbaflbhicooaa.F
namespace Go.Proofs.Ytnlbaflbhicooaa.F
open Go.RowKit Go.Proofs.YtnlbaflbhicooaaW.PrintWords Go.Proofs.YtnlbaflbhicooaaW.PrintLast Go.Proofs.YtnlbaflbhicooaaW.PrintMore
set_option linter.unusedVariables false
set_option linter.unusedSimpArgs false
def word (s : ByteArray) : Bool := allF (fun j => inB (bt s (j : Int)) 97 122) 0 s.size && inB (s.size : Int) 1 16
theorem spec_word (s : ByteArray) (hs : s.size ≤ 4000000) (k : Nat) (hk : s.size < k) : spec_IsWord.f k s = some (word s) := by
 refine all_loop (f := fun k i => spec_IsWord.l0 k s (i : Int)) s.size (fun k i hi => ?_) (fun k => ?_) s.size k 0 (by omega) (by omega) (by omega)
 ·show spec_IsWord.l0 (k + 1) s i = _
  simp only [spec_IsWord.l0]
  rw [if_pos (by omega), if_pos (by omega), w64 (n := (i : Int) + 1) (by omega)]
  by_cases c1 : bt s (i : Int) < 97
  ·rw [if_pos c1, inB_false.2 (by omega), if_neg (by decide)]
  ·rw [if_neg c1]
   by_cases c2 : bt s (i : Int) > 122
   ·rw [if_pos c2, inB_false.2 (by omega), if_neg (by decide)]
   ·rw [if_neg c2, inB_true.2 (by omega), if_pos rfl]; rfl
 ·show spec_IsWord.l0 (k + 1) s _ = _
  simp only [spec_IsWord.l0]
  rw [if_neg (by omega), In_eq]; rfl
theorem impl_word (s : ByteArray) (hs : s.size ≤ 4000000) (k : Nat) (hk : s.size + 1 < k) : impl_IsWord.f k s = some (word s) := by
 obtain ⟨k, rfl⟩ : ∃ m, k = m + 1 := ⟨k - 1, by omega⟩
 unfold impl_IsWord.f word
 simp only [impl_IsWord.j0]
 by_cases h1 : (s.size : Int) < 1
 ·rw [if_pos h1, if_pos trivial, inB_false.2 (by omega), Bool.and_false]
 ·rw [if_neg h1]
  by_cases h2 : (s.size : Int) > 16
  ·rw [if_pos (decide_eq_true h2), inB_false.2 (by omega), Bool.and_false]
  ·rw [if_neg (by simpa using h2), inB_true.2 (by omega)]
   refine all_loop (f := fun k i => impl_IsWord.l0 k s (i : Int)) s.size (fun k i hi => ?_) (fun k => ?_) s.size k 0 (by omega) (by omega) (by omega)
   ·show impl_IsWord.l0 (k + 1) s i = _
    simp only [impl_IsWord.l0]
    rw [if_pos (by omega), if_pos (by omega), w64 (n := (i : Int) + 1) (by omega)]
    by_cases c1 : bt s (i : Int) < 97
    ·rw [if_pos c1, inB_false.2 (by omega), if_neg (by decide)]
    ·rw [if_neg c1]
     by_cases c2 : bt s (i : Int) > 122
     ·rw [if_pos c2, inB_false.2 (by omega), if_neg (by decide)]
     ·rw [if_neg c2, inB_true.2 (by omega), if_pos rfl]; rfl
   ·show impl_IsWord.l0 (k + 1) s _ = _
    simp only [impl_IsWord.l0]
    rw [if_neg (by omega)]
def art (a : S92) : Bool := word a.f0 && (inB a.f1 0 3 && (inB a.f2 20 300 && (inB a.f3 0 10000 && (inB a.f4 0 a.f3 && (inB a.f5 1 50 && (inB a.f6 0 10000 && (inB a.f7 1 100000 && inB a.f8 0 3)))))))
theorem spec_art (a : S92) (hs : a.f0.size ≤ 4000000) (k : Nat) (hk : a.f0.size < k) : spec_IsArticle.f k a.f0 a.f1 a.f2 a.f3 a.f4 a.f5 a.f6 a.f7 a.f8 = some (art a) := by
 unfold spec_IsArticle.f art
 rw [spec_word a.f0 hs k hk]
 simp only [In_eq, Option.bind_some]
 cases word a.f0 <;> cases inB a.f1 0 3 <;> cases inB a.f2 20 300 <;> cases inB a.f3 0 10000 <;> cases inB a.f4 0 a.f3 <;> cases inB a.f5 1 50 <;> cases inB a.f6 0 10000 <;> cases inB a.f7 1 100000 <;> rfl
theorem impl_art (a : S92) (hs : a.f0.size ≤ 4000000) (k : Nat) (hk : a.f0.size + 1 < k) : impl_IsArticle.f k a.f0 a.f1 a.f2 a.f3 a.f4 a.f5 a.f6 a.f7 a.f8 = some (art a) := by
 unfold impl_IsArticle.f art
 rw [impl_word a.f0 hs k hk]
 simp only [Wi_eq, Option.bind_some]
 cases word a.f0 <;> cases inB a.f1 0 3 <;> cases inB a.f2 20 300 <;> cases inB a.f3 0 10000 <;> cases inB a.f4 0 a.f3 <;> cases inB a.f5 1 50 <;> cases inB a.f6 0 10000 <;> cases inB a.f7 1 100000 <;> rfl
def ar_at (xs : List S92) (i : Nat) : S92 := xs.getD i z92
theorem rd_art (xs : List S92) (i : Nat) : rd_T92 xs (i : Int) = ar_at xs i := by unfold rd_T92 ar_at; rw [Int.toNat_natCast]
def artAt (xs : List S92) (i : Nat) : Bool := art (ar_at xs i) && (decide (i = 0) || Op.bytesLess (ar_at xs (i - 1)).f0.toList (ar_at xs i).f0.toList)
def areArts (xs : List S92) : Bool := allF (artAt xs) 0 xs.length && decide ((xs.length : Int) ≤ 12)
def Small (B : Nat) (xs : List S92) : Prop := B ≤ 1000000 ∧ ∀ x ∈ xs, x.f0.size ≤ B
theorem small_at {B : Nat} {xs : List S92} (h : Small B xs) (i : Nat) (hi : i < xs.length) : (ar_at xs i).f0.size ≤ B := by
 unfold ar_at
 rw [List.getD_eq_getElem?_getD, List.getElem?_eq_getElem hi]
 exact h.2 _ (List.getElem_mem hi)
theorem spec_arts (B : Nat) (xs : List S92) (hx : xs.length ≤ 4000000) (hB : Small B xs) (k : Nat) (hk : xs.length + B < k) : spec_AreArticles.f k xs = some (areArts xs) := by
 have loop : ∀ d k i, xs.length - i = d → i ≤ xs.length → d + B < k → spec_AreArticles.l0 k xs (i : Int) = some (allF (artAt xs) i d && decide ((xs.length : Int) ≤ 12)) := by
  intro d
  induction d with
  | zero =>
   intro k i hd hi hk
   obtain ⟨k, rfl⟩ : ∃ m, k = m + 1 := ⟨k - 1, by omega⟩
   simp only [spec_AreArticles.l0]
   rw [if_neg (by omega)]
   rfl
  | succ d ih =>
   intro k i hd hi hk
   obtain ⟨k, rfl⟩ : ∃ m, k = m + 1 := ⟨k - 1, by omega⟩
   have hb := small_at hB i (by omega)
   have hB1 := hB.1
   have nx := ih k (i + 1) (by omega) (by omega) (by omega)
   simp only [spec_AreArticles.l0]
   rw [if_pos (by omega), if_pos (by omega), rd_art, spec_art _ (by omega) k (by omega), w64 (n := (i : Int) + 1) (by omega)]
   simp only [Option.bind_some]
   unfold allF artAt
   cases ha : art (ar_at xs i) with
   | false => rfl
   | true =>
    rw [if_pos rfl, Bool.true_and]
    by_cases i0 : i = 0
    ·subst i0
     rw [if_neg (by omega), decide_eq_true rfl, Bool.true_or, Bool.true_and]
     exact nx
    ·rw [if_pos (by omega), w64 (n := (i : Int) - 1) (by omega), if_pos (by omega), if_pos (by omega), show (i : Int) - 1 = ((i - 1 : Nat) : Int) by omega, rd_art, decide_eq_false i0, Bool.false_or]
     cases hl : Op.bytesLess (ar_at xs (i - 1)).f0.toList (ar_at xs i).f0.toList with
     | false => rfl
     | true => rw [if_pos rfl, Bool.true_and]; exact nx
 unfold spec_AreArticles.f
 exact loop xs.length k 0 (by omega) (by omega) hk
theorem impl_arts (B : Nat) (xs : List S92) (hx : xs.length ≤ 4000000) (hB : Small B xs) (k : Nat) (hk : xs.length + B + 1 < k) : impl_AreArticles.f k xs = some (areArts xs) := by
 have loop : ∀ d k i, xs.length - i = d → i ≤ xs.length → d + B + 1 < k → impl_AreArticles.l0 k xs xs (xs.length : Int) (i : Int) = some (allF (artAt xs) i d && true) := by
  intro d
  induction d with
  | zero =>
   intro k i hd hi hk
   obtain ⟨k, rfl⟩ : ∃ m, k = m + 1 := ⟨k - 1, by omega⟩
   simp only [impl_AreArticles.l0]
   rw [if_neg (by omega)]
   rfl
  | succ d ih =>
   intro k i hd hi hk
   obtain ⟨k, rfl⟩ : ∃ m, k = m + 1 := ⟨k - 1, by omega⟩
   have hb := small_at hB i (by omega)
   have hB1 := hB.1
   have nx := ih k (i + 1) (by omega) (by omega) (by omega)
   simp only [impl_AreArticles.l0]
   rw [if_pos (by omega), if_pos (by omega), if_pos (by omega), rd_art, impl_art _ (by omega) k (by omega), w64 (n := (i : Int) + 1) (by omega)]
   simp only [Option.bind_some]
   unfold allF artAt
   cases ha : art (ar_at xs i) with
   | false => rfl
   | true =>
    rw [if_pos rfl, Bool.true_and]
    by_cases i0 : i = 0
    ·subst i0
     rw [if_neg (by omega), decide_eq_true rfl, Bool.true_or, Bool.true_and]
     exact nx
    ·rw [if_pos (by omega), w64 (n := (i : Int) - 1) (by omega), if_pos (by omega), if_pos (by omega), show (i : Int) - 1 = ((i - 1 : Nat) : Int) by omega, rd_art, decide_eq_false i0, Bool.false_or]
     cases hl : Op.bytesLess (ar_at xs (i - 1)).f0.toList (ar_at xs i).f0.toList with
     | false => rfl
     | true => rw [if_pos rfl, Bool.true_and]; exact nx
 unfold impl_AreArticles.f areArts
 by_cases c : (xs.length : Int) > 12
 ·rw [if_pos c, decide_eq_false (by omega), Bool.and_false]
 ·rw [if_neg c, decide_eq_true (by omega)]
  exact loop xs.length k 0 (by omega) (by omega) hk
def findF (xs : List S92) (s : ByteArray) : Nat → Nat → Int
 | _, 0 => -1
 | i, d + 1 => if (ar_at xs i).f0.toList = s.toList then (i : Int) else findF xs s (i + 1) d
def find (xs : List S92) (s : ByteArray) : Int := findF xs s 0 xs.length
theorem find_go (xs : List S92) (hx : xs.length ≤ 4000000) (s : ByteArray) : ∀ d k i, xs.length - i = d → i ≤ xs.length → d < k → spec_l03Find.l0 k xs s (i : Int) = some (findF xs s i d) ∧ impl_articleOf.l0 k s xs (xs.length : Int) (i : Int) = some (findF xs s i d) := by
 intro d
 induction d with
 | zero =>
  intro k i hd hi hk
  obtain ⟨k, rfl⟩ : ∃ m, k = m + 1 := ⟨k - 1, by omega⟩
  simp only [spec_l03Find.l0, impl_articleOf.l0]
  rw [if_neg (by omega), if_neg (by omega)]
  exact ⟨rfl, rfl⟩
 | succ d ih =>
  intro k i hd hi hk
  obtain ⟨k, rfl⟩ : ∃ m, k = m + 1 := ⟨k - 1, by omega⟩
  obtain ⟨a, b⟩ := ih k (i + 1) (by omega) (by omega) (by omega)
  have w : wrap64 ((i : Int) + 1) = ((i + 1 : Nat) : Int) := w64 (by omega)
  have g1 : (i : Int) < (xs.length : Int) := by clear w; omega
  have g2 : 0 ≤ (i : Int) := by clear w; omega
  simp only [spec_l03Find.l0, impl_articleOf.l0, if_pos g1, if_pos g2, rd_art, w]
  unfold findF
  by_cases c : (ar_at xs i).f0.toList = s.toList
  ·rw [if_pos c, if_pos c, if_pos c]; exact ⟨rfl, rfl⟩
  ·rw [if_neg c, if_neg c, if_neg c]; exact ⟨a, b⟩
theorem spec_find (xs : List S92) (hx : xs.length ≤ 4000000) (s : ByteArray) (k : Nat) (hk : xs.length < k) : spec_l03Find.f k xs s = some (find xs s) := (find_go xs hx s xs.length k 0 (by omega) (by omega) hk).1
theorem impl_find (xs : List S92) (hx : xs.length ≤ 4000000) (s : ByteArray) (k : Nat) (hk : xs.length < k) : impl_articleOf.f k xs s = some (find xs s) := (find_go xs hx s xs.length k 0 (by omega) (by omega) hk).2
theorem findF_range (xs : List S92) (s : ByteArray) : ∀ d i, findF xs s i d = -1 ∨ ((i : Int) ≤ findF xs s i d ∧ findF xs s i d < (i : Int) + d)
 | 0, _ => .inl rfl
 | d + 1, i => by
  unfold findF
  by_cases c : (ar_at xs i).f0.toList = s.toList
  ·rw [if_pos c]; exact .inr ⟨Int.le_refl _, by omega⟩
  ·rw [if_neg c]
   rcases findF_range xs s d (i + 1) with h | h
   ·exact .inl h
   ·exact .inr ⟨by omega, by omega⟩
theorem find_range (xs : List S92) (s : ByteArray) : find xs s = -1 ∨ (0 ≤ find xs s ∧ find xs s < (xs.length : Int)) := by
 have := findF_range xs s xs.length 0
 unfold find
 omega
end Go.Proofs.Ytnlbaflbhicooaa.F
namespace Go.Proofs.Ytnlbaflbhicooaa.F
open Go.RowKit Go.Proofs.YtnlbaflbhicooaaW.PrintWords Go.Proofs.YtnlbaflbhicooaaW.PrintLast Go.Proofs.YtnlbaflbhicooaaW.PrintMore
set_option linter.unusedVariables false
set_option linter.unusedSimpArgs false
def bt_at (xs : List S108) (i : Nat) : Int := (xs.getD i z108).f0
def ln_at (xs : List S108) (i : Nat) : Int := (xs.getD i z108).f1
def barAt (xs : List S108) (i : Nat) : Bool := inB (bt_at xs i) 1 16 && inB (ln_at xs i) 100 5000
def isScore (xs : List S108) : Bool := allF (barAt xs) 0 xs.length && inB (xs.length : Int) 1 20
theorem rd_bar (xs : List S108) (i : Nat) : rd_T108 xs (i : Int) = xs.getD i z108 := by unfold rd_T108; rw [Int.toNat_natCast]
theorem spec_score (xs : List S108) (hx : xs.length ≤ 4000000) (k : Nat) (hk : xs.length < k) : spec_IsScore.f k xs = some (isScore xs) := by
 refine all_loop (f := fun k i => spec_IsScore.l0 k xs (i : Int)) xs.length (fun k i hi => ?_) (fun k => ?_) xs.length k 0 (by omega) (by omega) (by omega)
 ·show spec_IsScore.l0 (k + 1) xs i = _
  simp only [spec_IsScore.l0, In_eq, Option.bind_some]
  rw [if_pos (by omega), if_pos (by omega), w64 (by omega), rd_bar]
  unfold barAt bt_at ln_at
  cases inB (xs.getD i z108).f0 1 16 <;> cases inB (xs.getD i z108).f1 100 5000 <;> rfl
 ·show spec_IsScore.l0 (k + 1) xs _ = _
  simp only [spec_IsScore.l0, In_eq, Option.bind_some]
  rw [if_neg (by omega)]
theorem impl_score (xs : List S108) (hx : xs.length ≤ 4000000) (k : Nat) (hk : xs.length + 1 < k) : impl_IsScore.f k xs = some (isScore xs) := by
 obtain ⟨k, rfl⟩ : ∃ m, k = m + 1 := ⟨k - 1, by omega⟩
 unfold impl_IsScore.f isScore
 simp only [impl_IsScore.j0]
 by_cases h1 : (xs.length : Int) < 1
 ·rw [if_pos h1, if_pos trivial, inB_false.2 (by omega), Bool.and_false]
 ·rw [if_neg h1]
  by_cases h2 : (xs.length : Int) > 20
  ·rw [if_pos (decide_eq_true h2), inB_false.2 (by omega), Bool.and_false]
  ·rw [if_neg (by simpa using h2), inB_true.2 (by omega)]
   refine all_loop (f := fun k i => impl_IsScore.l0 k xs (xs.length : Int) (i : Int)) xs.length (fun k i hi => ?_) (fun k => ?_) xs.length k 0 (by omega) (by omega) (by omega)
   ·show impl_IsScore.l0 (k + 1) xs (xs.length : Int) i = _
    simp only [impl_IsScore.l0, Wi_eq, Option.bind_some]
    rw [if_pos (by omega), if_pos (by omega), if_pos (by omega), w64 (by omega), rd_bar]
    unfold barAt bt_at ln_at
    cases inB (xs.getD i z108).f0 1 16 <;> cases inB (xs.getD i z108).f1 100 5000 <;> rfl
   ·show impl_IsScore.l0 (k + 1) xs (xs.length : Int) _ = _
    simp only [impl_IsScore.l0]
    rw [if_neg (by omega)]
theorem isScore_true {xs : List S108} (h : isScore xs = true) : 1 ≤ xs.length ∧ xs.length ≤ 20 ∧ ∀ i, i < xs.length → 1 ≤ bt_at xs i ∧ bt_at xs i ≤ 16 ∧ 100 ≤ ln_at xs i ∧ ln_at xs i ≤ 5000 := by
 unfold isScore at h
 rw [Bool.and_eq_true, allF_true, inB_true] at h
 refine ⟨by omega, by omega, fun i hi => ?_⟩
 have := h.1 i (by omega) (by omega)
 unfold barAt at this
 rw [Bool.and_eq_true, inB_true, inB_true] at this
 omega
def tm (xs : List S108) (i : Nat) : Int := foldF (fun j s => s + bt_at xs j * ln_at xs j) 0 i 0
theorem tm_succ (xs : List S108) (i : Nat) : tm xs (i + 1) = tm xs i + bt_at xs i * ln_at xs i := by
 unfold tm
 rw [foldF_snoc, Nat.zero_add]
theorem prod_le {a b : Int} (h : 1 ≤ a ∧ a ≤ 16 ∧ 100 ≤ b ∧ b ≤ 5000) : 100 ≤ a * b ∧ a * b ≤ 80000 := by
 have h1 : 1 * b ≤ a * b := Int.mul_le_mul_of_nonneg_right h.1 (by omega)
 have h2 : a * b ≤ 16 * b := Int.mul_le_mul_of_nonneg_right h.2.1 (by omega)
 omega
theorem tm_le {xs : List S108} (h : isScore xs = true) : ∀ i, i ≤ xs.length → 0 ≤ tm xs i ∧ tm xs i ≤ 80000 * i
 | 0, _ => by unfold tm foldF; omega
 | i + 1, hi => by
  have h1 := tm_le h i (by omega)
  have h2 := prod_le ((isScore_true h).2.2 i (by omega))
  rw [tm_succ]
  omega
end Go.Proofs.Ytnlbaflbhicooaa.F
namespace Go.Proofs.Ytnlbaflbhicooaa.F
open Go.RowKit Go.Proofs.YtnlbaflbhicooaaW.PrintWords Go.Proofs.YtnlbaflbhicooaaW.PrintLast Go.Proofs.YtnlbaflbhicooaaW.PrintMore
set_option linter.unusedVariables false
set_option linter.unusedSimpArgs false
theorem spec_time {xs : List S108} (h : isScore xs = true) (bar : Nat) (hb : bar < xs.length) (beat : Int) (h0 : 0 ≤ beat ∧ beat ≤ 16) (k : Nat) (hk : bar < k) : spec_l07Time.f k xs (bar : Int) beat = some (tm xs bar + beat * ln_at xs bar) := by
 have hs := isScore_true h
 have hl := hs.2.2 bar hb
 have hb2 : 0 ≤ beat * ln_at xs bar ∧ beat * ln_at xs bar ≤ 80000 := by
  have h1 : 0 * ln_at xs bar ≤ beat * ln_at xs bar := Int.mul_le_mul_of_nonneg_right h0.1 (by omega)
  have h2 : beat * ln_at xs bar ≤ 16 * ln_at xs bar := Int.mul_le_mul_of_nonneg_right h0.2 (by omega)
  omega
 refine fold_loop (f := fun k i s => spec_l07Time.l0 k xs (bar : Int) beat s (i : Int)) (step := fun j s => s + bt_at xs j * ln_at xs j) (I := fun i s => s = tm xs i) (e := fun s => some (s + beat * ln_at xs bar)) bar (fun k i s hi hI => ?_) (fun i s hi hI => ?_) (fun k s hI => ?_) bar k 0 0 (by omega) (by omega) rfl hk
 ·have h1 := tm_le h i (by omega)
  have h2 := prod_le (hs.2.2 i (by omega))
  show spec_l07Time.l0 (k + 1) xs (bar : Int) beat s (i : Int) = spec_l07Time.l0 k xs (bar : Int) beat (s + bt_at xs i * ln_at xs i) ((i + 1 : Nat) : Int)
  simp only [spec_l07Time.l0]
  rw [if_pos (by omega), if_pos (by omega), if_pos (by omega), rd_bar]
  show spec_l07Time.l0 k xs (bar : Int) beat (wrap64 (s + wrap64 (bt_at xs i * ln_at xs i))) (wrap64 ((i : Int) + 1)) = _
  rw [w64 (n := bt_at xs i * ln_at xs i) (by omega), w64 (n := s + _) (by omega), w64 (by omega)]
  rfl
 ·show s + bt_at xs i * ln_at xs i = tm xs (i + 1)
  rw [tm_succ, hI]
 ·have h1 := tm_le h bar (by omega)
  show spec_l07Time.l0 (k + 1) xs (bar : Int) beat s (bar : Int) = some (s + beat * ln_at xs bar)
  simp only [spec_l07Time.l0]
  rw [if_neg (by omega), if_pos (by omega), if_pos (by omega), rd_bar]
  show some (wrap64 (s + wrap64 (beat * ln_at xs bar))) = _
  rw [w64 (n := beat * ln_at xs bar) (by omega), w64 (by omega)]
theorem impl_time {xs : List S108} (h : isScore xs = true) (bar : Nat) (beat : Int) (hb : bar < xs.length ∨ (bar = xs.length ∧ beat = 0)) (h0 : 0 ≤ beat ∧ beat ≤ 16) (k : Nat) (hk : bar < k) : impl_beatTime.f k xs (bar : Int) beat = some (tm xs bar + beat * ln_at xs bar) := by
 have hs := isScore_true h
 have hlen : (xs.take bar).length = bar := by rw [List.length_take]; omega
 unfold impl_beatTime.f
 rw [if_pos (by omega), if_pos (by omega), Int.toNat_natCast]
 simp only [Option.bind_some]
 rw [hlen]
 refine fold_loop (f := fun k i s => impl_beatTime.l0 k xs (bar : Int) beat s (xs.take bar) (bar : Int) (i : Int)) (step := fun j s => s + bt_at xs j * ln_at xs j) (I := fun i s => s = tm xs i) (e := fun s => some (s + beat * ln_at xs bar)) bar (fun k i s hi hI => ?_) (fun i s hi hI => ?_) (fun k s hI => ?_) bar k 0 0 (by omega) (by omega) rfl hk
 ·have h1 := tm_le h i (by omega)
  have h2 := prod_le (hs.2.2 i (by omega))
  show impl_beatTime.l0 (k + 1) xs (bar : Int) beat s (xs.take bar) (bar : Int) (i : Int) = impl_beatTime.l0 k xs (bar : Int) beat (s + bt_at xs i * ln_at xs i) (xs.take bar) (bar : Int) ((i + 1 : Nat) : Int)
  simp only [impl_beatTime.l0]
  rw [if_pos (by omega), if_pos (by omega), if_pos (by rw [hlen]; omega), rd_bar, getD_take _ _ _ _ hi]
  show impl_beatTime.l0 k xs (bar : Int) beat (wrap64 (s + wrap64 (bt_at xs i * ln_at xs i))) (xs.take bar) (bar : Int) (wrap64 ((i : Int) + 1)) = _
  rw [w64 (n := bt_at xs i * ln_at xs i) (by omega), w64 (n := s + _) (by omega), w64 (by omega)]
  rfl
 ·show s + bt_at xs i * ln_at xs i = tm xs (i + 1)
  rw [tm_succ, hI]
 ·have h1 := tm_le h bar (by omega)
  show impl_beatTime.l0 (k + 1) xs (bar : Int) beat s (xs.take bar) (bar : Int) (bar : Int) = some (s + beat * ln_at xs bar)
  simp only [impl_beatTime.l0]
  rw [if_neg (by omega)]
  by_cases hp : beat > 0
  ·have hlt : bar < xs.length := by omega
   have hl := hs.2.2 bar hlt
   have hb2 : 0 ≤ beat * ln_at xs bar ∧ beat * ln_at xs bar ≤ 80000 := by
    have h1 : 0 * ln_at xs bar ≤ beat * ln_at xs bar := Int.mul_le_mul_of_nonneg_right h0.1 (by omega)
    have h2 : beat * ln_at xs bar ≤ 16 * ln_at xs bar := Int.mul_le_mul_of_nonneg_right h0.2 (by omega)
    omega
   rw [if_pos hp, if_pos (by omega), if_pos (by omega), rd_bar]
   show some (wrap64 (s + wrap64 (beat * ln_at xs bar))) = _
   rw [w64 (n := beat * ln_at xs bar) (by omega), w64 (by omega)]
  ·have e : beat = 0 := by omega
   rw [if_neg hp, e, Int.zero_mul, Int.add_zero]
end Go.Proofs.Ytnlbaflbhicooaa.F
namespace Go.Proofs.Ytnlbaflbhicooaa.F
open Go.RowKit Go.Proofs.YtnlbaflbhicooaaW.PrintWords Go.Proofs.YtnlbaflbhicooaaW.PrintLast Go.Proofs.YtnlbaflbhicooaaW.PrintMore
set_option linter.unusedVariables false
set_option linter.unusedSimpArgs false
theorem index_eq (a n : Int) : impl_isIndex.f a n = some (inB a 0 (wrap64 (n - 1))) := by
 unfold impl_isIndex.f
 simp only [Wi_eq, Option.bind_some]
end Go.Proofs.Ytnlbaflbhicooaa.F
