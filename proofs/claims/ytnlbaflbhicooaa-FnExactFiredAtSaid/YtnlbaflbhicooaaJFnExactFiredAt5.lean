import Derived.Test.YtnlbaflbhicooaaJFnExactFiredAt4
import Derived.Below
import Derived.Deep.Draws
import Derived.Deep.AppendLies
import Derived.Maps.AppendAt
import Derived.OwnWalk
import Derived.Laws.BytesArg
import Derived.Laws.MakeOwn
import Derived.Laws.OwnMore
import Derived.Tactics
import Derived.Lib.ConvBytes
import Derived.Laws.Slices
import Derived.WalkKit
import Derived.KernelRfl
import Derived.RowKit3
import Derived.Deep.LoopGhost
import Derived.Deep.QuietTactic
import Derived.BigQuiet
import Derived.WideLaws
import Derived.Deep.DeepCutAuto
import Derived.Deep.CutBlock
import Derived.Deep.RegionHeld3
import Derived.Lib.AppendStr
import Derived.ArgAppend
import Derived.Laws.IdiomCopy
import Derived.RowKit
import Derived.OrdersHeld
import Derived.Laws.BitsLemmas
import Derived.Laws.StructEq
import Derived.Test.YtnlbaflbhicooaaProg
import Derived.ChangeSlices
import Derived.OpenShut
import Derived.Laws.Cover1
namespace Go.Proofs.Ytnlbaflbhicooaa.F
open Go.RowKit Go.Proofs.YtnlbaflbhicooaaW.PrintWords Go.Proofs.YtnlbaflbhicooaaW.PrintLast Go.Proofs.YtnlbaflbhicooaaW.PrintMore
attribute [local go_sem] max2_int min2_int max_two min_two max_three min_three max_four min_four   -- for this text's walks alone
set_option linter.unusedVariables false
set_option linter.unusedSimpArgs false
def spec_AreArticles.l0 : Nat → List (S92) → Int → Option (Bool)
 | 0, _, _ => none
 | k + 1, x0, x3 => if x3 < (x0.length : Int) then (if 0 ≤ x3 then ((spec_IsArticle.f k ((rd_T92 x0 x3).f0) ((rd_T92 x0 x3).f1) ((rd_T92 x0 x3).f2) ((rd_T92 x0 x3).f3) ((rd_T92 x0 x3).f4) ((rd_T92 x0 x3).f5) ((rd_T92 x0 x3).f6) ((rd_T92 x0 x3).f7) ((rd_T92 x0 x3).f8)).bind fun t128 => (if t128 = true then (if x3 > 0 then (if 0 ≤ (wrap64 (x3 - 1)) then (if (wrap64 (x3 - 1)) < (x0.length : Int) then (if ((Op.bytesLess (((rd_T92 x0 (wrap64 (x3 - 1))).f0).toList) (((rd_T92 x0 x3).f0).toList)) = true) then (spec_AreArticles.l0 k x0 (wrap64 (x3 + 1))) else (some false)) else (none)) else (none)) else (spec_AreArticles.l0 k x0 (wrap64 (x3 + 1)))) else (some false))) else (none)) else (some (decide ((x0.length : Int) ≤ 12)))
def spec_AreArticles.f (k : Nat) (l0 : List (S92)) : Option (Bool) := spec_AreArticles.l0 k l0 0
def spec_AreArticles.T4 : Bool × List (List Nat × List Nat) := (true, [([], []), ([], []), ([0, 1], [0, 1]), ([2], [2]), ([3], [3]), ([4], [4]), ([5, 4], [5]), ([6], [6]), ([7, 6], [6, 7]), ([8, 6, 6], [6, 8]), ([9], [9]), ([9], [9]), ([11, 9], [9, 11]), ([10, 12, 9], [9, 10, 12]), ([13, 9], [9, 13]), ([14, 9], [9, 14]), ([9], [9]), ([9], [9]), ([16, 17, 9], [9, 16, 17]), ([18, 9], [9, 18]), ([19, 9], [9, 19]), ([15, 20, 9], [9, 15, 20]), ([9, 21, 6], [6, 9, 21]), ([6, 22], [6, 22])])
def spec_AreArticles.B4 : List Nat := [0, 0, 3, 7, 15, 31, 63, 127, 255, 511, 1023, 1023, 3071, 8191, 16383, 32767, 1023, 1023, 197631, 459775, 984063, 2097151, 4194303, 8388607]
theorem spec_AreArticles.tab4 : rtab .any (opsOf Try.f92 4) = spec_AreArticles.T4 := by kernel_rfl
theorem spec_AreArticles.bits4 : waitsOk spec_AreArticles.T4.2 spec_AreArticles.B4 = true := by kernel_rfl
set_option maxHeartbeats 8000000 in
set_option maxRecDepth 100000 in
theorem spec_AreArticles.calls (k : Nat) (A0 : Option Addr) (c0 : Nat) (l0 : List (S92)) (r : Bool) (w : World) (hr0 : Kd.C k92 w A0 l0.length l0) (hc0 : l0.length ≤ c0) (h : spec_AreArticles.f k l0 = some r) :
  Calls Try.prog 92 #[.slice A0 l0.length c0] w fun e w' => e = .returned (.bool r) ∧ Below w.heap.size w w' := by
 have hu92 := Try.underlying92
 have HR0 := Aside0.mk hr0
 have HC0 := Aside0.mk hc0
 clear hr0 hc0
 have HB := Aside0.mk (Below.refl w.heap.size w)
 have H : (spec_AreArticles.l0 k l0 0) = some r := h
 clear h
 have H' := Aside0.mk H
 clear H
 go_enter Try.func92, Try.ntmps92
 go_wp2
 go_loopg [3] k (fun kq v3 w' => ∃ (x3_1 : Int), v3 = .int .i64 x3_1 ∧ Aside0 (spec_AreArticles.l0 kq l0 x3_1 = some r) ∧ Aside0 (kq ≤ k) ∧ Aside0 (Below w.heap.size w w'))
 case atStart => exact ⟨(0), Za, H', ⟨Nat.le_refl _⟩, ⟨Zc⟩⟩
 case round =>
  clear H'
  obtain ⟨x3_1, rfl, HA, HK1, HB⟩ := hrel
  cases gk with
  | zero => exact absurd HA.out (by simp [spec_AreArticles.l0])
  | succ k1 =>
   have H := HA.out
   clear HA
   simp only [spec_AreArticles.l0] at H
   by_cases c2 : x3_1 < (l0.length : Int)
   ·rw [if_pos c2] at H
    have c2b0 : decide (x3_1 < (l0.length : Int)) = true := decide_eq_true c2
    clear c2
    by_cases c3 : 0 ≤ x3_1
    ·rw [if_pos c3] at H
     have c3b0 : decide (0 ≤ x3_1) = true := decide_eq_true c3
     clear c3
     replace H := Option.bind_eq_some_iff.mp H
     obtain ⟨t128, A40, H⟩ := H
     replace H : (if t128 = true then (if x3_1 > 0 then (if 0 ≤ (wrap64 (x3_1 - 1)) then (if (wrap64 (x3_1 - 1)) < (l0.length : Int) then (if ((Op.bytesLess (((rd_T92 l0 (wrap64 (x3_1 - 1))).f0).toList) (((rd_T92 l0 x3_1).f0).toList)) = true) then (spec_AreArticles.l0 k1 l0 (wrap64 (x3_1 + 1))) else (some false)) else (none)) else (none)) else (spec_AreArticles.l0 k1 l0 (wrap64 (x3_1 + 1)))) else (some false)) = some r := H
     have A4 := Aside0.mk A40
     clear A40
     by_cases c5 : t128 = true
     ·subst c5
      have H1 : (if x3_1 > 0 then (if 0 ≤ (wrap64 (x3_1 - 1)) then (if (wrap64 (x3_1 - 1)) < (l0.length : Int) then (if ((Op.bytesLess (((rd_T92 l0 (wrap64 (x3_1 - 1))).f0).toList) (((rd_T92 l0 x3_1).f0).toList)) = true) then (spec_AreArticles.l0 k1 l0 (wrap64 (x3_1 + 1))) else (some false)) else (none)) else (none)) else (spec_AreArticles.l0 k1 l0 (wrap64 (x3_1 + 1)))) = some r := by rw [if_pos rfl] at H; exact H
      clear H
      have H := H1
      clear H1
      by_cases c6 : x3_1 > 0
      ·rw [if_pos c6] at H
       have c6b0 : decide (0 < x3_1) = true := decide_eq_true c6
       clear c6
       obtain ⟨ji7, hji7⟩ : ∃ j_ : Int, (wrap64 (x3_1 - 1)) = j_ := ⟨_, rfl⟩
       replace H : (if 0 ≤ (ji7) then (if (ji7) < (l0.length : Int) then (if ((Op.bytesLess (((rd_T92 l0 (ji7)).f0).toList) (((rd_T92 l0 x3_1).f0).toList)) = true) then (spec_AreArticles.l0 k1 l0 (wrap64 (x3_1 + 1))) else (some false)) else (none)) else (none)) = some r := by first | (rw [hji7] at H; exact H) | (simp only [hji7] at H ⊢; exact H)
       (try rw [hji7] at A4)
       have hji7w : (IntKind.i64.wrap (x3_1 - 1)) = ji7 := (i64_w _).trans hji7
       by_cases c8 : 0 ≤ (ji7)
       ·rw [if_pos c8] at H
        have c8b0 : decide (0 ≤ (ji7)) = true := decide_eq_true c8
        clear c8
        by_cases c9 : (ji7) < (l0.length : Int)
        ·rw [if_pos c9] at H
         have c9b0 : decide ((ji7) < (l0.length : Int)) = true := decide_eq_true c9
         clear c9
         by_cases c10 : ((Op.bytesLess (((rd_T92 l0 (ji7)).f0).toList) (((rd_T92 l0 x3_1).f0).toList)) = true)
         ·rw [if_pos c10] at H
          have c10b0 : (Op.bytesLess (((rd_T92 l0 (ji7)).f0).toList) (((rd_T92 l0 x3_1).f0).toList)) = true := c10
          clear c10
          have H' := Aside0.mk H
          clear H
          try go_wp2
          have n0_ := Aside0.mk (below_drew1 HB.out)
          clear HB
          have HB := n0_
          clear n0_
          have p127 : 0 ≤ (x3_1 : Int) := of_decide_eq_true Zp
          have q127 : x3_1 < (l0.length : Int) := of_decide_eq_true Zp
          obtain ⟨ad127, e127, hx127_0, hx127_1, hx127_2, hx127_3, hx127_4, hx127_5, hx127_6, hx127_7, hx127_8⟩ := at_T92 HR0.out x3_1 p127 q127
          have hw127_8 := hx127_8
          have hw127_7 := hx127_7
          have hw127_6 := hx127_6
          have hw127_5 := hx127_5
          have hw127_4 := hx127_4
          have hw127_3 := hx127_3
          have hw127_2 := hx127_2
          have hw127_1 := hx127_1
          have hw127_0 := hx127_0
          cases e127
          replace hx127_0 := cbH HB hx127_0
          replace hx127_1 := cbH HB hx127_1
          replace hx127_2 := cbH HB hx127_2
          replace hx127_3 := cbH HB hx127_3
          replace hx127_4 := cbH HB hx127_4
          replace hx127_5 := cbH HB hx127_5
          replace hx127_6 := cbH HB hx127_6
          replace hx127_7 := cbH HB hx127_7
          replace hx127_8 := cbH HB hx127_8
          replace p127 := eq_true p127
          replace q127 := eq_true q127
          have p129 : 0 ≤ ((ji7) : Int) := of_decide_eq_true Zp
          have q129 : (ji7) < (l0.length : Int) := of_decide_eq_true Zp
          obtain ⟨ad129, e129, hx129_0, hx129_1, hx129_2, hx129_3, hx129_4, hx129_5, hx129_6, hx129_7, hx129_8⟩ := at_T92 HR0.out (ji7) p129 q129
          have hw129_8 := hx129_8
          have hw129_7 := hx129_7
          have hw129_6 := hx129_6
          have hw129_5 := hx129_5
          have hw129_4 := hx129_4
          have hw129_3 := hx129_3
          have hw129_2 := hx129_2
          have hw129_1 := hx129_1
          have hw129_0 := hx129_0
          obtain rfl : ad127 = ad129 := (by injection e129)
          replace hx129_0 := cbH HB hx129_0
          replace hx129_1 := cbH HB hx129_1
          replace hx129_2 := cbH HB hx129_2
          replace hx129_3 := cbH HB hx129_3
          replace hx129_4 := cbH HB hx129_4
          replace hx129_5 := cbH HB hx129_5
          replace hx129_6 := cbH HB hx129_6
          replace hx129_7 := cbH HB hx129_7
          replace hx129_8 := cbH HB hx129_8
          replace p129 := eq_true p129
          replace q129 := eq_true q129
          have p130 : 0 ≤ (x3_1 : Int) := of_decide_eq_true Zp
          have q130 : x3_1 < (l0.length : Int) := of_decide_eq_true Zp
          obtain ⟨ad130, e130, hx130_0, hx130_1, hx130_2, hx130_3, hx130_4, hx130_5, hx130_6, hx130_7, hx130_8⟩ := at_T92 HR0.out x3_1 p130 q130
          have hw130_8 := hx130_8
          have hw130_7 := hx130_7
          have hw130_6 := hx130_6
          have hw130_5 := hx130_5
          have hw130_4 := hx130_4
          have hw130_3 := hx130_3
          have hw130_2 := hx130_2
          have hw130_1 := hx130_1
          have hw130_0 := hx130_0
          obtain rfl : ad127 = ad130 := (by injection e130)
          replace hx130_0 := cbH HB hx130_0
          replace hx130_1 := cbH HB hx130_1
          replace hx130_2 := cbH HB hx130_2
          replace hx130_3 := cbH HB hx130_3
          replace hx130_4 := cbH HB hx130_4
          replace hx130_5 := cbH HB hx130_5
          replace hx130_6 := cbH HB hx130_6
          replace hx130_7 := cbH HB hx130_7
          replace hx130_8 := cbH HB hx130_8
          replace p130 := eq_true p130
          replace q130 := eq_true q130
          refine start_ (n := 24) (S := fun w' => w'.cell? (ad127.add ((x3_1).toNat * 9)) = some (.string ((rd_T92 l0 x3_1).f0)) ∧ w'.cell? ⟨(ad127.add ((x3_1).toNat * 9)).block, (ad127.add ((x3_1).toNat * 9)).off + 1, none⟩ = some (.int .i64 ((rd_T92 l0 x3_1).f1)) ∧ w'.cell? ⟨(ad127.add ((x3_1).toNat * 9)).block, (ad127.add ((x3_1).toNat * 9)).off + 2, none⟩ = some (.int .i64 ((rd_T92 l0 x3_1).f2)) ∧ w'.cell? ⟨(ad127.add ((x3_1).toNat * 9)).block, (ad127.add ((x3_1).toNat * 9)).off + 3, none⟩ = some (.int .i64 ((rd_T92 l0 x3_1).f3)) ∧ w'.cell? ⟨(ad127.add ((x3_1).toNat * 9)).block, (ad127.add ((x3_1).toNat * 9)).off + 4, none⟩ = some (.int .i64 ((rd_T92 l0 x3_1).f4)) ∧ w'.cell? ⟨(ad127.add ((x3_1).toNat * 9)).block, (ad127.add ((x3_1).toNat * 9)).off + 5, none⟩ = some (.int .i64 ((rd_T92 l0 x3_1).f5)) ∧ w'.cell? ⟨(ad127.add ((x3_1).toNat * 9)).block, (ad127.add ((x3_1).toNat * 9)).off + 6, none⟩ = some (.int .i64 ((rd_T92 l0 x3_1).f6)) ∧ w'.cell? ⟨(ad127.add ((x3_1).toNat * 9)).block, (ad127.add ((x3_1).toNat * 9)).off + 7, none⟩ = some (.int .i64 ((rd_T92 l0 x3_1).f7)) ∧ w'.cell? ⟨(ad127.add ((x3_1).toNat * 9)).block, (ad127.add ((x3_1).toNat * 9)).off + 8, none⟩ = some (.int .i64 ((rd_T92 l0 x3_1).f8)) ∧ w'.cell? (ad127.add (((ji7)).toNat * 9)) = some (.string ((rd_T92 l0 (ji7)).f0)) ∧ w'.cell? ⟨(ad127.add (((ji7)).toNat * 9)).block, (ad127.add (((ji7)).toNat * 9)).off + 1, none⟩ = some (.int .i64 ((rd_T92 l0 (ji7)).f1)) ∧ w'.cell? ⟨(ad127.add (((ji7)).toNat * 9)).block, (ad127.add (((ji7)).toNat * 9)).off + 2, none⟩ = some (.int .i64 ((rd_T92 l0 (ji7)).f2)) ∧ w'.cell? ⟨(ad127.add (((ji7)).toNat * 9)).block, (ad127.add (((ji7)).toNat * 9)).off + 3, none⟩ = some (.int .i64 ((rd_T92 l0 (ji7)).f3)) ∧ w'.cell? ⟨(ad127.add (((ji7)).toNat * 9)).block, (ad127.add (((ji7)).toNat * 9)).off + 4, none⟩ = some (.int .i64 ((rd_T92 l0 (ji7)).f4)) ∧ w'.cell? ⟨(ad127.add (((ji7)).toNat * 9)).block, (ad127.add (((ji7)).toNat * 9)).off + 5, none⟩ = some (.int .i64 ((rd_T92 l0 (ji7)).f5)) ∧ w'.cell? ⟨(ad127.add (((ji7)).toNat * 9)).block, (ad127.add (((ji7)).toNat * 9)).off + 6, none⟩ = some (.int .i64 ((rd_T92 l0 (ji7)).f6)) ∧ w'.cell? ⟨(ad127.add (((ji7)).toNat * 9)).block, (ad127.add (((ji7)).toNat * 9)).off + 7, none⟩ = some (.int .i64 ((rd_T92 l0 (ji7)).f7)) ∧ w'.cell? ⟨(ad127.add (((ji7)).toNat * 9)).block, (ad127.add (((ji7)).toNat * 9)).off + 8, none⟩ = some (.int .i64 ((rd_T92 l0 (ji7)).f8)) ∧ w'.cell? (ad127.add ((x3_1).toNat * 9)) = some (.string ((rd_T92 l0 x3_1).f0)) ∧ w'.cell? ⟨(ad127.add ((x3_1).toNat * 9)).block, (ad127.add ((x3_1).toNat * 9)).off + 1, none⟩ = some (.int .i64 ((rd_T92 l0 x3_1).f1)) ∧ w'.cell? ⟨(ad127.add ((x3_1).toNat * 9)).block, (ad127.add ((x3_1).toNat * 9)).off + 2, none⟩ = some (.int .i64 ((rd_T92 l0 x3_1).f2)) ∧ w'.cell? ⟨(ad127.add ((x3_1).toNat * 9)).block, (ad127.add ((x3_1).toNat * 9)).off + 3, none⟩ = some (.int .i64 ((rd_T92 l0 x3_1).f3)) ∧ w'.cell? ⟨(ad127.add ((x3_1).toNat * 9)).block, (ad127.add ((x3_1).toNat * 9)).off + 4, none⟩ = some (.int .i64 ((rd_T92 l0 x3_1).f4)) ∧ w'.cell? ⟨(ad127.add ((x3_1).toNat * 9)).block, (ad127.add ((x3_1).toNat * 9)).off + 5, none⟩ = some (.int .i64 ((rd_T92 l0 x3_1).f5)) ∧ w'.cell? ⟨(ad127.add ((x3_1).toNat * 9)).block, (ad127.add ((x3_1).toNat * 9)).off + 6, none⟩ = some (.int .i64 ((rd_T92 l0 x3_1).f6)) ∧ w'.cell? ⟨(ad127.add ((x3_1).toNat * 9)).block, (ad127.add ((x3_1).toNat * 9)).off + 7, none⟩ = some (.int .i64 ((rd_T92 l0 x3_1).f7)) ∧ w'.cell? ⟨(ad127.add ((x3_1).toNat * 9)).block, (ad127.add ((x3_1).toNat * 9)).off + 8, none⟩ = some (.int .i64 ((rd_T92 l0 x3_1).f8))) (ds := []) (bT 24 0) Zj rfl rfl ⟨(cbH HB hw127_0 :), (cbH HB hw127_1 :), (cbH HB hw127_2 :), (cbH HB hw127_3 :), (cbH HB hw127_4 :), (cbH HB hw127_5 :), (cbH HB hw127_6 :), (cbH HB hw127_7 :), (cbH HB hw127_8 :), (cbH HB hw129_0 :), (cbH HB hw129_1 :), (cbH HB hw129_2 :), (cbH HB hw129_3 :), (cbH HB hw129_4 :), (cbH HB hw129_5 :), (cbH HB hw129_6 :), (cbH HB hw129_7 :), (cbH HB hw129_8 :), (cbH HB hw130_0 :), (cbH HB hw130_1 :), (cbH HB hw130_2 :), (cbH HB hw130_3 :), (cbH HB hw130_4 :), (cbH HB hw130_5 :), (cbH HB hw130_6 :), (cbH HB hw130_7 :), (cbH HB hw130_8 :)⟩ (fun hHeld => ?_); refine with_tabW spec_AreArticles.tab4 spec_AreArticles.bits4 (fun HT_ HW_ => ?_)
          generalize wr.drew = w11 at HB hx127_0 hx127_1 hx127_2 hx127_3 hx127_4 hx127_5 hx127_6 hx127_7 hx127_8 hx129_0 hx129_1 hx129_2 hx129_3 hx129_4 hx129_5 hx129_6 hx129_7 hx129_8 hx130_0 hx130_1 hx130_2 hx130_3 hx130_4 hx130_5 hx130_6 hx130_7 hx130_8 hHeld ⊢
          refine pureZ HT_ 0 (some 10) (bT 24 1) ?_
          refine pureZ HT_ 1 (some 11) (bT 24 2) ?_
          refine pureZ HT_ 2 (some 12) (bT 24 3) ?_
          refine take_ (i := 3) (N := some 13) (v := ?_) (a' := ?_) (bT 24 4) rfl rfl (take_ofW HT_.out HW_.out Zj) (fun _ _ _ h => h) (Or.inl ⟨by rfl, ?_⟩) hHeld ?_ ?_
          rotate_left
          ·rintro w' ⟨s0, s1, s2, s3, s4, s5, s6, s7, s8, s9, s10, s11, s12, s13, s14, s15, s16, s17, s18, s19, s20, s21, s22, s23, s24, s25, s26⟩
           go_simp
           with_reducible rfl
          rotate_left
          ·exact Zput
          refine one_ (i := 4) (N := some 14) (bT 24 5) rfl rfl (one_of HT_.out Zj) (by decide) (fun K hK => ?_)
          refine goes_ Try.func127 Zj rfl #[.agg #[.string ((rd_T92 l0 x3_1).f0), .int .i64 ((rd_T92 l0 x3_1).f1), .int .i64 ((rd_T92 l0 x3_1).f2), .int .i64 ((rd_T92 l0 x3_1).f3), .int .i64 ((rd_T92 l0 x3_1).f4), .int .i64 ((rd_T92 l0 x3_1).f5), .int .i64 ((rd_T92 l0 x3_1).f6), .int .i64 ((rd_T92 l0 x3_1).f7), .int .i64 ((rd_T92 l0 x3_1).f8)]] (by rfl) rfl rfl Zo ?_
          with_reducible refine (spec_IsArticle.calls k1 ((rd_T92 l0 x3_1).f0) ((rd_T92 l0 x3_1).f1) ((rd_T92 l0 x3_1).f2) ((rd_T92 l0 x3_1).f3) ((rd_T92 l0 x3_1).f4) ((rd_T92 l0 x3_1).f5) ((rd_T92 l0 x3_1).f6) ((rd_T92 l0 x3_1).f7) ((rd_T92 l0 x3_1).f8) true _ A4.out).mono ?_
          rintro e w12 ⟨rfl, hb⟩
          refine ⟨_, rfl, ?_⟩
          have n0_ := Aside0.mk (below_step Zc hb)
          clear HB
          have HB := n0_
          clear n0_
          (try clear hb)
          (try clear hb2)
          (try clear hk)
          (try clear hi)
          refine hK.out _ _ ⟨(cbH HB hw127_0 :), (cbH HB hw127_1 :), (cbH HB hw127_2 :), (cbH HB hw127_3 :), (cbH HB hw127_4 :), (cbH HB hw127_5 :), (cbH HB hw127_6 :), (cbH HB hw127_7 :), (cbH HB hw127_8 :), (cbH HB hw129_0 :), (cbH HB hw129_1 :), (cbH HB hw129_2 :), (cbH HB hw129_3 :), (cbH HB hw129_4 :), (cbH HB hw129_5 :), (cbH HB hw129_6 :), (cbH HB hw129_7 :), (cbH HB hw129_8 :), (cbH HB hw130_0 :), (cbH HB hw130_1 :), (cbH HB hw130_2 :), (cbH HB hw130_3 :), (cbH HB hw130_4 :), (cbH HB hw130_5 :), (cbH HB hw130_6 :), (cbH HB hw130_7 :), (cbH HB hw130_8 :)⟩ (fun hHeld => ?_)
          clear hK K
          refine norm_ (a' := ?_) ?_ ?_
          rotate_left
          ·show Act.put _ (some 14) _ = _
           simp only [Act.put, List.setIfInBounds_toArray, List.set_cons_zero, List.set_cons_succ, i64_w, i32_w]
           rfl
          refine pureZ HT_ 5 (some 15) (bT 24 6) ?_
          refine pureZ HT_ 6 (some 16) (bT 24 7) ?_
          refine pureZ HT_ 7 (some 17) (bT 24 8) ?_
          refine pureZ HT_ 8 (some 18) (bT 24 9) ?_
          refine pureZ HT_ 9 (some 19) (bT 24 10) ?_
          refine pureZ HT_ 10 (some 20) (bT 24 11) ?_
          refine pureZ HT_ 11 (some 21) (bT 24 12) ?_
          refine pureZ HT_ 12 (some 22) (bT 24 13) ?_
          refine pureZ HT_ 13 (some 23) (bT 24 14) ?_
          refine pureZ HT_ 14 (some 24) (bT 24 15) ?_
          refine pureZ HT_ 16 (some 26) #[true, true, true, true, true, true, true, true, true, true, true, true, true, true, true, false, true, false, false, false, false, false, false, false] ?_
          refine pureZ HT_ 17 (some 27) #[true, true, true, true, true, true, true, true, true, true, true, true, true, true, true, false, true, true, false, false, false, false, false, false] ?_
          refine pureZ HT_ 18 (some 28) #[true, true, true, true, true, true, true, true, true, true, true, true, true, true, true, false, true, true, true, false, false, false, false, false] ?_
          refine pureZ HT_ 19 (some 29) #[true, true, true, true, true, true, true, true, true, true, true, true, true, true, true, false, true, true, true, true, false, false, false, false] ?_
          refine take_ (i := 15) (N := some 25) (v := ?_) (a' := ?_) (bT 24 20) rfl rfl (take_ofW HT_.out HW_.out Zj) (fun _ _ _ h => h) (Or.inl ⟨by rfl, ?_⟩) hHeld ?_ ?_
          rotate_left
          ·rintro w' ⟨s0, s1, s2, s3, s4, s5, s6, s7, s8, s9, s10, s11, s12, s13, s14, s15, s16, s17, s18, s19, s20, s21, s22, s23, s24, s25, s26⟩
           go_simp
           with_reducible rfl
          rotate_left
          ·exact Zput
          refine take_ (i := 20) (N := some 30) (v := ?_) (a' := ?_) (bT 24 21) rfl rfl (take_ofW HT_.out HW_.out Zj) (fun _ _ _ h => h) (Or.inl ⟨by rfl, ?_⟩) hHeld ?_ ?_
          rotate_left
          ·rintro w' ⟨s0, s1, s2, s3, s4, s5, s6, s7, s8, s9, s10, s11, s12, s13, s14, s15, s16, s17, s18, s19, s20, s21, s22, s23, s24, s25, s26⟩
           go_simp
           with_reducible rfl
          rotate_left
          ·exact Zput
          refine pureZ HT_ 21 (some 31) (bT 24 22) ?_
          refine pureZ HT_ 22 (some 32) (bT 24 23) ?_
          refine pureZ HT_ 23 (some 33) (bT 24 24) ?_
          refine done_ (done_of HT_.out Zj) ?_
          try go_wp2
          go_roundg k1
          case measure => have := HK1.out; omega
          case rel => exact ⟨(wrap64 (x3_1 + 1)), Za, H', ⟨Zt⟩, ⟨Zc⟩⟩
         ·rw [if_neg c10] at H
          have c10b0 : (Op.bytesLess (((rd_T92 l0 (ji7)).f0).toList) (((rd_T92 l0 x3_1).f0).toList)) = false := by simpa using c10
          clear c10
          obtain rfl := Option.some.inj H
          try go_wp2
          have n0_ := Aside0.mk (below_drew1 HB.out)
          clear HB
          have HB := n0_
          clear n0_
          have p127 : 0 ≤ (x3_1 : Int) := of_decide_eq_true Zp
          have q127 : x3_1 < (l0.length : Int) := of_decide_eq_true Zp
          obtain ⟨ad127, e127, hx127_0, hx127_1, hx127_2, hx127_3, hx127_4, hx127_5, hx127_6, hx127_7, hx127_8⟩ := at_T92 HR0.out x3_1 p127 q127
          have hw127_8 := hx127_8
          have hw127_7 := hx127_7
          have hw127_6 := hx127_6
          have hw127_5 := hx127_5
          have hw127_4 := hx127_4
          have hw127_3 := hx127_3
          have hw127_2 := hx127_2
          have hw127_1 := hx127_1
          have hw127_0 := hx127_0
          cases e127
          replace hx127_0 := cbH HB hx127_0
          replace hx127_1 := cbH HB hx127_1
          replace hx127_2 := cbH HB hx127_2
          replace hx127_3 := cbH HB hx127_3
          replace hx127_4 := cbH HB hx127_4
          replace hx127_5 := cbH HB hx127_5
          replace hx127_6 := cbH HB hx127_6
          replace hx127_7 := cbH HB hx127_7
          replace hx127_8 := cbH HB hx127_8
          replace p127 := eq_true p127
          replace q127 := eq_true q127
          have p129 : 0 ≤ ((ji7) : Int) := of_decide_eq_true Zp
          have q129 : (ji7) < (l0.length : Int) := of_decide_eq_true Zp
          obtain ⟨ad129, e129, hx129_0, hx129_1, hx129_2, hx129_3, hx129_4, hx129_5, hx129_6, hx129_7, hx129_8⟩ := at_T92 HR0.out (ji7) p129 q129
          have hw129_8 := hx129_8
          have hw129_7 := hx129_7
          have hw129_6 := hx129_6
          have hw129_5 := hx129_5
          have hw129_4 := hx129_4
          have hw129_3 := hx129_3
          have hw129_2 := hx129_2
          have hw129_1 := hx129_1
          have hw129_0 := hx129_0
          obtain rfl : ad127 = ad129 := (by injection e129)
          replace hx129_0 := cbH HB hx129_0
          replace hx129_1 := cbH HB hx129_1
          replace hx129_2 := cbH HB hx129_2
          replace hx129_3 := cbH HB hx129_3
          replace hx129_4 := cbH HB hx129_4
          replace hx129_5 := cbH HB hx129_5
          replace hx129_6 := cbH HB hx129_6
          replace hx129_7 := cbH HB hx129_7
          replace hx129_8 := cbH HB hx129_8
          replace p129 := eq_true p129
          replace q129 := eq_true q129
          have p130 : 0 ≤ (x3_1 : Int) := of_decide_eq_true Zp
          have q130 : x3_1 < (l0.length : Int) := of_decide_eq_true Zp
          obtain ⟨ad130, e130, hx130_0, hx130_1, hx130_2, hx130_3, hx130_4, hx130_5, hx130_6, hx130_7, hx130_8⟩ := at_T92 HR0.out x3_1 p130 q130
          have hw130_8 := hx130_8
          have hw130_7 := hx130_7
          have hw130_6 := hx130_6
          have hw130_5 := hx130_5
          have hw130_4 := hx130_4
          have hw130_3 := hx130_3
          have hw130_2 := hx130_2
          have hw130_1 := hx130_1
          have hw130_0 := hx130_0
          obtain rfl : ad127 = ad130 := (by injection e130)
          replace hx130_0 := cbH HB hx130_0
          replace hx130_1 := cbH HB hx130_1
          replace hx130_2 := cbH HB hx130_2
          replace hx130_3 := cbH HB hx130_3
          replace hx130_4 := cbH HB hx130_4
          replace hx130_5 := cbH HB hx130_5
          replace hx130_6 := cbH HB hx130_6
          replace hx130_7 := cbH HB hx130_7
          replace hx130_8 := cbH HB hx130_8
          replace p130 := eq_true p130
          replace q130 := eq_true q130
          refine start_ (n := 24) (S := fun w' => w'.cell? (ad127.add ((x3_1).toNat * 9)) = some (.string ((rd_T92 l0 x3_1).f0)) ∧ w'.cell? ⟨(ad127.add ((x3_1).toNat * 9)).block, (ad127.add ((x3_1).toNat * 9)).off + 1, none⟩ = some (.int .i64 ((rd_T92 l0 x3_1).f1)) ∧ w'.cell? ⟨(ad127.add ((x3_1).toNat * 9)).block, (ad127.add ((x3_1).toNat * 9)).off + 2, none⟩ = some (.int .i64 ((rd_T92 l0 x3_1).f2)) ∧ w'.cell? ⟨(ad127.add ((x3_1).toNat * 9)).block, (ad127.add ((x3_1).toNat * 9)).off + 3, none⟩ = some (.int .i64 ((rd_T92 l0 x3_1).f3)) ∧ w'.cell? ⟨(ad127.add ((x3_1).toNat * 9)).block, (ad127.add ((x3_1).toNat * 9)).off + 4, none⟩ = some (.int .i64 ((rd_T92 l0 x3_1).f4)) ∧ w'.cell? ⟨(ad127.add ((x3_1).toNat * 9)).block, (ad127.add ((x3_1).toNat * 9)).off + 5, none⟩ = some (.int .i64 ((rd_T92 l0 x3_1).f5)) ∧ w'.cell? ⟨(ad127.add ((x3_1).toNat * 9)).block, (ad127.add ((x3_1).toNat * 9)).off + 6, none⟩ = some (.int .i64 ((rd_T92 l0 x3_1).f6)) ∧ w'.cell? ⟨(ad127.add ((x3_1).toNat * 9)).block, (ad127.add ((x3_1).toNat * 9)).off + 7, none⟩ = some (.int .i64 ((rd_T92 l0 x3_1).f7)) ∧ w'.cell? ⟨(ad127.add ((x3_1).toNat * 9)).block, (ad127.add ((x3_1).toNat * 9)).off + 8, none⟩ = some (.int .i64 ((rd_T92 l0 x3_1).f8)) ∧ w'.cell? (ad127.add (((ji7)).toNat * 9)) = some (.string ((rd_T92 l0 (ji7)).f0)) ∧ w'.cell? ⟨(ad127.add (((ji7)).toNat * 9)).block, (ad127.add (((ji7)).toNat * 9)).off + 1, none⟩ = some (.int .i64 ((rd_T92 l0 (ji7)).f1)) ∧ w'.cell? ⟨(ad127.add (((ji7)).toNat * 9)).block, (ad127.add (((ji7)).toNat * 9)).off + 2, none⟩ = some (.int .i64 ((rd_T92 l0 (ji7)).f2)) ∧ w'.cell? ⟨(ad127.add (((ji7)).toNat * 9)).block, (ad127.add (((ji7)).toNat * 9)).off + 3, none⟩ = some (.int .i64 ((rd_T92 l0 (ji7)).f3)) ∧ w'.cell? ⟨(ad127.add (((ji7)).toNat * 9)).block, (ad127.add (((ji7)).toNat * 9)).off + 4, none⟩ = some (.int .i64 ((rd_T92 l0 (ji7)).f4)) ∧ w'.cell? ⟨(ad127.add (((ji7)).toNat * 9)).block, (ad127.add (((ji7)).toNat * 9)).off + 5, none⟩ = some (.int .i64 ((rd_T92 l0 (ji7)).f5)) ∧ w'.cell? ⟨(ad127.add (((ji7)).toNat * 9)).block, (ad127.add (((ji7)).toNat * 9)).off + 6, none⟩ = some (.int .i64 ((rd_T92 l0 (ji7)).f6)) ∧ w'.cell? ⟨(ad127.add (((ji7)).toNat * 9)).block, (ad127.add (((ji7)).toNat * 9)).off + 7, none⟩ = some (.int .i64 ((rd_T92 l0 (ji7)).f7)) ∧ w'.cell? ⟨(ad127.add (((ji7)).toNat * 9)).block, (ad127.add (((ji7)).toNat * 9)).off + 8, none⟩ = some (.int .i64 ((rd_T92 l0 (ji7)).f8)) ∧ w'.cell? (ad127.add ((x3_1).toNat * 9)) = some (.string ((rd_T92 l0 x3_1).f0)) ∧ w'.cell? ⟨(ad127.add ((x3_1).toNat * 9)).block, (ad127.add ((x3_1).toNat * 9)).off + 1, none⟩ = some (.int .i64 ((rd_T92 l0 x3_1).f1)) ∧ w'.cell? ⟨(ad127.add ((x3_1).toNat * 9)).block, (ad127.add ((x3_1).toNat * 9)).off + 2, none⟩ = some (.int .i64 ((rd_T92 l0 x3_1).f2)) ∧ w'.cell? ⟨(ad127.add ((x3_1).toNat * 9)).block, (ad127.add ((x3_1).toNat * 9)).off + 3, none⟩ = some (.int .i64 ((rd_T92 l0 x3_1).f3)) ∧ w'.cell? ⟨(ad127.add ((x3_1).toNat * 9)).block, (ad127.add ((x3_1).toNat * 9)).off + 4, none⟩ = some (.int .i64 ((rd_T92 l0 x3_1).f4)) ∧ w'.cell? ⟨(ad127.add ((x3_1).toNat * 9)).block, (ad127.add ((x3_1).toNat * 9)).off + 5, none⟩ = some (.int .i64 ((rd_T92 l0 x3_1).f5)) ∧ w'.cell? ⟨(ad127.add ((x3_1).toNat * 9)).block, (ad127.add ((x3_1).toNat * 9)).off + 6, none⟩ = some (.int .i64 ((rd_T92 l0 x3_1).f6)) ∧ w'.cell? ⟨(ad127.add ((x3_1).toNat * 9)).block, (ad127.add ((x3_1).toNat * 9)).off + 7, none⟩ = some (.int .i64 ((rd_T92 l0 x3_1).f7)) ∧ w'.cell? ⟨(ad127.add ((x3_1).toNat * 9)).block, (ad127.add ((x3_1).toNat * 9)).off + 8, none⟩ = some (.int .i64 ((rd_T92 l0 x3_1).f8))) (ds := []) (bT 24 0) Zj rfl rfl ⟨(cbH HB hw127_0 :), (cbH HB hw127_1 :), (cbH HB hw127_2 :), (cbH HB hw127_3 :), (cbH HB hw127_4 :), (cbH HB hw127_5 :), (cbH HB hw127_6 :), (cbH HB hw127_7 :), (cbH HB hw127_8 :), (cbH HB hw129_0 :), (cbH HB hw129_1 :), (cbH HB hw129_2 :), (cbH HB hw129_3 :), (cbH HB hw129_4 :), (cbH HB hw129_5 :), (cbH HB hw129_6 :), (cbH HB hw129_7 :), (cbH HB hw129_8 :), (cbH HB hw130_0 :), (cbH HB hw130_1 :), (cbH HB hw130_2 :), (cbH HB hw130_3 :), (cbH HB hw130_4 :), (cbH HB hw130_5 :), (cbH HB hw130_6 :), (cbH HB hw130_7 :), (cbH HB hw130_8 :)⟩ (fun hHeld => ?_); refine with_tabW spec_AreArticles.tab4 spec_AreArticles.bits4 (fun HT_ HW_ => ?_)
          generalize wr.drew = w13 at HB hx127_0 hx127_1 hx127_2 hx127_3 hx127_4 hx127_5 hx127_6 hx127_7 hx127_8 hx129_0 hx129_1 hx129_2 hx129_3 hx129_4 hx129_5 hx129_6 hx129_7 hx129_8 hx130_0 hx130_1 hx130_2 hx130_3 hx130_4 hx130_5 hx130_6 hx130_7 hx130_8 hHeld ⊢
          refine pureZ HT_ 0 (some 10) (bT 24 1) ?_
          refine pureZ HT_ 1 (some 11) (bT 24 2) ?_
          refine pureZ HT_ 2 (some 12) (bT 24 3) ?_
          refine take_ (i := 3) (N := some 13) (v := ?_) (a' := ?_) (bT 24 4) rfl rfl (take_ofW HT_.out HW_.out Zj) (fun _ _ _ h => h) (Or.inl ⟨by rfl, ?_⟩) hHeld ?_ ?_
          rotate_left
          ·rintro w' ⟨s0, s1, s2, s3, s4, s5, s6, s7, s8, s9, s10, s11, s12, s13, s14, s15, s16, s17, s18, s19, s20, s21, s22, s23, s24, s25, s26⟩
           go_simp
           with_reducible rfl
          rotate_left
          ·exact Zput
          refine one_ (i := 4) (N := some 14) (bT 24 5) rfl rfl (one_of HT_.out Zj) (by decide) (fun K hK => ?_)
          refine goes_ Try.func127 Zj rfl #[.agg #[.string ((rd_T92 l0 x3_1).f0), .int .i64 ((rd_T92 l0 x3_1).f1), .int .i64 ((rd_T92 l0 x3_1).f2), .int .i64 ((rd_T92 l0 x3_1).f3), .int .i64 ((rd_T92 l0 x3_1).f4), .int .i64 ((rd_T92 l0 x3_1).f5), .int .i64 ((rd_T92 l0 x3_1).f6), .int .i64 ((rd_T92 l0 x3_1).f7), .int .i64 ((rd_T92 l0 x3_1).f8)]] (by rfl) rfl rfl Zo ?_
          with_reducible refine (spec_IsArticle.calls k1 ((rd_T92 l0 x3_1).f0) ((rd_T92 l0 x3_1).f1) ((rd_T92 l0 x3_1).f2) ((rd_T92 l0 x3_1).f3) ((rd_T92 l0 x3_1).f4) ((rd_T92 l0 x3_1).f5) ((rd_T92 l0 x3_1).f6) ((rd_T92 l0 x3_1).f7) ((rd_T92 l0 x3_1).f8) true _ A4.out).mono ?_
          rintro e w14 ⟨rfl, hb⟩
          refine ⟨_, rfl, ?_⟩
          have n0_ := Aside0.mk (below_step Zc hb)
          clear HB
          have HB := n0_
          clear n0_
          (try clear hb)
          (try clear hb2)
          (try clear hk)
          (try clear hi)
          refine hK.out _ _ ⟨(cbH HB hw127_0 :), (cbH HB hw127_1 :), (cbH HB hw127_2 :), (cbH HB hw127_3 :), (cbH HB hw127_4 :), (cbH HB hw127_5 :), (cbH HB hw127_6 :), (cbH HB hw127_7 :), (cbH HB hw127_8 :), (cbH HB hw129_0 :), (cbH HB hw129_1 :), (cbH HB hw129_2 :), (cbH HB hw129_3 :), (cbH HB hw129_4 :), (cbH HB hw129_5 :), (cbH HB hw129_6 :), (cbH HB hw129_7 :), (cbH HB hw129_8 :), (cbH HB hw130_0 :), (cbH HB hw130_1 :), (cbH HB hw130_2 :), (cbH HB hw130_3 :), (cbH HB hw130_4 :), (cbH HB hw130_5 :), (cbH HB hw130_6 :), (cbH HB hw130_7 :), (cbH HB hw130_8 :)⟩ (fun hHeld => ?_)
          clear hK K
          refine norm_ (a' := ?_) ?_ ?_
          rotate_left
          ·show Act.put _ (some 14) _ = _
           simp only [Act.put, List.setIfInBounds_toArray, List.set_cons_zero, List.set_cons_succ, i64_w, i32_w]
           rfl
          refine pureZ HT_ 5 (some 15) (bT 24 6) ?_
          refine pureZ HT_ 6 (some 16) (bT 24 7) ?_
          refine pureZ HT_ 7 (some 17) (bT 24 8) ?_
          refine pureZ HT_ 8 (some 18) (bT 24 9) ?_
          refine pureZ HT_ 9 (some 19) (bT 24 10) ?_
          refine pureZ HT_ 10 (some 20) (bT 24 11) ?_
          refine pureZ HT_ 11 (some 21) (bT 24 12) ?_
          refine pureZ HT_ 12 (some 22) (bT 24 13) ?_
          refine pureZ HT_ 13 (some 23) (bT 24 14) ?_
          refine pureZ HT_ 14 (some 24) (bT 24 15) ?_
          refine pureZ HT_ 16 (some 26) #[true, true, true, true, true, true, true, true, true, true, true, true, true, true, true, false, true, false, false, false, false, false, false, false] ?_
          refine pureZ HT_ 17 (some 27) #[true, true, true, true, true, true, true, true, true, true, true, true, true, true, true, false, true, true, false, false, false, false, false, false] ?_
          refine pureZ HT_ 18 (some 28) #[true, true, true, true, true, true, true, true, true, true, true, true, true, true, true, false, true, true, true, false, false, false, false, false] ?_
          refine pureZ HT_ 19 (some 29) #[true, true, true, true, true, true, true, true, true, true, true, true, true, true, true, false, true, true, true, true, false, false, false, false] ?_
          refine take_ (i := 15) (N := some 25) (v := ?_) (a' := ?_) (bT 24 20) rfl rfl (take_ofW HT_.out HW_.out Zj) (fun _ _ _ h => h) (Or.inl ⟨by rfl, ?_⟩) hHeld ?_ ?_
          rotate_left
          ·rintro w' ⟨s0, s1, s2, s3, s4, s5, s6, s7, s8, s9, s10, s11, s12, s13, s14, s15, s16, s17, s18, s19, s20, s21, s22, s23, s24, s25, s26⟩
           go_simp
           with_reducible rfl
          rotate_left
          ·exact Zput
          refine take_ (i := 20) (N := some 30) (v := ?_) (a' := ?_) (bT 24 21) rfl rfl (take_ofW HT_.out HW_.out Zj) (fun _ _ _ h => h) (Or.inl ⟨by rfl, ?_⟩) hHeld ?_ ?_
          rotate_left
          ·rintro w' ⟨s0, s1, s2, s3, s4, s5, s6, s7, s8, s9, s10, s11, s12, s13, s14, s15, s16, s17, s18, s19, s20, s21, s22, s23, s24, s25, s26⟩
           go_simp
           with_reducible rfl
          rotate_left
          ·exact Zput
          refine pureZ HT_ 21 (some 31) (bT 24 22) ?_
          refine pureZ HT_ 22 (some 32) (bT 24 23) ?_
          refine pureZ HT_ 23 (some 33) (bT 24 24) ?_
          refine done_ (done_of HT_.out Zj) ?_
          try go_wp2
          go_ret
          exact ⟨Zs, Zc⟩
        ·rw [if_neg c9] at H
         exact absurd H (by simp)
       ·rw [if_neg c8] at H
        exact absurd H (by simp)
      ·rw [if_neg c6] at H
       have c6b0 : decide (0 < x3_1) = false := decide_eq_false c6
       clear c6
       have H' := Aside0.mk H
       clear H
       try go_wp2
       have n0_ := Aside0.mk (below_drew1 HB.out)
       clear HB
       have HB := n0_
       clear n0_
       have p127 : 0 ≤ (x3_1 : Int) := of_decide_eq_true Zp
       have q127 : x3_1 < (l0.length : Int) := of_decide_eq_true Zp
       obtain ⟨ad127, e127, hx127_0, hx127_1, hx127_2, hx127_3, hx127_4, hx127_5, hx127_6, hx127_7, hx127_8⟩ := at_T92 HR0.out x3_1 p127 q127
       have hw127_8 := hx127_8
       have hw127_7 := hx127_7
       have hw127_6 := hx127_6
       have hw127_5 := hx127_5
       have hw127_4 := hx127_4
       have hw127_3 := hx127_3
       have hw127_2 := hx127_2
       have hw127_1 := hx127_1
       have hw127_0 := hx127_0
       cases e127
       replace hx127_0 := cbH HB hx127_0
       replace hx127_1 := cbH HB hx127_1
       replace hx127_2 := cbH HB hx127_2
       replace hx127_3 := cbH HB hx127_3
       replace hx127_4 := cbH HB hx127_4
       replace hx127_5 := cbH HB hx127_5
       replace hx127_6 := cbH HB hx127_6
       replace hx127_7 := cbH HB hx127_7
       replace hx127_8 := cbH HB hx127_8
       replace p127 := eq_true p127
       replace q127 := eq_true q127
       refine start_ (n := 24) (S := fun w' => w'.cell? (ad127.add ((x3_1).toNat * 9)) = some (.string ((rd_T92 l0 x3_1).f0)) ∧ w'.cell? ⟨(ad127.add ((x3_1).toNat * 9)).block, (ad127.add ((x3_1).toNat * 9)).off + 1, none⟩ = some (.int .i64 ((rd_T92 l0 x3_1).f1)) ∧ w'.cell? ⟨(ad127.add ((x3_1).toNat * 9)).block, (ad127.add ((x3_1).toNat * 9)).off + 2, none⟩ = some (.int .i64 ((rd_T92 l0 x3_1).f2)) ∧ w'.cell? ⟨(ad127.add ((x3_1).toNat * 9)).block, (ad127.add ((x3_1).toNat * 9)).off + 3, none⟩ = some (.int .i64 ((rd_T92 l0 x3_1).f3)) ∧ w'.cell? ⟨(ad127.add ((x3_1).toNat * 9)).block, (ad127.add ((x3_1).toNat * 9)).off + 4, none⟩ = some (.int .i64 ((rd_T92 l0 x3_1).f4)) ∧ w'.cell? ⟨(ad127.add ((x3_1).toNat * 9)).block, (ad127.add ((x3_1).toNat * 9)).off + 5, none⟩ = some (.int .i64 ((rd_T92 l0 x3_1).f5)) ∧ w'.cell? ⟨(ad127.add ((x3_1).toNat * 9)).block, (ad127.add ((x3_1).toNat * 9)).off + 6, none⟩ = some (.int .i64 ((rd_T92 l0 x3_1).f6)) ∧ w'.cell? ⟨(ad127.add ((x3_1).toNat * 9)).block, (ad127.add ((x3_1).toNat * 9)).off + 7, none⟩ = some (.int .i64 ((rd_T92 l0 x3_1).f7)) ∧ w'.cell? ⟨(ad127.add ((x3_1).toNat * 9)).block, (ad127.add ((x3_1).toNat * 9)).off + 8, none⟩ = some (.int .i64 ((rd_T92 l0 x3_1).f8))) (ds := []) (bT 24 0) Zj rfl rfl ⟨(cbH HB hw127_0 :), (cbH HB hw127_1 :), (cbH HB hw127_2 :), (cbH HB hw127_3 :), (cbH HB hw127_4 :), (cbH HB hw127_5 :), (cbH HB hw127_6 :), (cbH HB hw127_7 :), (cbH HB hw127_8 :)⟩ (fun hHeld => ?_); refine with_tabW spec_AreArticles.tab4 spec_AreArticles.bits4 (fun HT_ HW_ => ?_)
       generalize wr.drew = w15 at HB hx127_0 hx127_1 hx127_2 hx127_3 hx127_4 hx127_5 hx127_6 hx127_7 hx127_8 hHeld ⊢
       refine pureZ HT_ 0 (some 10) (bT 24 1) ?_
       refine pureZ HT_ 1 (some 11) (bT 24 2) ?_
       refine pureZ HT_ 2 (some 12) (bT 24 3) ?_
       refine take_ (i := 3) (N := some 13) (v := ?_) (a' := ?_) (bT 24 4) rfl rfl (take_ofW HT_.out HW_.out Zj) (fun _ _ _ h => h) (Or.inl ⟨by rfl, ?_⟩) hHeld ?_ ?_
       rotate_left
       ·rintro w' ⟨s0, s1, s2, s3, s4, s5, s6, s7, s8⟩
        go_simp
        with_reducible rfl
       rotate_left
       ·exact Zput
       refine one_ (i := 4) (N := some 14) (bT 24 5) rfl rfl (one_of HT_.out Zj) (by decide) (fun K hK => ?_)
       refine goes_ Try.func127 Zj rfl #[.agg #[.string ((rd_T92 l0 x3_1).f0), .int .i64 ((rd_T92 l0 x3_1).f1), .int .i64 ((rd_T92 l0 x3_1).f2), .int .i64 ((rd_T92 l0 x3_1).f3), .int .i64 ((rd_T92 l0 x3_1).f4), .int .i64 ((rd_T92 l0 x3_1).f5), .int .i64 ((rd_T92 l0 x3_1).f6), .int .i64 ((rd_T92 l0 x3_1).f7), .int .i64 ((rd_T92 l0 x3_1).f8)]] (by rfl) rfl rfl Zo ?_
       with_reducible refine (spec_IsArticle.calls k1 ((rd_T92 l0 x3_1).f0) ((rd_T92 l0 x3_1).f1) ((rd_T92 l0 x3_1).f2) ((rd_T92 l0 x3_1).f3) ((rd_T92 l0 x3_1).f4) ((rd_T92 l0 x3_1).f5) ((rd_T92 l0 x3_1).f6) ((rd_T92 l0 x3_1).f7) ((rd_T92 l0 x3_1).f8) true _ A4.out).mono ?_
       rintro e w16 ⟨rfl, hb⟩
       refine ⟨_, rfl, ?_⟩
       have n0_ := Aside0.mk (below_step Zc hb)
       clear HB
       have HB := n0_
       clear n0_
       (try clear hb)
       (try clear hb2)
       (try clear hk)
       (try clear hi)
       refine hK.out _ _ ⟨(cbH HB hw127_0 :), (cbH HB hw127_1 :), (cbH HB hw127_2 :), (cbH HB hw127_3 :), (cbH HB hw127_4 :), (cbH HB hw127_5 :), (cbH HB hw127_6 :), (cbH HB hw127_7 :), (cbH HB hw127_8 :)⟩ (fun hHeld => ?_)
       clear hK K
       refine norm_ (a' := ?_) ?_ ?_
       rotate_left
       ·show Act.put _ (some 14) _ = _
        simp only [Act.put, List.setIfInBounds_toArray, List.set_cons_zero, List.set_cons_succ, i64_w, i32_w]
        rfl
       refine pureZ HT_ 5 (some 15) (bT 24 6) ?_
       refine pureZ HT_ 6 (some 16) (bT 24 7) ?_
       refine pureZ HT_ 7 (some 17) (bT 24 8) ?_
       refine pureZ HT_ 8 (some 18) (bT 24 9) ?_
       refine pureZ HT_ 9 (some 19) (bT 24 10) ?_
       refine pure_ (i := 10) (N := some 20) (v := undef) (a' := ?_) (bT 24 11) rfl rfl (any_of HT_.out Zj) (fun _ _ _ h => h) (Or.inr ⟨by rfl, rfl⟩) ?_ ?_
       rotate_left
       ·exact Zput
       refine pure_ (i := 11) (N := some 21) (v := undef) (a' := ?_) (bT 24 12) rfl rfl (any_of HT_.out Zj) (fun _ _ _ h => h) (Or.inr ⟨by rfl, rfl⟩) ?_ ?_
       rotate_left
       ·exact Zput
       refine pure_ (i := 12) (N := some 22) (v := undef) (a' := ?_) (bT 24 13) rfl rfl (any_of HT_.out Zj) (fun _ _ _ h => h) (Or.inr ⟨by rfl, rfl⟩) ?_ ?_
       rotate_left
       ·exact Zput
       refine pure_ (i := 13) (N := some 23) (v := undef) (a' := ?_) (bT 24 14) rfl rfl (any_of HT_.out Zj) (fun _ _ _ h => h) (Or.inr ⟨by rfl, rfl⟩) ?_ ?_
       rotate_left
       ·exact Zput
       refine pure_ (i := 14) (N := some 24) (v := undef) (a' := ?_) (bT 24 15) rfl rfl (any_of HT_.out Zj) (fun _ _ _ h => h) (Or.inr ⟨by rfl, rfl⟩) ?_ ?_
       rotate_left
       ·exact Zput
       refine pure_ (i := 15) (N := some 25) (v := undef) (a' := ?_) (bT 24 16) rfl rfl (any_of HT_.out Zj) (fun _ _ _ h => h) (Or.inr ⟨by rfl, rfl⟩) ?_ ?_
       rotate_left
       ·exact Zput
       refine pure_ (i := 16) (N := some 26) (v := undef) (a' := ?_) (bT 24 17) rfl rfl (any_of HT_.out Zj) (fun _ _ _ h => h) (Or.inr ⟨by rfl, rfl⟩) ?_ ?_
       rotate_left
       ·exact Zput
       refine pure_ (i := 17) (N := some 27) (v := undef) (a' := ?_) (bT 24 18) rfl rfl (any_of HT_.out Zj) (fun _ _ _ h => h) (Or.inr ⟨by rfl, rfl⟩) ?_ ?_
       rotate_left
       ·exact Zput
       refine pure_ (i := 18) (N := some 28) (v := undef) (a' := ?_) (bT 24 19) rfl rfl (any_of HT_.out Zj) (fun _ _ _ h => h) (Or.inr ⟨by rfl, rfl⟩) ?_ ?_
       rotate_left
       ·exact Zput
       refine pure_ (i := 19) (N := some 29) (v := undef) (a' := ?_) (bT 24 20) rfl rfl (any_of HT_.out Zj) (fun _ _ _ h => h) (Or.inr ⟨by rfl, rfl⟩) ?_ ?_
       rotate_left
       ·exact Zput
       refine pure_ (i := 20) (N := some 30) (v := undef) (a' := ?_) (bT 24 21) rfl rfl (any_of HT_.out Zj) (fun _ _ _ h => h) (Or.inr ⟨by rfl, rfl⟩) ?_ ?_
       rotate_left
       ·exact Zput
       refine pure_ (i := 21) (N := some 31) (v := undef) (a' := ?_) (bT 24 22) rfl rfl (any_of HT_.out Zj) (fun _ _ _ h => h) (Or.inr ⟨by rfl, rfl⟩) ?_ ?_
       rotate_left
       ·exact Zput
       refine pureZ HT_ 22 (some 32) (bT 24 23) ?_
       refine pureZ HT_ 23 (some 33) (bT 24 24) ?_
       refine done_ (done_of HT_.out Zj) ?_
       try go_wp2
       go_roundg k1
       case measure => have := HK1.out; omega
       case rel => exact ⟨(wrap64 (x3_1 + 1)), Za, H', ⟨Zt⟩, ⟨Zc⟩⟩
     ·replace c5 := Bool.eq_false_iff.mpr c5
      subst c5
      have H1 : (some false) = some r := by rw [if_neg (show ¬ (false = true) by decide)] at H; exact H
      clear H
      have H := H1
      clear H1
      obtain rfl := Option.some.inj H
      try go_wp2
      have n0_ := Aside0.mk (below_drew1 HB.out)
      clear HB
      have HB := n0_
      clear n0_
      have p127 : 0 ≤ (x3_1 : Int) := of_decide_eq_true Zp
      have q127 : x3_1 < (l0.length : Int) := of_decide_eq_true Zp
      obtain ⟨ad127, e127, hx127_0, hx127_1, hx127_2, hx127_3, hx127_4, hx127_5, hx127_6, hx127_7, hx127_8⟩ := at_T92 HR0.out x3_1 p127 q127
      have hw127_8 := hx127_8
      have hw127_7 := hx127_7
      have hw127_6 := hx127_6
      have hw127_5 := hx127_5
      have hw127_4 := hx127_4
      have hw127_3 := hx127_3
      have hw127_2 := hx127_2
      have hw127_1 := hx127_1
      have hw127_0 := hx127_0
      cases e127
      replace hx127_0 := cbH HB hx127_0
      replace hx127_1 := cbH HB hx127_1
      replace hx127_2 := cbH HB hx127_2
      replace hx127_3 := cbH HB hx127_3
      replace hx127_4 := cbH HB hx127_4
      replace hx127_5 := cbH HB hx127_5
      replace hx127_6 := cbH HB hx127_6
      replace hx127_7 := cbH HB hx127_7
      replace hx127_8 := cbH HB hx127_8
      replace p127 := eq_true p127
      replace q127 := eq_true q127
      refine start_ (n := 24) (S := fun w' => w'.cell? (ad127.add ((x3_1).toNat * 9)) = some (.string ((rd_T92 l0 x3_1).f0)) ∧ w'.cell? ⟨(ad127.add ((x3_1).toNat * 9)).block, (ad127.add ((x3_1).toNat * 9)).off + 1, none⟩ = some (.int .i64 ((rd_T92 l0 x3_1).f1)) ∧ w'.cell? ⟨(ad127.add ((x3_1).toNat * 9)).block, (ad127.add ((x3_1).toNat * 9)).off + 2, none⟩ = some (.int .i64 ((rd_T92 l0 x3_1).f2)) ∧ w'.cell? ⟨(ad127.add ((x3_1).toNat * 9)).block, (ad127.add ((x3_1).toNat * 9)).off + 3, none⟩ = some (.int .i64 ((rd_T92 l0 x3_1).f3)) ∧ w'.cell? ⟨(ad127.add ((x3_1).toNat * 9)).block, (ad127.add ((x3_1).toNat * 9)).off + 4, none⟩ = some (.int .i64 ((rd_T92 l0 x3_1).f4)) ∧ w'.cell? ⟨(ad127.add ((x3_1).toNat * 9)).block, (ad127.add ((x3_1).toNat * 9)).off + 5, none⟩ = some (.int .i64 ((rd_T92 l0 x3_1).f5)) ∧ w'.cell? ⟨(ad127.add ((x3_1).toNat * 9)).block, (ad127.add ((x3_1).toNat * 9)).off + 6, none⟩ = some (.int .i64 ((rd_T92 l0 x3_1).f6)) ∧ w'.cell? ⟨(ad127.add ((x3_1).toNat * 9)).block, (ad127.add ((x3_1).toNat * 9)).off + 7, none⟩ = some (.int .i64 ((rd_T92 l0 x3_1).f7)) ∧ w'.cell? ⟨(ad127.add ((x3_1).toNat * 9)).block, (ad127.add ((x3_1).toNat * 9)).off + 8, none⟩ = some (.int .i64 ((rd_T92 l0 x3_1).f8))) (ds := []) (bT 24 0) Zj rfl rfl ⟨(cbH HB hw127_0 :), (cbH HB hw127_1 :), (cbH HB hw127_2 :), (cbH HB hw127_3 :), (cbH HB hw127_4 :), (cbH HB hw127_5 :), (cbH HB hw127_6 :), (cbH HB hw127_7 :), (cbH HB hw127_8 :)⟩ (fun hHeld => ?_); refine with_tabW spec_AreArticles.tab4 spec_AreArticles.bits4 (fun HT_ HW_ => ?_)
      generalize wr.drew = w17 at HB hx127_0 hx127_1 hx127_2 hx127_3 hx127_4 hx127_5 hx127_6 hx127_7 hx127_8 hHeld ⊢
      refine pureZ HT_ 0 (some 10) (bT 24 1) ?_
      refine pureZ HT_ 1 (some 11) (bT 24 2) ?_
      refine pureZ HT_ 2 (some 12) (bT 24 3) ?_
      refine take_ (i := 3) (N := some 13) (v := ?_) (a' := ?_) (bT 24 4) rfl rfl (take_ofW HT_.out HW_.out Zj) (fun _ _ _ h => h) (Or.inl ⟨by rfl, ?_⟩) hHeld ?_ ?_
      rotate_left
      ·rintro w' ⟨s0, s1, s2, s3, s4, s5, s6, s7, s8⟩
       go_simp
       with_reducible rfl
      rotate_left
      ·exact Zput
      refine one_ (i := 4) (N := some 14) (bT 24 5) rfl rfl (one_of HT_.out Zj) (by decide) (fun K hK => ?_)
      refine goes_ Try.func127 Zj rfl #[.agg #[.string ((rd_T92 l0 x3_1).f0), .int .i64 ((rd_T92 l0 x3_1).f1), .int .i64 ((rd_T92 l0 x3_1).f2), .int .i64 ((rd_T92 l0 x3_1).f3), .int .i64 ((rd_T92 l0 x3_1).f4), .int .i64 ((rd_T92 l0 x3_1).f5), .int .i64 ((rd_T92 l0 x3_1).f6), .int .i64 ((rd_T92 l0 x3_1).f7), .int .i64 ((rd_T92 l0 x3_1).f8)]] (by rfl) rfl rfl Zo ?_
      with_reducible refine (spec_IsArticle.calls k1 ((rd_T92 l0 x3_1).f0) ((rd_T92 l0 x3_1).f1) ((rd_T92 l0 x3_1).f2) ((rd_T92 l0 x3_1).f3) ((rd_T92 l0 x3_1).f4) ((rd_T92 l0 x3_1).f5) ((rd_T92 l0 x3_1).f6) ((rd_T92 l0 x3_1).f7) ((rd_T92 l0 x3_1).f8) false _ A4.out).mono ?_
      rintro e w18 ⟨rfl, hb⟩
      refine ⟨_, rfl, ?_⟩
      have n0_ := Aside0.mk (below_step Zc hb)
      clear HB
      have HB := n0_
      clear n0_
      (try clear hb)
      (try clear hb2)
      (try clear hk)
      (try clear hi)
      refine hK.out _ _ ⟨(cbH HB hw127_0 :), (cbH HB hw127_1 :), (cbH HB hw127_2 :), (cbH HB hw127_3 :), (cbH HB hw127_4 :), (cbH HB hw127_5 :), (cbH HB hw127_6 :), (cbH HB hw127_7 :), (cbH HB hw127_8 :)⟩ (fun hHeld => ?_)
      clear hK K
      refine norm_ (a' := ?_) ?_ ?_
      rotate_left
      ·show Act.put _ (some 14) _ = _
       simp only [Act.put, List.setIfInBounds_toArray, List.set_cons_zero, List.set_cons_succ, i64_w, i32_w]
       rfl
      refine pureZ HT_ 5 (some 15) (bT 24 6) ?_
      refine pureZ HT_ 6 (some 16) (bT 24 7) ?_
      refine pure_ (i := 7) (N := some 17) (v := undef) (a' := ?_) (bT 24 8) rfl rfl (any_of HT_.out Zj) (fun _ _ _ h => h) (Or.inr ⟨by rfl, rfl⟩) ?_ ?_
      rotate_left
      ·exact Zput
      refine pure_ (i := 8) (N := some 18) (v := undef) (a' := ?_) (bT 24 9) rfl rfl (any_of HT_.out Zj) (fun _ _ _ h => h) (Or.inr ⟨by rfl, rfl⟩) ?_ ?_
      rotate_left
      ·exact Zput
      refine pure_ (i := 9) (N := some 19) (v := undef) (a' := ?_) (bT 24 10) rfl rfl (any_of HT_.out Zj) (fun _ _ _ h => h) (Or.inr ⟨by rfl, rfl⟩) ?_ ?_
      rotate_left
      ·exact Zput
      refine pure_ (i := 10) (N := some 20) (v := undef) (a' := ?_) (bT 24 11) rfl rfl (any_of HT_.out Zj) (fun _ _ _ h => h) (Or.inr ⟨by rfl, rfl⟩) ?_ ?_
      rotate_left
      ·exact Zput
      refine pure_ (i := 11) (N := some 21) (v := undef) (a' := ?_) (bT 24 12) rfl rfl (any_of HT_.out Zj) (fun _ _ _ h => h) (Or.inr ⟨by rfl, rfl⟩) ?_ ?_
      rotate_left
      ·exact Zput
      refine pure_ (i := 12) (N := some 22) (v := undef) (a' := ?_) (bT 24 13) rfl rfl (any_of HT_.out Zj) (fun _ _ _ h => h) (Or.inr ⟨by rfl, rfl⟩) ?_ ?_
      rotate_left
      ·exact Zput
      refine pure_ (i := 13) (N := some 23) (v := undef) (a' := ?_) (bT 24 14) rfl rfl (any_of HT_.out Zj) (fun _ _ _ h => h) (Or.inr ⟨by rfl, rfl⟩) ?_ ?_
      rotate_left
      ·exact Zput
      refine pure_ (i := 14) (N := some 24) (v := undef) (a' := ?_) (bT 24 15) rfl rfl (any_of HT_.out Zj) (fun _ _ _ h => h) (Or.inr ⟨by rfl, rfl⟩) ?_ ?_
      rotate_left
      ·exact Zput
      refine pure_ (i := 15) (N := some 25) (v := undef) (a' := ?_) (bT 24 16) rfl rfl (any_of HT_.out Zj) (fun _ _ _ h => h) (Or.inr ⟨by rfl, rfl⟩) ?_ ?_
      rotate_left
      ·exact Zput
      refine pure_ (i := 16) (N := some 26) (v := undef) (a' := ?_) (bT 24 17) rfl rfl (any_of HT_.out Zj) (fun _ _ _ h => h) (Or.inr ⟨by rfl, rfl⟩) ?_ ?_
      rotate_left
      ·exact Zput
      refine pure_ (i := 17) (N := some 27) (v := undef) (a' := ?_) (bT 24 18) rfl rfl (any_of HT_.out Zj) (fun _ _ _ h => h) (Or.inr ⟨by rfl, rfl⟩) ?_ ?_
      rotate_left
      ·exact Zput
      refine pure_ (i := 18) (N := some 28) (v := undef) (a' := ?_) (bT 24 19) rfl rfl (any_of HT_.out Zj) (fun _ _ _ h => h) (Or.inr ⟨by rfl, rfl⟩) ?_ ?_
      rotate_left
      ·exact Zput
      refine pure_ (i := 19) (N := some 29) (v := undef) (a' := ?_) (bT 24 20) rfl rfl (any_of HT_.out Zj) (fun _ _ _ h => h) (Or.inr ⟨by rfl, rfl⟩) ?_ ?_
      rotate_left
      ·exact Zput
      refine pure_ (i := 20) (N := some 30) (v := undef) (a' := ?_) (bT 24 21) rfl rfl (any_of HT_.out Zj) (fun _ _ _ h => h) (Or.inr ⟨by rfl, rfl⟩) ?_ ?_
      rotate_left
      ·exact Zput
      refine pure_ (i := 21) (N := some 31) (v := undef) (a' := ?_) (bT 24 22) rfl rfl (any_of HT_.out Zj) (fun _ _ _ h => h) (Or.inr ⟨by rfl, rfl⟩) ?_ ?_
      rotate_left
      ·exact Zput
      refine pure_ (i := 22) (N := some 32) (v := undef) (a' := ?_) (bT 24 23) rfl rfl (any_of HT_.out Zj) (fun _ _ _ h => h) (Or.inr ⟨by rfl, rfl⟩) ?_ ?_
      rotate_left
      ·exact Zput
      refine pureZ HT_ 23 (some 33) (bT 24 24) ?_
      refine done_ (done_of HT_.out Zj) ?_
      try go_wp2
      go_ret
      exact ⟨Zk, Zc⟩
    ·rw [if_neg c3] at H
     exact absurd H (by simp)
   ·rw [if_neg c2] at H
    have c2b0 : decide (x3_1 < (l0.length : Int)) = false := decide_eq_false c2
    clear c2
    obtain rfl := Option.some.inj H
    go_wp2
    go_ret
    exact ⟨Zk, Zc⟩
end Go.Proofs.Ytnlbaflbhicooaa.F
namespace Go.Proofs.Ytnlbaflbhicooaa.F
open Go.RowKit Go.Proofs.YtnlbaflbhicooaaW.PrintWords Go.Proofs.YtnlbaflbhicooaaW.PrintLast Go.Proofs.YtnlbaflbhicooaaW.PrintMore
attribute [local go_sem] max2_int min2_int max_two min_two max_three min_three max_four min_four   -- for this text's walks alone
set_option linter.unusedVariables false
set_option linter.unusedSimpArgs false
def spec_l07Has.f (l0 : List (S108)) (a1 : Int) (a2 : Int) : Option (Bool) := (spec_l01In.f a1 0 (wrap64 ((l0.length : Int) - 1))).bind fun t131 => (if t131 = true then (if 0 ≤ a1 then (if a1 < (l0.length : Int) then ((spec_l01In.f a2 0 (wrap64 (((rd_T108 l0 a1).f0) - 1))).bind fun t133 => (some t133)) else (none)) else (none)) else (some false))
set_option maxHeartbeats 8000000 in
set_option maxRecDepth 100000 in
theorem spec_l07Has.calls (A0 : Option Addr) (c0 : Nat) (l0 : List (S108)) (a1 : Int) (a2 : Int) (r : Bool) (w : World) (hr0 : Kd.C k108 w A0 l0.length l0) (hc0 : l0.length ≤ c0) (h : spec_l07Has.f l0 a1 a2 = some r) :
  Calls Try.prog 93 #[.slice A0 l0.length c0, .int .i64 a1, .int .i64 a2] w fun e w' => e = .returned (.bool r) ∧ Drawn0 w w' := by
 have HR0 := Aside0.mk hr0
 have HC0 := Aside0.mk hc0
 clear hr0 hc0
 have H : ((spec_l01In.f a1 0 (wrap64 ((l0.length : Int) - 1))).bind fun t131 => (if t131 = true then (if 0 ≤ a1 then (if a1 < (l0.length : Int) then ((spec_l01In.f a2 0 (wrap64 (((rd_T108 l0 a1).f0) - 1))).bind fun t133 => (some t133)) else (none)) else (none)) else (some false))) = some r := h
 clear h
 replace H := Option.bind_eq_some_iff.mp H
 obtain ⟨t131, A40, H⟩ := H
 replace H : (if t131 = true then (if 0 ≤ a1 then (if a1 < (l0.length : Int) then ((spec_l01In.f a2 0 (wrap64 (((rd_T108 l0 a1).f0) - 1))).bind fun t133 => (some t133)) else (none)) else (none)) else (some false)) = some r := H
 have A4 := Aside0.mk A40
 clear A40
 by_cases c5 : t131 = true
 ·subst c5
  have H1 : (if 0 ≤ a1 then (if a1 < (l0.length : Int) then ((spec_l01In.f a2 0 (wrap64 (((rd_T108 l0 a1).f0) - 1))).bind fun t133 => (some t133)) else (none)) else (none)) = some r := by rw [if_pos rfl] at H; exact H
  clear H
  have H := H1
  clear H1
  by_cases c6 : 0 ≤ a1
  ·rw [if_pos c6] at H
   have c6b0 : decide (0 ≤ a1) = true := decide_eq_true c6
   clear c6
   by_cases c7 : a1 < (l0.length : Int)
   ·rw [if_pos c7] at H
    have c7b0 : decide (a1 < (l0.length : Int)) = true := decide_eq_true c7
    clear c7
    replace H := Option.bind_eq_some_iff.mp H
    obtain ⟨t133, A80, H⟩ := H
    replace H : (some t133) = some r := H
    have A8 := Aside0.mk A80
    clear A80
    obtain rfl := Option.some.inj H
    go_enter Try.func93, Try.ntmps93
    go_wp2_with (first | ((with_reducible refine gate_callee (f := 68) rfl ?_); refine goesL_ (some 11) rfl rfl Try.func68 Zj rfl #[.int .i64 a1, .int .i64 0, .int .i64 (wrap64 ((l0.length : Int) - 1))] rfl Zo ?_; (with_reducible refine (spec_l01In.calls a1 0 (wrap64 ((l0.length : Int) - 1)) true _ A4.out).mono ?_); rintro e w' ⟨rfl, ⟨nd, rfl⟩⟩; refine ⟨_, rfl, ?_⟩; have p132 : 0 ≤ (a1 : Int) := of_decide_eq_true Zp; have q132 : a1 < (l0.length : Int) := of_decide_eq_true Zp; obtain ⟨ad132, e132, hx132_0, hx132_1⟩ := at_T108 HR0.out a1 p132 q132; cases e132; replace p132 := eq_true p132; replace q132 := eq_true q132) | (go_at_call 68; (with_reducible refine (spec_l01In.calls a2 0 (wrap64 (((rd_T108 l0 a1).f0) - 1)) t133 _ A8.out).mono ?_); rintro e w' ⟨rfl, ⟨nd, rfl⟩⟩))
    go_ret
    exact ⟨Za, Zb⟩
   ·rw [if_neg c7] at H
    exact absurd H (by simp)
  ·rw [if_neg c6] at H
   exact absurd H (by simp)
 ·replace c5 := Bool.eq_false_iff.mpr c5
  subst c5
  have H1 : (some false) = some r := by rw [if_neg (show ¬ (false = true) by decide)] at H; exact H
  clear H
  have H := H1
  clear H1
  obtain rfl := Option.some.inj H
  go_enter Try.func93, Try.ntmps93
  go_wp2_with (first | ((with_reducible refine gate_callee (f := 68) rfl ?_); refine goesL_ (some 11) rfl rfl Try.func68 Zj rfl #[.int .i64 a1, .int .i64 0, .int .i64 (wrap64 ((l0.length : Int) - 1))] rfl Zo ?_; (with_reducible refine (spec_l01In.calls a1 0 (wrap64 ((l0.length : Int) - 1)) false _ A4.out).mono ?_); rintro e w' ⟨rfl, ⟨nd, rfl⟩⟩; refine ⟨_, rfl, ?_⟩))
  go_ret
  exact ⟨Za, Zb⟩
end Go.Proofs.Ytnlbaflbhicooaa.F
namespace Go.Proofs.Ytnlbaflbhicooaa.F
open Go.RowKit Go.Proofs.YtnlbaflbhicooaaW.PrintWords Go.Proofs.YtnlbaflbhicooaaW.PrintLast Go.Proofs.YtnlbaflbhicooaaW.PrintMore
attribute [local go_sem] max2_int min2_int max_two min_two max_three min_three max_four min_four   -- for this text's walks alone
set_option linter.unusedVariables false
set_option linter.unusedSimpArgs false
def spec_l03Find.l0 : Nat → List (S92) → ByteArray → Int → Option (Int)
 | 0, _, _, _ => none
 | k + 1, x0, x1, x5 => if x5 < (x0.length : Int) then (if 0 ≤ x5 then (if ((rd_T92 x0 x5).f0).toList = x1.toList then (some x5) else (spec_l03Find.l0 k x0 x1 (wrap64 (x5 + 1)))) else (none)) else (some (-1))
def spec_l03Find.f (k : Nat) (l0 : List (S92)) (a1 : ByteArray) : Option (Int) := spec_l03Find.l0 k l0 a1 0
set_option maxHeartbeats 8000000 in
set_option maxRecDepth 100000 in
theorem spec_l03Find.calls (k : Nat) (A0 : Option Addr) (c0 : Nat) (l0 : List (S92)) (a1 : ByteArray) (r : Int) (w : World) (hr0 : Kd.C k92 w A0 l0.length l0) (hc0 : l0.length ≤ c0) (h : spec_l03Find.f k l0 a1 = some r) :
  Calls Try.prog 94 #[.slice A0 l0.length c0, .string a1] w fun e w' => e = .returned (.int .i64 r) ∧ Drawn0 w w' := by
 have HR0 := Aside0.mk hr0
 have HC0 := Aside0.mk hc0
 clear hr0 hc0
 have H : (spec_l03Find.l0 k l0 a1 0) = some r := h
 clear h
 have H' := Aside0.mk H
 clear H
 go_enter Try.func94, Try.ntmps94
 go_wp2
 go_loopg [5] k (fun kq v5 w' => ∃ (x5_1 : Int), v5 = .int .i64 x5_1 ∧ Aside0 (spec_l03Find.l0 kq l0 a1 x5_1 = some r) ∧ Aside0 (kq ≤ k) ∧ Drawn0 w w')
 case atStart => exact ⟨(0), Za, H', ⟨Nat.le_refl _⟩, Zb⟩
 case round =>
  clear H'
  try clear p2
  obtain ⟨x5_1, rfl, HA, HK1, ⟨m1, rfl⟩⟩ := hrel
  cases gk with
  | zero => exact absurd HA.out (by simp [spec_l03Find.l0])
  | succ k1 =>
   have H := HA.out
   clear HA
   simp only [spec_l03Find.l0] at H
   by_cases c3 : x5_1 < (l0.length : Int)
   ·rw [if_pos c3] at H
    have c3b0 : decide (x5_1 < (l0.length : Int)) = true := decide_eq_true c3
    clear c3
    by_cases c4 : 0 ≤ x5_1
    ·rw [if_pos c4] at H
     have c4b0 : decide (0 ≤ x5_1) = true := decide_eq_true c4
     clear c4
     by_cases c5 : ((rd_T92 l0 x5_1).f0).toList = a1.toList
     ·rw [if_pos c5] at H
      have c5b0 : (((rd_T92 l0 x5_1).f0).toList == a1.toList) = true := beq_iff_eq.mpr c5
      have c5b1 : (((rd_T92 l0 x5_1).f0).toList != a1.toList) = false := bne_eq_false_iff_eq.mpr c5
      clear c5
      obtain rfl := Option.some.inj H
      have p134 : 0 ≤ (x5_1 : Int) := of_decide_eq_true Zp
      have q134 : x5_1 < (l0.length : Int) := of_decide_eq_true Zp
      obtain ⟨ad134, e134, hx134_0, hx134_1, hx134_2, hx134_3, hx134_4, hx134_5, hx134_6, hx134_7, hx134_8⟩ := at_T92 HR0.out x5_1 p134 q134
      cases e134
      replace p134 := eq_true p134
      replace q134 := eq_true q134
      go_wp2
      go_ret
      exact ⟨Za, Zb⟩
     ·rw [if_neg c5] at H
      have c5b0 : (((rd_T92 l0 x5_1).f0).toList == a1.toList) = false := beq_eq_false_iff_ne.mpr c5
      have c5b1 : (((rd_T92 l0 x5_1).f0).toList != a1.toList) = true := bne_iff_ne.mpr c5
      have H' := Aside0.mk H
      clear H
      have p134 : 0 ≤ (x5_1 : Int) := of_decide_eq_true Zp
      have q134 : x5_1 < (l0.length : Int) := of_decide_eq_true Zp
      obtain ⟨ad134, e134, hx134_0, hx134_1, hx134_2, hx134_3, hx134_4, hx134_5, hx134_6, hx134_7, hx134_8⟩ := at_T92 HR0.out x5_1 p134 q134
      cases e134
      replace p134 := eq_true p134
      replace q134 := eq_true q134
      go_wp2
      go_roundg k1
      case measure => have := HK1.out; omega
      case rel => exact ⟨(wrap64 (x5_1 + 1)), Za, H', ⟨Zt⟩, Zb⟩
    ·rw [if_neg c4] at H
     exact absurd H (by simp)
   ·rw [if_neg c3] at H
    have c3b0 : decide (x5_1 < (l0.length : Int)) = false := decide_eq_false c3
    clear c3
    obtain rfl := Option.some.inj H
    go_wp2
    go_ret
    exact ⟨Za, Zb⟩
end Go.Proofs.Ytnlbaflbhicooaa.F
namespace Go.Proofs.Ytnlbaflbhicooaa.F
open Go.RowKit Go.Proofs.YtnlbaflbhicooaaW.PrintWords Go.Proofs.YtnlbaflbhicooaaW.PrintLast Go.Proofs.YtnlbaflbhicooaaW.PrintMore
attribute [local go_sem] max2_int min2_int max_two min_two max_three min_three max_four min_four   -- for this text's walks alone
set_option linter.unusedVariables false
set_option linter.unusedSimpArgs false
def spec_l07Time.l0 : Nat → List (S108) → Int → Int → Int → Int → Option (Int)
 | 0, _, _, _, _, _ => none
 | k + 1, x0, x1, x2, x7, x8 => if x8 < x1 then (if 0 ≤ x8 then (if x8 < (x0.length : Int) then (spec_l07Time.l0 k x0 x1 x2 (wrap64 (x7 + (wrap64 (((rd_T108 x0 x8).f0) * ((rd_T108 x0 x8).f1))))) (wrap64 (x8 + 1))) else (none)) else (none)) else (if 0 ≤ x1 then (if x1 < (x0.length : Int) then (some (wrap64 (x7 + (wrap64 (x2 * ((rd_T108 x0 x1).f1)))))) else (none)) else (none))
def spec_l07Time.f (k : Nat) (l0 : List (S108)) (a1 : Int) (a2 : Int) : Option (Int) := spec_l07Time.l0 k l0 a1 a2 0 0
set_option maxHeartbeats 8000000 in
set_option maxRecDepth 100000 in
theorem spec_l07Time.calls (k : Nat) (A0 : Option Addr) (c0 : Nat) (l0 : List (S108)) (a1 : Int) (a2 : Int) (r : Int) (w : World) (hr0 : Kd.C k108 w A0 l0.length l0) (hc0 : l0.length ≤ c0) (h : spec_l07Time.f k l0 a1 a2 = some r) :
  Calls Try.prog 128 #[.slice A0 l0.length c0, .int .i64 a1, .int .i64 a2] w fun e w' => e = .returned (.int .i64 r) ∧ Drawn0 w w' := by
 have HR0 := Aside0.mk hr0
 have HC0 := Aside0.mk hc0
 clear hr0 hc0
 have H : (spec_l07Time.l0 k l0 a1 a2 0 0) = some r := h
 clear h
 have H' := Aside0.mk H
 clear H
 go_enter Try.func128, Try.ntmps128
 go_wp2
 repeat (go_quiet (fail); try go_wp2)
 go_loopg [7, 8] k (fun kq v7 v8 w' => ∃ (x7_1 : Int) (x8_1 : Int), v7 = .int .i64 x7_1 ∧ v8 = .int .i64 x8_1 ∧ Aside0 (spec_l07Time.l0 kq l0 a1 a2 x7_1 x8_1 = some r) ∧ Aside0 (kq ≤ k) ∧ Drawn0 w w')
 case atStart => exact ⟨(0), (0), Za, Za, H', ⟨Nat.le_refl _⟩, Zb⟩
 case round =>
  clear H'
  try clear c1
  try clear p2
  obtain ⟨x7_1, x8_1, rfl, rfl, HA, HK1, ⟨m1, rfl⟩⟩ := hrel
  cases gk with
  | zero => exact absurd HA.out (by simp [spec_l07Time.l0])
  | succ k1 =>
   have H := HA.out
   clear HA
   simp only [spec_l07Time.l0] at H
   by_cases c4 : x8_1 < a1
   ·rw [if_pos c4] at H
    have c4b0 : decide (x8_1 < a1) = true := decide_eq_true c4
    clear c4
    by_cases c5 : 0 ≤ x8_1
    ·rw [if_pos c5] at H
     have c5b0 : decide (0 ≤ x8_1) = true := decide_eq_true c5
     clear c5
     by_cases c6 : x8_1 < (l0.length : Int)
     ·rw [if_pos c6] at H
      have c6b0 : decide (x8_1 < (l0.length : Int)) = true := decide_eq_true c6
      clear c6
      have H' := Aside0.mk H
      clear H
      have p135 : 0 ≤ (x8_1 : Int) := of_decide_eq_true Zp
      have q135 : x8_1 < (l0.length : Int) := of_decide_eq_true Zp
      obtain ⟨ad135, e135, hx135_0, hx135_1⟩ := at_T108 HR0.out x8_1 p135 q135
      cases e135
      replace p135 := eq_true p135
      replace q135 := eq_true q135
      have p136 : 0 ≤ (x8_1 : Int) := of_decide_eq_true Zp
      have q136 : x8_1 < (l0.length : Int) := of_decide_eq_true Zp
      obtain ⟨ad136, e136, hx136_0, hx136_1⟩ := at_T108 HR0.out x8_1 p136 q136
      obtain rfl : ad135 = ad136 := (by injection e136)
      replace p136 := eq_true p136
      replace q136 := eq_true q136
      go_wp2
      repeat (go_quiet (fail); try go_wp2)
      go_roundg k1
      case measure => have := HK1.out; omega
      case rel => exact ⟨(wrap64 (x7_1 + (wrap64 (((rd_T108 l0 x8_1).f0) * ((rd_T108 l0 x8_1).f1))))), (wrap64 (x8_1 + 1)), Za, Za, H', ⟨Zt⟩, Zb⟩
     ·rw [if_neg c6] at H
      exact absurd H (by simp)
    ·rw [if_neg c5] at H
     exact absurd H (by simp)
   ·rw [if_neg c4] at H
    have c4b0 : decide (x8_1 < a1) = false := decide_eq_false c4
    clear c4
    by_cases c7 : 0 ≤ a1
    ·rw [if_pos c7] at H
     have c7b0 : decide (0 ≤ a1) = true := decide_eq_true c7
     clear c7
     by_cases c8 : a1 < (l0.length : Int)
     ·rw [if_pos c8] at H
      have c8b0 : decide (a1 < (l0.length : Int)) = true := decide_eq_true c8
      clear c8
      obtain rfl := Option.some.inj H
      have p137 : 0 ≤ (a1 : Int) := of_decide_eq_true Zp
      have q137 : a1 < (l0.length : Int) := of_decide_eq_true Zp
      obtain ⟨ad137, e137, hx137_0, hx137_1⟩ := at_T108 HR0.out a1 p137 q137
      cases e137
      replace p137 := eq_true p137
      replace q137 := eq_true q137
      go_wp2
      repeat (go_quiet (fail); try go_wp2)
      go_ret
      exact ⟨Za, Zb⟩
     ·rw [if_neg c8] at H
      exact absurd H (by simp)
    ·rw [if_neg c7] at H
     exact absurd H (by simp)
end Go.Proofs.Ytnlbaflbhicooaa.F
namespace Go.Proofs.Ytnlbaflbhicooaa.F
open Go.RowKit Go.Proofs.YtnlbaflbhicooaaW.PrintWords Go.Proofs.YtnlbaflbhicooaaW.PrintLast Go.Proofs.YtnlbaflbhicooaaW.PrintMore
attribute [local go_sem] max2_int min2_int max_two min_two max_three min_three max_four min_four   -- for this text's walks alone
set_option linter.unusedVariables false
set_option linter.unusedSimpArgs false
def spec_l08Time.f (k : Nat) (l0_0 : List (S108)) (l0_1 : List (S92)) (l0_2 : List (S43)) (a1_0 : Int) (a1_1 : Int) (a1_2 : ByteArray) (a1_3 : Int) : Option (Int) := (spec_l07Time.f k l0_0 a1_0 a1_1).bind fun t140 => ((spec_l03Find.f k l0_1 a1_2).bind fun t141 => (if 0 ≤ t141 then (if t141 < (l0_1.length : Int) then (some (wrap64 (t140 - ((rd_T92 l0_1 t141).f3)))) else (none)) else (none)))
set_option maxHeartbeats 8000000 in
set_option maxRecDepth 100000 in
theorem spec_l08Time.calls (k : Nat) (A0_0 : Option Addr) (c0_0 : Nat) (l0_0 : List (S108)) (A0_1 : Option Addr) (c0_1 : Nat) (l0_1 : List (S92)) (A0_2 : Option Addr) (c0_2 : Nat) (l0_2 : List (S43)) (a1_0 : Int) (a1_1 : Int) (a1_2 : ByteArray) (a1_3 : Int) (r : Int) (w : World) (hr0_0 : Kd.C k108 w A0_0 l0_0.length l0_0) (hc0_0 : l0_0.length ≤ c0_0) (hr0_1 : Kd.C k92 w A0_1 l0_1.length l0_1) (hc0_1 : l0_1.length ≤ c0_1) (hr0_2 : Kd.C k43 w A0_2 l0_2.length l0_2) (hc0_2 : l0_2.length ≤ c0_2) (h : spec_l08Time.f k l0_0 l0_1 l0_2 a1_0 a1_1 a1_2 a1_3 = some r) :
  Calls Try.prog 95 #[.agg #[.slice A0_0 l0_0.length c0_0, .slice A0_1 l0_1.length c0_1, .slice A0_2 l0_2.length c0_2], .agg #[.int .i64 a1_0, .int .i64 a1_1, .string a1_2, .int .i64 a1_3]] w fun e w' => e = .returned (.int .i64 r) ∧ Below w.heap.size w w' := by
 have hu32 := Try.underlying32
 have hu43 := Try.underlying43
 have HR0_0 := Aside0.mk hr0_0
 have HC0_0 := Aside0.mk hc0_0
 clear hr0_0 hc0_0
 have HR0_1 := Aside0.mk hr0_1
 have HC0_1 := Aside0.mk hc0_1
 clear hr0_1 hc0_1
 have HR0_2 := Aside0.mk hr0_2
 have HC0_2 := Aside0.mk hc0_2
 clear hr0_2 hc0_2
 have HB := Aside0.mk (Below.refl w.heap.size w)
 have H : ((spec_l07Time.f k l0_0 a1_0 a1_1).bind fun t140 => ((spec_l03Find.f k l0_1 a1_2).bind fun t141 => (if 0 ≤ t141 then (if t141 < (l0_1.length : Int) then (some (wrap64 (t140 - ((rd_T92 l0_1 t141).f3)))) else (none)) else (none)))) = some r := h
 clear h
 replace H := Option.bind_eq_some_iff.mp H
 obtain ⟨t140, A30, H⟩ := H
 replace H : ((spec_l03Find.f k l0_1 a1_2).bind fun t141 => (if 0 ≤ t141 then (if t141 < (l0_1.length : Int) then (some (wrap64 (t140 - ((rd_T92 l0_1 t141).f3)))) else (none)) else (none))) = some r := H
 have A3 := Aside0.mk A30
 clear A30
 replace H := Option.bind_eq_some_iff.mp H
 obtain ⟨t141, A40, H⟩ := H
 replace H : (if 0 ≤ t141 then (if t141 < (l0_1.length : Int) then (some (wrap64 (t140 - ((rd_T92 l0_1 t141).f3)))) else (none)) else (none)) = some r := H
 have A4 := Aside0.mk A40
 clear A40
 by_cases c5 : 0 ≤ t141
 ·rw [if_pos c5] at H
  have c5b0 : decide (0 ≤ t141) = true := decide_eq_true c5
  clear c5
  by_cases c6 : t141 < (l0_1.length : Int)
  ·rw [if_pos c6] at H
   have c6b0 : decide (t141 < (l0_1.length : Int)) = true := decide_eq_true c6
   clear c6
   obtain rfl := Option.some.inj H
   go_enter Try.func95, Try.ntmps95
   go_wp2_with (first | ((with_reducible refine gate_dst (N := 2) rfl ?_); refine box_event ?hg (N := 2) ?hd (cs := #[.slice A0_0 l0_0.length c0_0, .slice A0_1 l0_1.length c0_1, .slice A0_2 l0_2.length c0_2]) (t := 32) ?hr ?_; (case hd => rfl); (case hg => rfl); (case hr => first | (go_simp; done) | (go_simp; rfl)); intro gb138 hg w7 hbox hb; have n0_ := Aside0.mk (below_step Zc hb); have n1_ := Aside0.mk (hbox); have n2_ := Aside0.mk ((Zd : w.heap.size ≤ gb138)); have n3_ := Aside0.mk ((Zd : w.heap.size ≤ gb138)); clear HB; have HB := n0_; have BK138 := n1_; have GW138 := n2_; have GE138 := n3_; clear n0_ n1_ n2_ n3_; clear hb hbox hg) | ((with_reducible refine gate_dst (N := 3) rfl ?_); refine box_event ?hg (N := 3) ?hd (cs := #[.int .i64 a1_0, .int .i64 a1_1, .string a1_2, .int .i64 a1_3]) (t := 43) ?hr ?_; (case hd => rfl); (case hg => rfl); (case hr => first | (go_simp; done) | (go_simp; rfl)); intro gb139 hg w8 hbox hb; have n0_ := Aside0.mk (blk_below (g := gb138) (o := .cells #[.slice A0_0 l0_0.length c0_0, .slice A0_1 l0_1.length c0_1, .slice A0_2 l0_2.length c0_2] 32 (0, 0)) (have z0_ := BK138; Ze) hb); have n1_ := Aside0.mk (below_step (have z0_ := GE138; Zf) hb); have n2_ := Aside0.mk (hbox); have n3_ := Aside0.mk (((have z0_ := GE138; Zg) : w.heap.size ≤ gb139)); have n4_ := Aside0.mk (((have z0_ := GE138; Zg) : w.heap.size ≤ gb139)); have n5_ := Aside0.mk (((have z0_ := BK138; Zan) : gb138 ≠ gb139)); have n6_ := Aside0.mk (((have z0_ := BK138; Zao) : gb139 ≠ gb138)); clear BK138; clear HB; have BK138 := n0_; have HB := n1_; have BK139 := n2_; have GW139 := n3_; have GE139 := n4_; have NB138_139 := n5_; have NB139_138 := n6_; clear n0_ n1_ n2_ n3_ n4_ n5_ n6_; clear hb hbox hg; have hnb9 := NB138_139.out; have hnc9 := NB139_138.out; obtain ⟨hcz10_0, hcz10_1, hcz10_2, hfz10_0, hfz10_1, hfz10_2⟩ := cz3 BK138; obtain ⟨hcz11_0, hcz11_1, hcz11_2, hcz11_3, hfz11_0, hfz11_1, hfz11_2, hfz11_3⟩ := cz4 BK139) | (go_at_call 128; (with_reducible refine (spec_l07Time.calls k _ _ l0_0 a1_0 a1_1 t140 _ ?side1 ?side2 A3.out).mono ?_); (case side1 => repeat (first | exact (Kd.C_below HR0_0.out HB.out) | (with_reducible refine Kd.C_alloc ?_ _) | (with_reducible refine Kd.C_drewN ?_ _) | (with_reducible refine Kd.C_drew ?_))); (case side2 => exact HC0_0.out); rintro e w' ⟨rfl, ⟨nd, rfl⟩⟩; (try first | exact ⟨rfl, _, World.drewN_drewN _ _ _⟩ | exact ⟨rfl, _, Eq.trans (World.drewN_drewN _ _ _) (congrArg (World.drewN _) (Nat.add_assoc _ _ _))⟩)) | (go_at_call 94; (with_reducible refine (spec_l03Find.calls k _ _ l0_1 a1_2 t141 _ ?side1 ?side2 A4.out).mono ?_); (case side1 => repeat (first | exact (Kd.C_below HR0_1.out (have z0_ := GE138; have z1_ := GE139; Zh)) | (with_reducible refine Kd.C_alloc ?_ _) | (with_reducible refine Kd.C_drewN ?_ _) | (with_reducible refine Kd.C_drew ?_))); (case side2 => exact HC0_1.out); rintro e w' ⟨rfl, ⟨nd, rfl⟩⟩; (try first | exact ⟨rfl, _, World.drewN_drewN _ _ _⟩ | exact ⟨rfl, _, Eq.trans (World.drewN_drewN _ _ _) (congrArg (World.drewN _) (Nat.add_assoc _ _ _))⟩); have p142 : 0 ≤ (t141 : Int) := of_decide_eq_true Zp; have q142 : t141 < (l0_1.length : Int) := of_decide_eq_true Zp; obtain ⟨ad142, e142, hx142_0, hx142_1, hx142_2, hx142_3, hx142_4, hx142_5, hx142_6, hx142_7, hx142_8⟩ := at_T92 HR0_1.out t141 p142 q142; cases e142; replace hx142_0 := cbH HB hx142_0; replace hx142_1 := cbH HB hx142_1; replace hx142_2 := cbH HB hx142_2; replace hx142_3 := cbH HB hx142_3; replace hx142_4 := cbH HB hx142_4; replace hx142_5 := cbH HB hx142_5; replace hx142_6 := cbH HB hx142_6; replace hx142_7 := cbH HB hx142_7; replace hx142_8 := cbH HB hx142_8; replace p142 := eq_true p142; replace q142 := eq_true q142))
   repeat (go_quiet (first | ((with_reducible refine gate_dst (N := 2) rfl ?_); refine box_event ?hg (N := 2) ?hd (cs := #[.slice A0_0 l0_0.length c0_0, .slice A0_1 l0_1.length c0_1, .slice A0_2 l0_2.length c0_2]) (t := 32) ?hr ?_; (case hd => rfl); (case hg => rfl); (case hr => first | (go_simp; done) | (go_simp; rfl)); intro gb138 hg w7 hbox hb; have n0_ := Aside0.mk (below_step Zc hb); have n1_ := Aside0.mk (hbox); have n2_ := Aside0.mk ((Zd : w.heap.size ≤ gb138)); have n3_ := Aside0.mk ((Zd : w.heap.size ≤ gb138)); clear HB; have HB := n0_; have BK138 := n1_; have GW138 := n2_; have GE138 := n3_; clear n0_ n1_ n2_ n3_; clear hb hbox hg) | ((with_reducible refine gate_dst (N := 3) rfl ?_); refine box_event ?hg (N := 3) ?hd (cs := #[.int .i64 a1_0, .int .i64 a1_1, .string a1_2, .int .i64 a1_3]) (t := 43) ?hr ?_; (case hd => rfl); (case hg => rfl); (case hr => first | (go_simp; done) | (go_simp; rfl)); intro gb139 hg w8 hbox hb; have n0_ := Aside0.mk (blk_below (g := gb138) (o := .cells #[.slice A0_0 l0_0.length c0_0, .slice A0_1 l0_1.length c0_1, .slice A0_2 l0_2.length c0_2] 32 (0, 0)) (have z0_ := BK138; Ze) hb); have n1_ := Aside0.mk (below_step (have z0_ := GE138; Zf) hb); have n2_ := Aside0.mk (hbox); have n3_ := Aside0.mk (((have z0_ := GE138; Zg) : w.heap.size ≤ gb139)); have n4_ := Aside0.mk (((have z0_ := GE138; Zg) : w.heap.size ≤ gb139)); have n5_ := Aside0.mk (((have z0_ := BK138; Zan) : gb138 ≠ gb139)); have n6_ := Aside0.mk (((have z0_ := BK138; Zao) : gb139 ≠ gb138)); clear BK138; clear HB; have BK138 := n0_; have HB := n1_; have BK139 := n2_; have GW139 := n3_; have GE139 := n4_; have NB138_139 := n5_; have NB139_138 := n6_; clear n0_ n1_ n2_ n3_ n4_ n5_ n6_; clear hb hbox hg; have hnb9 := NB138_139.out; have hnc9 := NB139_138.out; obtain ⟨hcz10_0, hcz10_1, hcz10_2, hfz10_0, hfz10_1, hfz10_2⟩ := cz3 BK138; obtain ⟨hcz11_0, hcz11_1, hcz11_2, hcz11_3, hfz11_0, hfz11_1, hfz11_2, hfz11_3⟩ := cz4 BK139) | (go_at_call 128; (with_reducible refine (spec_l07Time.calls k _ _ l0_0 a1_0 a1_1 t140 _ ?side1 ?side2 A3.out).mono ?_); (case side1 => repeat (first | exact (Kd.C_below HR0_0.out HB.out) | (with_reducible refine Kd.C_alloc ?_ _) | (with_reducible refine Kd.C_drewN ?_ _) | (with_reducible refine Kd.C_drew ?_))); (case side2 => exact HC0_0.out); rintro e w' ⟨rfl, ⟨nd, rfl⟩⟩; (try first | exact ⟨rfl, _, World.drewN_drewN _ _ _⟩ | exact ⟨rfl, _, Eq.trans (World.drewN_drewN _ _ _) (congrArg (World.drewN _) (Nat.add_assoc _ _ _))⟩)) | (go_at_call 94; (with_reducible refine (spec_l03Find.calls k _ _ l0_1 a1_2 t141 _ ?side1 ?side2 A4.out).mono ?_); (case side1 => repeat (first | exact (Kd.C_below HR0_1.out (have z0_ := GE138; have z1_ := GE139; Zh)) | (with_reducible refine Kd.C_alloc ?_ _) | (with_reducible refine Kd.C_drewN ?_ _) | (with_reducible refine Kd.C_drew ?_))); (case side2 => exact HC0_1.out); rintro e w' ⟨rfl, ⟨nd, rfl⟩⟩; (try first | exact ⟨rfl, _, World.drewN_drewN _ _ _⟩ | exact ⟨rfl, _, Eq.trans (World.drewN_drewN _ _ _) (congrArg (World.drewN _) (Nat.add_assoc _ _ _))⟩); have p142 : 0 ≤ (t141 : Int) := of_decide_eq_true Zp; have q142 : t141 < (l0_1.length : Int) := of_decide_eq_true Zp; obtain ⟨ad142, e142, hx142_0, hx142_1, hx142_2, hx142_3, hx142_4, hx142_5, hx142_6, hx142_7, hx142_8⟩ := at_T92 HR0_1.out t141 p142 q142; cases e142; replace hx142_0 := cbH HB hx142_0; replace hx142_1 := cbH HB hx142_1; replace hx142_2 := cbH HB hx142_2; replace hx142_3 := cbH HB hx142_3; replace hx142_4 := cbH HB hx142_4; replace hx142_5 := cbH HB hx142_5; replace hx142_6 := cbH HB hx142_6; replace hx142_7 := cbH HB hx142_7; replace hx142_8 := cbH HB hx142_8; replace p142 := eq_true p142; replace q142 := eq_true q142)); try go_wp2_with (first | ((with_reducible refine gate_dst (N := 2) rfl ?_); refine box_event ?hg (N := 2) ?hd (cs := #[.slice A0_0 l0_0.length c0_0, .slice A0_1 l0_1.length c0_1, .slice A0_2 l0_2.length c0_2]) (t := 32) ?hr ?_; (case hd => rfl); (case hg => rfl); (case hr => first | (go_simp; done) | (go_simp; rfl)); intro gb138 hg w7 hbox hb; have n0_ := Aside0.mk (below_step Zc hb); have n1_ := Aside0.mk (hbox); have n2_ := Aside0.mk ((Zd : w.heap.size ≤ gb138)); have n3_ := Aside0.mk ((Zd : w.heap.size ≤ gb138)); clear HB; have HB := n0_; have BK138 := n1_; have GW138 := n2_; have GE138 := n3_; clear n0_ n1_ n2_ n3_; clear hb hbox hg) | ((with_reducible refine gate_dst (N := 3) rfl ?_); refine box_event ?hg (N := 3) ?hd (cs := #[.int .i64 a1_0, .int .i64 a1_1, .string a1_2, .int .i64 a1_3]) (t := 43) ?hr ?_; (case hd => rfl); (case hg => rfl); (case hr => first | (go_simp; done) | (go_simp; rfl)); intro gb139 hg w8 hbox hb; have n0_ := Aside0.mk (blk_below (g := gb138) (o := .cells #[.slice A0_0 l0_0.length c0_0, .slice A0_1 l0_1.length c0_1, .slice A0_2 l0_2.length c0_2] 32 (0, 0)) (have z0_ := BK138; Ze) hb); have n1_ := Aside0.mk (below_step (have z0_ := GE138; Zf) hb); have n2_ := Aside0.mk (hbox); have n3_ := Aside0.mk (((have z0_ := GE138; Zg) : w.heap.size ≤ gb139)); have n4_ := Aside0.mk (((have z0_ := GE138; Zg) : w.heap.size ≤ gb139)); have n5_ := Aside0.mk (((have z0_ := BK138; Zan) : gb138 ≠ gb139)); have n6_ := Aside0.mk (((have z0_ := BK138; Zao) : gb139 ≠ gb138)); clear BK138; clear HB; have BK138 := n0_; have HB := n1_; have BK139 := n2_; have GW139 := n3_; have GE139 := n4_; have NB138_139 := n5_; have NB139_138 := n6_; clear n0_ n1_ n2_ n3_ n4_ n5_ n6_; clear hb hbox hg; have hnb9 := NB138_139.out; have hnc9 := NB139_138.out; obtain ⟨hcz10_0, hcz10_1, hcz10_2, hfz10_0, hfz10_1, hfz10_2⟩ := cz3 BK138; obtain ⟨hcz11_0, hcz11_1, hcz11_2, hcz11_3, hfz11_0, hfz11_1, hfz11_2, hfz11_3⟩ := cz4 BK139) | (go_at_call 128; (with_reducible refine (spec_l07Time.calls k _ _ l0_0 a1_0 a1_1 t140 _ ?side1 ?side2 A3.out).mono ?_); (case side1 => repeat (first | exact (Kd.C_below HR0_0.out HB.out) | (with_reducible refine Kd.C_alloc ?_ _) | (with_reducible refine Kd.C_drewN ?_ _) | (with_reducible refine Kd.C_drew ?_))); (case side2 => exact HC0_0.out); rintro e w' ⟨rfl, ⟨nd, rfl⟩⟩; (try first | exact ⟨rfl, _, World.drewN_drewN _ _ _⟩ | exact ⟨rfl, _, Eq.trans (World.drewN_drewN _ _ _) (congrArg (World.drewN _) (Nat.add_assoc _ _ _))⟩)) | (go_at_call 94; (with_reducible refine (spec_l03Find.calls k _ _ l0_1 a1_2 t141 _ ?side1 ?side2 A4.out).mono ?_); (case side1 => repeat (first | exact (Kd.C_below HR0_1.out (have z0_ := GE138; have z1_ := GE139; Zh)) | (with_reducible refine Kd.C_alloc ?_ _) | (with_reducible refine Kd.C_drewN ?_ _) | (with_reducible refine Kd.C_drew ?_))); (case side2 => exact HC0_1.out); rintro e w' ⟨rfl, ⟨nd, rfl⟩⟩; (try first | exact ⟨rfl, _, World.drewN_drewN _ _ _⟩ | exact ⟨rfl, _, Eq.trans (World.drewN_drewN _ _ _) (congrArg (World.drewN _) (Nat.add_assoc _ _ _))⟩); have p142 : 0 ≤ (t141 : Int) := of_decide_eq_true Zp; have q142 : t141 < (l0_1.length : Int) := of_decide_eq_true Zp; obtain ⟨ad142, e142, hx142_0, hx142_1, hx142_2, hx142_3, hx142_4, hx142_5, hx142_6, hx142_7, hx142_8⟩ := at_T92 HR0_1.out t141 p142 q142; cases e142; replace hx142_0 := cbH HB hx142_0; replace hx142_1 := cbH HB hx142_1; replace hx142_2 := cbH HB hx142_2; replace hx142_3 := cbH HB hx142_3; replace hx142_4 := cbH HB hx142_4; replace hx142_5 := cbH HB hx142_5; replace hx142_6 := cbH HB hx142_6; replace hx142_7 := cbH HB hx142_7; replace hx142_8 := cbH HB hx142_8; replace p142 := eq_true p142; replace q142 := eq_true q142)))
   go_ret
   exact ⟨by first | rfl | (simp only [i64_w]; done) | (simp only [i64_w]; rfl) | (simp [errW_none, errW_some] <;> rfl) | (simp [*, errW_none, errW_some] <;> rfl), (have z0_ := GE138; have z1_ := GE139; Zh)⟩
  ·rw [if_neg c6] at H
   exact absurd H (by simp)
 ·rw [if_neg c5] at H
  exact absurd H (by simp)
end Go.Proofs.Ytnlbaflbhicooaa.F
namespace Go.Proofs.Ytnlbaflbhicooaa.F
open Go.RowKit Go.Proofs.YtnlbaflbhicooaaW.PrintWords Go.Proofs.YtnlbaflbhicooaaW.PrintLast Go.Proofs.YtnlbaflbhicooaaW.PrintMore
attribute [local go_sem] max2_int min2_int max_two min_two max_three min_three max_four min_four   -- for this text's walks alone
set_option linter.unusedVariables false
set_option linter.unusedSimpArgs false
mutual
def spec_IsShow.j0 : Nat → Bool → List (S108) → List (S92) → List (S43) → Option (Bool)
 | 0, _, _, _, _ => none
 | k + 1, x20, x144000, x144001, x144002 => if x20 = true then (some false) else (spec_IsShow.l0 k 0 x144000 x144001 x144002)
def spec_IsShow.l0 : Nat → Int → List (S108) → List (S92) → List (S43) → Option (Bool)
 | 0, _, _, _, _ => none
 | k + 1, x3, x144000, x144001, x144002 => if x3 < (x144002.length : Int) then (if 0 ≤ x3 then ((spec_l07Has.f x144000 ((rd_T43 x144002 x3).f0) ((rd_T43 x144002 x3).f1)).bind fun t148 => (if t148 = true then ((spec_l03Find.f k x144001 ((rd_T43 x144002 x3).f2)).bind fun t149 => (if t149 < 0 then (some false) else ((spec_l01In.f ((rd_T43 x144002 x3).f3) 0 11).bind fun t150 => (if t150 = true then ((spec_l08Time.f k x144000 x144001 x144002 ((rd_T43 x144002 x3).f0) ((rd_T43 x144002 x3).f1) ((rd_T43 x144002 x3).f2) ((rd_T43 x144002 x3).f3)).bind fun t151 => (if t151 < 0 then (some false) else (spec_IsShow.l0 k (wrap64 (x3 + 1)) x144000 x144001 x144002))) else (some false))))) else (some false))) else (none)) else (some true)
end
def spec_IsShow.f (k : Nat) (l0_0 : List (S108)) (l0_1 : List (S92)) (l0_2 : List (S43)) : Option (Bool) := (spec_IsScore.f k l0_0).bind fun t144 => (if t144 = true then ((spec_AreArticles.f k l0_1).bind fun t145 => (if t145 = true then (spec_IsShow.j0 k (decide ((l0_2.length : Int) > 20)) l0_0 l0_1 l0_2) else (spec_IsShow.j0 k true l0_0 l0_1 l0_2))) else (spec_IsShow.j0 k true l0_0 l0_1 l0_2))
set_option maxHeartbeats 8000000 in
set_option maxRecDepth 100000 in
theorem spec_IsShow.calls (k : Nat) (A0_0 : Option Addr) (c0_0 : Nat) (l0_0 : List (S108)) (A0_1 : Option Addr) (c0_1 : Nat) (l0_1 : List (S92)) (A0_2 : Option Addr) (c0_2 : Nat) (l0_2 : List (S43)) (r : Bool) (w : World) (hr0_0 : Kd.C k108 w A0_0 l0_0.length l0_0) (hc0_0 : l0_0.length ≤ c0_0) (hr0_1 : Kd.C k92 w A0_1 l0_1.length l0_1) (hc0_1 : l0_1.length ≤ c0_1) (hr0_2 : Kd.C k43 w A0_2 l0_2.length l0_2) (hc0_2 : l0_2.length ≤ c0_2) (h : spec_IsShow.f k l0_0 l0_1 l0_2 = some r) :
  Calls Try.prog 36 #[.agg #[.slice A0_0 l0_0.length c0_0, .slice A0_1 l0_1.length c0_1, .slice A0_2 l0_2.length c0_2]] w fun e w' => e = .returned (.bool r) ∧ Below w.heap.size w w' := by
 have hu32 := Try.underlying32
 have hu43 := Try.underlying43
 have HR0_0 := Aside0.mk hr0_0
 have HC0_0 := Aside0.mk hc0_0
 clear hr0_0 hc0_0
 have HR0_1 := Aside0.mk hr0_1
 have HC0_1 := Aside0.mk hc0_1
 clear hr0_1 hc0_1
 have HR0_2 := Aside0.mk hr0_2
 have HC0_2 := Aside0.mk hc0_2
 clear hr0_2 hc0_2
 have HB := Aside0.mk (Below.refl w.heap.size w)
 have H : ((spec_IsScore.f k l0_0).bind fun t144 => (if t144 = true then ((spec_AreArticles.f k l0_1).bind fun t145 => (if t145 = true then (spec_IsShow.j0 k (decide ((l0_2.length : Int) > 20)) l0_0 l0_1 l0_2) else (spec_IsShow.j0 k true l0_0 l0_1 l0_2))) else (spec_IsShow.j0 k true l0_0 l0_1 l0_2))) = some r := h
 clear h
 have HC2 := Aside0.mk H
 clear H
 go_enter Try.func36, Try.ntmps36
 go_upto_region 1 with (first | ((with_reducible refine gate_dst (N := 1) rfl ?_); (try (refine gate_guard (by rfl) ?_; dsimp only)); refine box_event ?hg (N := 1) ?hd (cs := #[.slice A0_0 l0_0.length c0_0, .slice A0_1 l0_1.length c0_1, .slice A0_2 l0_2.length c0_2]) (t := 32) ?hr ?_; (case hd => rfl); (case hg => rfl); (case hr => first | (go_simp; done) | (go_simp; rfl)); intro gb143 hg w3 hbox hb; have n0_ := Aside0.mk (below_step Zc hb); have n1_ := Aside0.mk (hbox); have n2_ := Aside0.mk ((Zd : w.heap.size ≤ gb143)); have n3_ := Aside0.mk ((Zd : w.heap.size ≤ gb143)); clear HB; have HB := n0_; have BK143 := n1_; have GW143 := n2_; have GE143 := n3_; clear n0_ n1_ n2_ n3_; clear hb hbox hg))
 (try simp only [Act.put, List.setIfInBounds_toArray, List.set_cons_zero, List.set_cons_succ])
 go_cut [20] (fun v20 wc => ∃ (kq : Nat) (x20_1 : Bool), v20 = .bool x20_1 ∧ Aside0 (spec_IsShow.j0 kq x20_1 l0_0 l0_1 l0_2 = some r) ∧ Aside0 (kq ≤ k) ∧ Aside0 (wc.heap[gb143]? = some (.cells #[(.slice A0_0 l0_0.length c0_0), (.slice A0_1 l0_1.length c0_1), (.slice A0_2 l0_2.length c0_2)] 32 (0, 0))) ∧ Aside0 (Below w.heap.size w wc))
 case first =>
  have H := HC2.out
  clear HC2
  replace H := Option.bind_eq_some_iff.mp H
  obtain ⟨t144, A40, H⟩ := H
  replace H : (if t144 = true then ((spec_AreArticles.f k l0_1).bind fun t145 => (if t145 = true then (spec_IsShow.j0 k (decide ((l0_2.length : Int) > 20)) l0_0 l0_1 l0_2) else (spec_IsShow.j0 k true l0_0 l0_1 l0_2))) else (spec_IsShow.j0 k true l0_0 l0_1 l0_2)) = some r := H
  have A4 := Aside0.mk A40
  clear A40
  by_cases c5 : t144 = true
  ·subst c5
   have H1 : ((spec_AreArticles.f k l0_1).bind fun t145 => (if t145 = true then (spec_IsShow.j0 k (decide ((l0_2.length : Int) > 20)) l0_0 l0_1 l0_2) else (spec_IsShow.j0 k true l0_0 l0_1 l0_2))) = some r := by rw [if_pos rfl] at H; exact H
   clear H
   have H := H1
   clear H1
   replace H := Option.bind_eq_some_iff.mp H
   obtain ⟨t145, A60, H⟩ := H
   replace H : (if t145 = true then (spec_IsShow.j0 k (decide ((l0_2.length : Int) > 20)) l0_0 l0_1 l0_2) else (spec_IsShow.j0 k true l0_0 l0_1 l0_2)) = some r := H
   have A6 := Aside0.mk A60
   clear A60
   by_cases c7 : t145 = true
   ·subst c7
    have H1 : (spec_IsShow.j0 k (decide ((l0_2.length : Int) > 20)) l0_0 l0_1 l0_2) = some r := by rw [if_pos rfl] at H; exact H
    clear H
    have H := H1
    clear H1
    have H' := Aside0.mk H
    clear H
    obtain ⟨hcz8_0, hcz8_1, hcz8_2, hfz8_0, hfz8_1, hfz8_2⟩ := cz3 BK143
    go_wp2_with (first | ((with_reducible refine gate_callee (f := 91) rfl ?_); refine goesL_ (some 7) rfl rfl Try.func91 Zj rfl #[.slice A0_0 l0_0.length c0_0] rfl Zo ?_; (with_reducible refine (spec_IsScore.calls k _ _ l0_0 true _ ?side1 ?side2 A4.out).mono ?_); (case side1 => repeat (first | exact (Kd.C_below HR0_0.out HB.out) | (with_reducible refine Kd.C_alloc ?_ _) | (with_reducible refine Kd.C_drewN ?_ _) | (with_reducible refine Kd.C_drew ?_))); (case side2 => exact HC0_0.out); rintro e w' ⟨rfl, ⟨nd, rfl⟩⟩; refine ⟨_, rfl, ?_⟩) | (go_at_call 92; (with_reducible refine (spec_AreArticles.calls k _ _ l0_1 true _ ?side1 ?side2 A6.out).mono ?_); (case side1 => repeat (first | exact (Kd.C_below HR0_1.out (have z0_ := GE143; Zf)) | (with_reducible refine Kd.C_alloc ?_ _) | (with_reducible refine Kd.C_drewN ?_ _) | (with_reducible refine Kd.C_drew ?_))); (case side2 => exact HC0_1.out); rintro e w9 ⟨rfl, hb⟩; have n0_ := Aside0.mk (blk_below (g := gb143) (o := .cells #[.slice A0_0 l0_0.length c0_0, .slice A0_1 l0_1.length c0_1, .slice A0_2 l0_2.length c0_2] 32 (0, 0)) (have z0_ := BK143; Ze) hb); have n1_ := Aside0.mk (below_step (have z0_ := GE143; Zf) hb); clear BK143; clear HB; have BK143 := n0_; have HB := n1_; clear n0_ n1_; (try clear hb); (try clear hb2); (try clear hk); (try clear hi); obtain ⟨hcz10_0, hcz10_1, hcz10_2, hfz10_0, hfz10_1, hfz10_2⟩ := cz3 BK143))
    go_meet
    case rel => exact ⟨_, (decide ((l0_2.length : Int) > 20)), Za, H', ⟨Zm⟩, ⟨(have z0_ := BK143; Ze)⟩, ⟨(have z0_ := GE143; Zf)⟩⟩
   ·replace c7 := Bool.eq_false_iff.mpr c7
    subst c7
    have H1 : (spec_IsShow.j0 k true l0_0 l0_1 l0_2) = some r := by rw [if_neg (show ¬ (false = true) by decide)] at H; exact H
    clear H
    have H := H1
    clear H1
    have H' := Aside0.mk H
    clear H
    obtain ⟨hcz11_0, hcz11_1, hcz11_2, hfz11_0, hfz11_1, hfz11_2⟩ := cz3 BK143
    go_wp2_with (first | ((with_reducible refine gate_callee (f := 91) rfl ?_); refine goesL_ (some 7) rfl rfl Try.func91 Zj rfl #[.slice A0_0 l0_0.length c0_0] rfl Zo ?_; (with_reducible refine (spec_IsScore.calls k _ _ l0_0 true _ ?side1 ?side2 A4.out).mono ?_); (case side1 => repeat (first | exact (Kd.C_below HR0_0.out HB.out) | (with_reducible refine Kd.C_alloc ?_ _) | (with_reducible refine Kd.C_drewN ?_ _) | (with_reducible refine Kd.C_drew ?_))); (case side2 => exact HC0_0.out); rintro e w' ⟨rfl, ⟨nd, rfl⟩⟩; refine ⟨_, rfl, ?_⟩) | (go_at_call 92; (with_reducible refine (spec_AreArticles.calls k _ _ l0_1 false _ ?side1 ?side2 A6.out).mono ?_); (case side1 => repeat (first | exact (Kd.C_below HR0_1.out (have z0_ := GE143; Zf)) | (with_reducible refine Kd.C_alloc ?_ _) | (with_reducible refine Kd.C_drewN ?_ _) | (with_reducible refine Kd.C_drew ?_))); (case side2 => exact HC0_1.out); rintro e w12 ⟨rfl, hb⟩; have n0_ := Aside0.mk (blk_below (g := gb143) (o := .cells #[.slice A0_0 l0_0.length c0_0, .slice A0_1 l0_1.length c0_1, .slice A0_2 l0_2.length c0_2] 32 (0, 0)) (have z0_ := BK143; Ze) hb); have n1_ := Aside0.mk (below_step (have z0_ := GE143; Zf) hb); clear BK143; clear HB; have BK143 := n0_; have HB := n1_; clear n0_ n1_; (try clear hb); (try clear hb2); (try clear hk); (try clear hi)))
    go_meet
    case rel => exact ⟨_, (true), Za, H', ⟨Zm⟩, ⟨(have z0_ := BK143; Ze)⟩, ⟨(have z0_ := GE143; Zf)⟩⟩
  ·replace c5 := Bool.eq_false_iff.mpr c5
   subst c5
   have H1 : (spec_IsShow.j0 k true l0_0 l0_1 l0_2) = some r := by rw [if_neg (show ¬ (false = true) by decide)] at H; exact H
   clear H
   have H := H1
   clear H1
   have H' := Aside0.mk H
   clear H
   obtain ⟨hcz13_0, hcz13_1, hcz13_2, hfz13_0, hfz13_1, hfz13_2⟩ := cz3 BK143
   go_wp2_with (first | ((with_reducible refine gate_callee (f := 91) rfl ?_); refine goesL_ (some 7) rfl rfl Try.func91 Zj rfl #[.slice A0_0 l0_0.length c0_0] rfl Zo ?_; (with_reducible refine (spec_IsScore.calls k _ _ l0_0 false _ ?side1 ?side2 A4.out).mono ?_); (case side1 => repeat (first | exact (Kd.C_below HR0_0.out HB.out) | (with_reducible refine Kd.C_alloc ?_ _) | (with_reducible refine Kd.C_drewN ?_ _) | (with_reducible refine Kd.C_drew ?_))); (case side2 => exact HC0_0.out); rintro e w' ⟨rfl, ⟨nd, rfl⟩⟩; refine ⟨_, rfl, ?_⟩))
   go_meet
   case rel => exact ⟨_, (true), Za, H', ⟨Zm⟩, ⟨(have z0_ := BK143; Ze)⟩, ⟨(have z0_ := GE143; Zf)⟩⟩
 case rest =>
  clear HC2
  try clear p2
  try clear c3
  try clear c5
  try clear c7
  try clear c9
  try clear hcz10_0
  try clear hcz10_1
  try clear hcz10_2
  try clear hcz11_0
  try clear hcz11_1
  try clear hcz11_2
  try clear hcz13_0
  try clear hcz13_1
  try clear hcz13_2
  try clear hcz8_0
  try clear hcz8_1
  try clear hcz8_2
  try clear hfz10_0
  try clear hfz10_1
  try clear hfz10_2
  try clear hfz11_0
  try clear hfz11_1
  try clear hfz11_2
  try clear hfz13_0
  try clear hfz13_1
  try clear hfz13_2
  try clear hfz8_0
  try clear hfz8_1
  try clear hfz8_2
  obtain ⟨kq, x20_1, rfl, HA, HJ1, BK143, HB⟩ := hcut
  cases kq with
  | zero => exact absurd HA.out (by simp [spec_IsShow.j0])
  | succ kj1 =>
   have H := HA.out
   clear HA
   simp only [spec_IsShow.j0] at H
   by_cases c14 : x20_1 = true
   ·subst c14
    have H1 : (some false) = some r := by rw [if_pos rfl] at H; exact H
    clear H
    have H := H1
    clear H1
    obtain rfl := Option.some.inj H
    go_wp2
    go_ret
    exact ⟨Zk, (have z0_ := GE143; Zf)⟩
   ·replace c14 := Bool.eq_false_iff.mpr c14
    subst c14
    have H1 : (spec_IsShow.l0 kj1 0 l0_0 l0_1 l0_2) = some r := by rw [if_neg (show ¬ (false = true) by decide)] at H; exact H
    clear H
    have H := H1
    clear H1
    have H' := Aside0.mk H
    clear H
    go_wp2
    go_loopg [3] kj1 (fun kq v3 w' => ∃ (x3_2 : Int), v3 = .int .i64 x3_2 ∧ Aside0 (spec_IsShow.l0 kq x3_2 l0_0 l0_1 l0_2 = some r) ∧ Aside0 (kq ≤ kj1) ∧ Aside0 (w'.heap[gb143]? = some (.cells #[(.slice A0_0 l0_0.length c0_0), (.slice A0_1 l0_1.length c0_1), (.slice A0_2 l0_2.length c0_2)] 32 (0, 0))) ∧ Aside0 (Below w.heap.size w w'))
    case atStart => exact ⟨(0), Za, H', ⟨Nat.le_refl _⟩, ⟨(have z0_ := BK143; Ze)⟩, ⟨(have z0_ := GE143; Zf)⟩⟩
    case round =>
     clear H'
     try clear c1
     try clear p2
     try clear c3
     try clear c5
     try clear c7
     try clear c9
     try clear c14
     try clear hcz10_0
     try clear hcz10_1
     try clear hcz10_2
     try clear hcz11_0
     try clear hcz11_1
     try clear hcz11_2
     try clear hcz13_0
     try clear hcz13_1
     try clear hcz13_2
     try clear hcz8_0
     try clear hcz8_1
     try clear hcz8_2
     try clear hfz10_0
     try clear hfz10_1
     try clear hfz10_2
     try clear hfz11_0
     try clear hfz11_1
     try clear hfz11_2
     try clear hfz13_0
     try clear hfz13_1
     try clear hfz13_2
     try clear hfz8_0
     try clear hfz8_1
     try clear hfz8_2
     try clear p2
     obtain ⟨x3_2, rfl, HA, HK2, BK143, HB⟩ := hrel
     cases gk with
     | zero => exact absurd HA.out (by simp [spec_IsShow.l0])
     | succ k2 =>
      have H := HA.out
      clear HA
      simp only [spec_IsShow.l0] at H
      by_cases c15 : x3_2 < (l0_2.length : Int)
      ·rw [if_pos c15] at H
       have c15b0 : decide (x3_2 < (l0_2.length : Int)) = true := decide_eq_true c15
       clear c15
       by_cases c16 : 0 ≤ x3_2
       ·rw [if_pos c16] at H
        have c16b0 : decide (0 ≤ x3_2) = true := decide_eq_true c16
        clear c16
        replace H := Option.bind_eq_some_iff.mp H
        obtain ⟨t148, A170, H⟩ := H
        replace H : (if t148 = true then ((spec_l03Find.f k2 l0_1 ((rd_T43 l0_2 x3_2).f2)).bind fun t149 => (if t149 < 0 then (some false) else ((spec_l01In.f ((rd_T43 l0_2 x3_2).f3) 0 11).bind fun t150 => (if t150 = true then ((spec_l08Time.f k2 l0_0 l0_1 l0_2 ((rd_T43 l0_2 x3_2).f0) ((rd_T43 l0_2 x3_2).f1) ((rd_T43 l0_2 x3_2).f2) ((rd_T43 l0_2 x3_2).f3)).bind fun t151 => (if t151 < 0 then (some false) else (spec_IsShow.l0 k2 (wrap64 (x3_2 + 1)) l0_0 l0_1 l0_2))) else (some false))))) else (some false)) = some r := H
        have A17 := Aside0.mk A170
        clear A170
        by_cases c18 : t148 = true
        ·subst c18
         have H1 : ((spec_l03Find.f k2 l0_1 ((rd_T43 l0_2 x3_2).f2)).bind fun t149 => (if t149 < 0 then (some false) else ((spec_l01In.f ((rd_T43 l0_2 x3_2).f3) 0 11).bind fun t150 => (if t150 = true then ((spec_l08Time.f k2 l0_0 l0_1 l0_2 ((rd_T43 l0_2 x3_2).f0) ((rd_T43 l0_2 x3_2).f1) ((rd_T43 l0_2 x3_2).f2) ((rd_T43 l0_2 x3_2).f3)).bind fun t151 => (if t151 < 0 then (some false) else (spec_IsShow.l0 k2 (wrap64 (x3_2 + 1)) l0_0 l0_1 l0_2))) else (some false))))) = some r := by rw [if_pos rfl] at H; exact H
         clear H
         have H := H1
         clear H1
         replace H := Option.bind_eq_some_iff.mp H
         obtain ⟨t149, A190, H⟩ := H
         replace H : (if t149 < 0 then (some false) else ((spec_l01In.f ((rd_T43 l0_2 x3_2).f3) 0 11).bind fun t150 => (if t150 = true then ((spec_l08Time.f k2 l0_0 l0_1 l0_2 ((rd_T43 l0_2 x3_2).f0) ((rd_T43 l0_2 x3_2).f1) ((rd_T43 l0_2 x3_2).f2) ((rd_T43 l0_2 x3_2).f3)).bind fun t151 => (if t151 < 0 then (some false) else (spec_IsShow.l0 k2 (wrap64 (x3_2 + 1)) l0_0 l0_1 l0_2))) else (some false)))) = some r := H
         have A19 := Aside0.mk A190
         clear A190
         by_cases c20 : t149 < 0
         ·rw [if_pos c20] at H
          have c20b0 : decide (t149 < 0) = true := decide_eq_true c20
          clear c20
          obtain rfl := Option.some.inj H
          obtain ⟨hcz21_0, hcz21_1, hcz21_2, hfz21_0, hfz21_1, hfz21_2⟩ := cz3 BK143
          have p146 : 0 ≤ (x3_2 : Int) := of_decide_eq_true Zp
          have q146 : x3_2 < (l0_2.length : Int) := of_decide_eq_true Zp
          obtain ⟨ad146, e146, hx146_0, hx146_1, hx146_2, hx146_3⟩ := at_T43 HR0_2.out x3_2 p146 q146
          cases e146
          replace hx146_0 := cbH HB hx146_0
          replace hx146_1 := cbH HB hx146_1
          replace hx146_2 := cbH HB hx146_2
          replace hx146_3 := cbH HB hx146_3
          replace p146 := eq_true p146
          replace q146 := eq_true q146
          go_wp2_with (first | ((with_reducible refine gate_dst (N := 4) rfl ?_); (try (refine gate_guard (by rfl) ?_; dsimp only)); refine box_event ?hg (N := 4) ?hd (cs := #[.int .i64 0, .int .i64 0, .string (⟨#[]⟩ : ByteArray), .int .i64 0]) (t := 43) ?hr ?_; (case hd => rfl); (case hg => rfl); (case hr => first | (go_simp; done) | (go_simp; rfl)); intro gb147 hg w22 hbox hb; have n0_ := Aside0.mk (blk_below (g := gb143) (o := .cells #[.slice A0_0 l0_0.length c0_0, .slice A0_1 l0_1.length c0_1, .slice (some ad146) l0_2.length c0_2] 32 (0, 0)) (have z0_ := BK143; Ze) hb); have n1_ := Aside0.mk (below_step (have z0_ := GE143; Zf) hb); have n2_ := Aside0.mk (hbox); have n3_ := Aside0.mk (((have z0_ := GE143; Zg) : w.heap.size ≤ gb147)); have n4_ := Aside0.mk (((have z0_ := GE143; Zg) : w.heap.size ≤ gb147)); have n5_ := Aside0.mk (((have z0_ := BK143; Zap) : gb143 ≠ gb147)); have n6_ := Aside0.mk (((have z0_ := BK143; Zaq) : gb147 ≠ gb143)); clear BK143; clear HB; have BK143 := n0_; have HB := n1_; have BK147 := n2_; have GW147 := n3_; have GE147 := n4_; have NB143_147 := n5_; have NB147_143 := n6_; clear n0_ n1_ n2_ n3_ n4_ n5_ n6_; clear hb hbox hg; have hnb23 := NB147_143.out; have hnc23 := NB143_147.out; obtain ⟨hcz24_0, hcz24_1, hcz24_2, hcz24_3, hfz24_0, hfz24_1, hfz24_2, hfz24_3⟩ := cz4 BK147; obtain ⟨hcz25_0, hcz25_1, hcz25_2, hfz25_0, hfz25_1, hfz25_2⟩ := cz3 BK143) | ((with_reducible refine gate_callee (f := 93) rfl ?_); refine goesL_ (some 39) rfl rfl Try.func93 Zj rfl #[.slice A0_0 l0_0.length c0_0, .int .i64 ((rd_T43 l0_2 x3_2).f0), .int .i64 ((rd_T43 l0_2 x3_2).f1)] rfl Zo ?_; (with_reducible refine (spec_l07Has.calls _ _ l0_0 ((rd_T43 l0_2 x3_2).f0) ((rd_T43 l0_2 x3_2).f1) true _ ?side1 ?side2 A17.out).mono ?_); (case side1 => exact Kd.C_below HR0_0.out (have z0_ := GE143; have z1_ := GE147; Zh)); (case side2 => exact HC0_0.out); rintro e w' ⟨rfl, ⟨nd, rfl⟩⟩; refine ⟨_, rfl, ?_⟩) | (go_at_call 94; (with_reducible refine (spec_l03Find.calls k2 _ _ l0_1 ((rd_T43 l0_2 x3_2).f2) t149 _ ?side1 ?side2 A19.out).mono ?_); (case side1 => exact Kd.C_below HR0_1.out (have z0_ := GE143; have z1_ := GE147; Zh)); (case side2 => exact HC0_1.out); rintro e w' ⟨rfl, ⟨nd, rfl⟩⟩))
          go_ret
          exact ⟨Zk, (have z0_ := GE143; have z1_ := GE147; Zh)⟩
         ·rw [if_neg c20] at H
          have c20b0 : decide (t149 < 0) = false := decide_eq_false c20
          clear c20
          replace H := Option.bind_eq_some_iff.mp H
          obtain ⟨t150, A260, H⟩ := H
          replace H : (if t150 = true then ((spec_l08Time.f k2 l0_0 l0_1 l0_2 ((rd_T43 l0_2 x3_2).f0) ((rd_T43 l0_2 x3_2).f1) ((rd_T43 l0_2 x3_2).f2) ((rd_T43 l0_2 x3_2).f3)).bind fun t151 => (if t151 < 0 then (some false) else (spec_IsShow.l0 k2 (wrap64 (x3_2 + 1)) l0_0 l0_1 l0_2))) else (some false)) = some r := H
          have A26 := Aside0.mk A260
          clear A260
          by_cases c27 : t150 = true
          ·subst c27
           have H1 : ((spec_l08Time.f k2 l0_0 l0_1 l0_2 ((rd_T43 l0_2 x3_2).f0) ((rd_T43 l0_2 x3_2).f1) ((rd_T43 l0_2 x3_2).f2) ((rd_T43 l0_2 x3_2).f3)).bind fun t151 => (if t151 < 0 then (some false) else (spec_IsShow.l0 k2 (wrap64 (x3_2 + 1)) l0_0 l0_1 l0_2))) = some r := by rw [if_pos rfl] at H; exact H
           clear H
           have H := H1
           clear H1
           replace H := Option.bind_eq_some_iff.mp H
           obtain ⟨t151, A280, H⟩ := H
           replace H : (if t151 < 0 then (some false) else (spec_IsShow.l0 k2 (wrap64 (x3_2 + 1)) l0_0 l0_1 l0_2)) = some r := H
           have A28 := Aside0.mk A280
           clear A280
           by_cases c29 : t151 < 0
           ·rw [if_pos c29] at H
            have c29b0 : decide (t151 < 0) = true := decide_eq_true c29
            clear c29
            obtain rfl := Option.some.inj H
            obtain ⟨hcz30_0, hcz30_1, hcz30_2, hfz30_0, hfz30_1, hfz30_2⟩ := cz3 BK143
            have p146 : 0 ≤ (x3_2 : Int) := of_decide_eq_true Zp
            have q146 : x3_2 < (l0_2.length : Int) := of_decide_eq_true Zp
            obtain ⟨ad146, e146, hx146_0, hx146_1, hx146_2, hx146_3⟩ := at_T43 HR0_2.out x3_2 p146 q146
            cases e146
            replace hx146_0 := cbH HB hx146_0
            replace hx146_1 := cbH HB hx146_1
            replace hx146_2 := cbH HB hx146_2
            replace hx146_3 := cbH HB hx146_3
            replace p146 := eq_true p146
            replace q146 := eq_true q146
            go_wp2_with (first | ((with_reducible refine gate_dst (N := 4) rfl ?_); (try (refine gate_guard (by rfl) ?_; dsimp only)); refine box_event ?hg (N := 4) ?hd (cs := #[.int .i64 0, .int .i64 0, .string (⟨#[]⟩ : ByteArray), .int .i64 0]) (t := 43) ?hr ?_; (case hd => rfl); (case hg => rfl); (case hr => first | (go_simp; done) | (go_simp; rfl)); intro gb147 hg w31 hbox hb; have n0_ := Aside0.mk (blk_below (g := gb143) (o := .cells #[.slice A0_0 l0_0.length c0_0, .slice A0_1 l0_1.length c0_1, .slice (some ad146) l0_2.length c0_2] 32 (0, 0)) (have z0_ := BK143; Ze) hb); have n1_ := Aside0.mk (below_step (have z0_ := GE143; Zf) hb); have n2_ := Aside0.mk (hbox); have n3_ := Aside0.mk (((have z0_ := GE143; Zg) : w.heap.size ≤ gb147)); have n4_ := Aside0.mk (((have z0_ := GE143; Zg) : w.heap.size ≤ gb147)); have n5_ := Aside0.mk (((have z0_ := BK143; Zap) : gb143 ≠ gb147)); have n6_ := Aside0.mk (((have z0_ := BK143; Zaq) : gb147 ≠ gb143)); clear BK143; clear HB; have BK143 := n0_; have HB := n1_; have BK147 := n2_; have GW147 := n3_; have GE147 := n4_; have NB143_147 := n5_; have NB147_143 := n6_; clear n0_ n1_ n2_ n3_ n4_ n5_ n6_; clear hb hbox hg; have hnb32 := NB147_143.out; have hnc32 := NB143_147.out; obtain ⟨hcz33_0, hcz33_1, hcz33_2, hcz33_3, hfz33_0, hfz33_1, hfz33_2, hfz33_3⟩ := cz4 BK147; obtain ⟨hcz34_0, hcz34_1, hcz34_2, hfz34_0, hfz34_1, hfz34_2⟩ := cz3 BK143) | ((with_reducible refine gate_callee (f := 93) rfl ?_); refine goesL_ (some 39) rfl rfl Try.func93 Zj rfl #[.slice A0_0 l0_0.length c0_0, .int .i64 ((rd_T43 l0_2 x3_2).f0), .int .i64 ((rd_T43 l0_2 x3_2).f1)] rfl Zo ?_; (with_reducible refine (spec_l07Has.calls _ _ l0_0 ((rd_T43 l0_2 x3_2).f0) ((rd_T43 l0_2 x3_2).f1) true _ ?side1 ?side2 A17.out).mono ?_); (case side1 => exact Kd.C_below HR0_0.out (have z0_ := GE143; have z1_ := GE147; Zh)); (case side2 => exact HC0_0.out); rintro e w' ⟨rfl, ⟨nd, rfl⟩⟩; refine ⟨_, rfl, ?_⟩) | (go_at_call 94; (with_reducible refine (spec_l03Find.calls k2 _ _ l0_1 ((rd_T43 l0_2 x3_2).f2) t149 _ ?side1 ?side2 A19.out).mono ?_); (case side1 => exact Kd.C_below HR0_1.out (have z0_ := GE143; have z1_ := GE147; Zh)); (case side2 => exact HC0_1.out); rintro e w' ⟨rfl, ⟨nd, rfl⟩⟩) | (go_at_call 68; (with_reducible refine (spec_l01In.calls ((rd_T43 l0_2 x3_2).f3) 0 11 true _ A26.out).mono ?_); rintro e w' ⟨rfl, ⟨nd, rfl⟩⟩) | (go_at_call 95; (with_reducible refine (spec_l08Time.calls k2 _ _ l0_0 _ _ l0_1 _ _ l0_2 ((rd_T43 l0_2 x3_2).f0) ((rd_T43 l0_2 x3_2).f1) ((rd_T43 l0_2 x3_2).f2) ((rd_T43 l0_2 x3_2).f3) t151 _ ?side1 ?side2 ?side3 ?side4 ?side5 ?side6 A28.out).mono ?_); (case side1 => exact Kd.C_below HR0_0.out (have z0_ := GE143; have z1_ := GE147; Zh)); (case side2 => exact HC0_0.out); (case side3 => exact Kd.C_below HR0_1.out (have z0_ := GE143; have z1_ := GE147; Zh)); (case side4 => exact HC0_1.out); (case side5 => exact Kd.C_below HR0_2.out (have z0_ := GE143; have z1_ := GE147; Zh)); (case side6 => exact HC0_2.out); rintro e w35 ⟨rfl, hb⟩; have n0_ := Aside0.mk (blk_below (g := gb143) (o := .cells #[.slice A0_0 l0_0.length c0_0, .slice A0_1 l0_1.length c0_1, .slice (some ad146) l0_2.length c0_2] 32 (0, 0)) (have z0_ := NB143_147; have z1_ := BK143; Zar) hb); have n1_ := Aside0.mk (blk_below (g := gb147) (o := .cells #[.int .i64 ((rd_T43 l0_2 x3_2).f0), .int .i64 ((rd_T43 l0_2 x3_2).f1), .string ((rd_T43 l0_2 x3_2).f2), .int .i64 ((rd_T43 l0_2 x3_2).f3)] 43 (0, 0)) (have z0_ := BK147; Zas) hb); have n2_ := Aside0.mk (below_step (have z0_ := GE143; have z1_ := GE147; Zh) hb); clear BK143; clear BK147; clear HB; have BK143 := n0_; have BK147 := n1_; have HB := n2_; clear n0_ n1_ n2_; (try clear hb); (try clear hb2); (try clear hk); (try clear hi)))
            go_ret
            exact ⟨Zk, (have z0_ := GE143; have z1_ := GE147; Zh)⟩
           ·rw [if_neg c29] at H
            have c29b0 : decide (t151 < 0) = false := decide_eq_false c29
            clear c29
            have H' := Aside0.mk H
            clear H
            obtain ⟨hcz36_0, hcz36_1, hcz36_2, hfz36_0, hfz36_1, hfz36_2⟩ := cz3 BK143
            have p146 : 0 ≤ (x3_2 : Int) := of_decide_eq_true Zp
            have q146 : x3_2 < (l0_2.length : Int) := of_decide_eq_true Zp
            obtain ⟨ad146, e146, hx146_0, hx146_1, hx146_2, hx146_3⟩ := at_T43 HR0_2.out x3_2 p146 q146
            cases e146
            replace hx146_0 := cbH HB hx146_0
            replace hx146_1 := cbH HB hx146_1
            replace hx146_2 := cbH HB hx146_2
            replace hx146_3 := cbH HB hx146_3
            replace p146 := eq_true p146
            replace q146 := eq_true q146
            go_wp2_with (first | ((with_reducible refine gate_dst (N := 4) rfl ?_); (try (refine gate_guard (by rfl) ?_; dsimp only)); refine box_event ?hg (N := 4) ?hd (cs := #[.int .i64 0, .int .i64 0, .string (⟨#[]⟩ : ByteArray), .int .i64 0]) (t := 43) ?hr ?_; (case hd => rfl); (case hg => rfl); (case hr => first | (go_simp; done) | (go_simp; rfl)); intro gb147 hg w37 hbox hb; have n0_ := Aside0.mk (blk_below (g := gb143) (o := .cells #[.slice A0_0 l0_0.length c0_0, .slice A0_1 l0_1.length c0_1, .slice (some ad146) l0_2.length c0_2] 32 (0, 0)) (have z0_ := BK143; Ze) hb); have n1_ := Aside0.mk (below_step (have z0_ := GE143; Zf) hb); have n2_ := Aside0.mk (hbox); have n3_ := Aside0.mk (((have z0_ := GE143; Zg) : w.heap.size ≤ gb147)); have n4_ := Aside0.mk (((have z0_ := GE143; Zg) : w.heap.size ≤ gb147)); have n5_ := Aside0.mk (((have z0_ := BK143; Zap) : gb143 ≠ gb147)); have n6_ := Aside0.mk (((have z0_ := BK143; Zaq) : gb147 ≠ gb143)); clear BK143; clear HB; have BK143 := n0_; have HB := n1_; have BK147 := n2_; have GW147 := n3_; have GE147 := n4_; have NB143_147 := n5_; have NB147_143 := n6_; clear n0_ n1_ n2_ n3_ n4_ n5_ n6_; clear hb hbox hg; have hnb38 := NB147_143.out; have hnc38 := NB143_147.out; obtain ⟨hcz39_0, hcz39_1, hcz39_2, hcz39_3, hfz39_0, hfz39_1, hfz39_2, hfz39_3⟩ := cz4 BK147; obtain ⟨hcz40_0, hcz40_1, hcz40_2, hfz40_0, hfz40_1, hfz40_2⟩ := cz3 BK143) | ((with_reducible refine gate_callee (f := 93) rfl ?_); refine goesL_ (some 39) rfl rfl Try.func93 Zj rfl #[.slice A0_0 l0_0.length c0_0, .int .i64 ((rd_T43 l0_2 x3_2).f0), .int .i64 ((rd_T43 l0_2 x3_2).f1)] rfl Zo ?_; (with_reducible refine (spec_l07Has.calls _ _ l0_0 ((rd_T43 l0_2 x3_2).f0) ((rd_T43 l0_2 x3_2).f1) true _ ?side1 ?side2 A17.out).mono ?_); (case side1 => exact Kd.C_below HR0_0.out (have z0_ := GE143; have z1_ := GE147; Zh)); (case side2 => exact HC0_0.out); rintro e w' ⟨rfl, ⟨nd, rfl⟩⟩; refine ⟨_, rfl, ?_⟩) | (go_at_call 94; (with_reducible refine (spec_l03Find.calls k2 _ _ l0_1 ((rd_T43 l0_2 x3_2).f2) t149 _ ?side1 ?side2 A19.out).mono ?_); (case side1 => exact Kd.C_below HR0_1.out (have z0_ := GE143; have z1_ := GE147; Zh)); (case side2 => exact HC0_1.out); rintro e w' ⟨rfl, ⟨nd, rfl⟩⟩) | (go_at_call 68; (with_reducible refine (spec_l01In.calls ((rd_T43 l0_2 x3_2).f3) 0 11 true _ A26.out).mono ?_); rintro e w' ⟨rfl, ⟨nd, rfl⟩⟩) | (go_at_call 95; (with_reducible refine (spec_l08Time.calls k2 _ _ l0_0 _ _ l0_1 _ _ l0_2 ((rd_T43 l0_2 x3_2).f0) ((rd_T43 l0_2 x3_2).f1) ((rd_T43 l0_2 x3_2).f2) ((rd_T43 l0_2 x3_2).f3) t151 _ ?side1 ?side2 ?side3 ?side4 ?side5 ?side6 A28.out).mono ?_); (case side1 => exact Kd.C_below HR0_0.out (have z0_ := GE143; have z1_ := GE147; Zh)); (case side2 => exact HC0_0.out); (case side3 => exact Kd.C_below HR0_1.out (have z0_ := GE143; have z1_ := GE147; Zh)); (case side4 => exact HC0_1.out); (case side5 => exact Kd.C_below HR0_2.out (have z0_ := GE143; have z1_ := GE147; Zh)); (case side6 => exact HC0_2.out); rintro e w41 ⟨rfl, hb⟩; have n0_ := Aside0.mk (blk_below (g := gb143) (o := .cells #[.slice A0_0 l0_0.length c0_0, .slice A0_1 l0_1.length c0_1, .slice (some ad146) l0_2.length c0_2] 32 (0, 0)) (have z0_ := NB143_147; have z1_ := BK143; Zar) hb); have n1_ := Aside0.mk (blk_below (g := gb147) (o := .cells #[.int .i64 ((rd_T43 l0_2 x3_2).f0), .int .i64 ((rd_T43 l0_2 x3_2).f1), .string ((rd_T43 l0_2 x3_2).f2), .int .i64 ((rd_T43 l0_2 x3_2).f3)] 43 (0, 0)) (have z0_ := BK147; Zas) hb); have n2_ := Aside0.mk (below_step (have z0_ := GE143; have z1_ := GE147; Zh) hb); clear BK143; clear BK147; clear HB; have BK143 := n0_; have BK147 := n1_; have HB := n2_; clear n0_ n1_ n2_; (try clear hb); (try clear hb2); (try clear hk); (try clear hi)))
            go_roundg k2
            case measure => have := HJ1.out; have := HK2.out; omega
            case rel => exact ⟨(wrap64 (x3_2 + 1)), Za, H', ⟨by have := HJ1.out; have := HK2.out; omega⟩, ⟨(have z0_ := BK143; Ze)⟩, ⟨(have z0_ := GE143; have z1_ := GE147; Zh)⟩⟩
          ·replace c27 := Bool.eq_false_iff.mpr c27
           subst c27
           have H1 : (some false) = some r := by rw [if_neg (show ¬ (false = true) by decide)] at H; exact H
           clear H
           have H := H1
           clear H1
           obtain rfl := Option.some.inj H
           obtain ⟨hcz42_0, hcz42_1, hcz42_2, hfz42_0, hfz42_1, hfz42_2⟩ := cz3 BK143
           have p146 : 0 ≤ (x3_2 : Int) := of_decide_eq_true Zp
           have q146 : x3_2 < (l0_2.length : Int) := of_decide_eq_true Zp
           obtain ⟨ad146, e146, hx146_0, hx146_1, hx146_2, hx146_3⟩ := at_T43 HR0_2.out x3_2 p146 q146
           cases e146
           replace hx146_0 := cbH HB hx146_0
           replace hx146_1 := cbH HB hx146_1
           replace hx146_2 := cbH HB hx146_2
           replace hx146_3 := cbH HB hx146_3
           replace p146 := eq_true p146
           replace q146 := eq_true q146
           go_wp2_with (first | ((with_reducible refine gate_dst (N := 4) rfl ?_); (try (refine gate_guard (by rfl) ?_; dsimp only)); refine box_event ?hg (N := 4) ?hd (cs := #[.int .i64 0, .int .i64 0, .string (⟨#[]⟩ : ByteArray), .int .i64 0]) (t := 43) ?hr ?_; (case hd => rfl); (case hg => rfl); (case hr => first | (go_simp; done) | (go_simp; rfl)); intro gb147 hg w43 hbox hb; have n0_ := Aside0.mk (blk_below (g := gb143) (o := .cells #[.slice A0_0 l0_0.length c0_0, .slice A0_1 l0_1.length c0_1, .slice (some ad146) l0_2.length c0_2] 32 (0, 0)) (have z0_ := BK143; Ze) hb); have n1_ := Aside0.mk (below_step (have z0_ := GE143; Zf) hb); have n2_ := Aside0.mk (hbox); have n3_ := Aside0.mk (((have z0_ := GE143; Zg) : w.heap.size ≤ gb147)); have n4_ := Aside0.mk (((have z0_ := GE143; Zg) : w.heap.size ≤ gb147)); have n5_ := Aside0.mk (((have z0_ := BK143; Zap) : gb143 ≠ gb147)); have n6_ := Aside0.mk (((have z0_ := BK143; Zaq) : gb147 ≠ gb143)); clear BK143; clear HB; have BK143 := n0_; have HB := n1_; have BK147 := n2_; have GW147 := n3_; have GE147 := n4_; have NB143_147 := n5_; have NB147_143 := n6_; clear n0_ n1_ n2_ n3_ n4_ n5_ n6_; clear hb hbox hg; have hnb44 := NB147_143.out; have hnc44 := NB143_147.out; obtain ⟨hcz45_0, hcz45_1, hcz45_2, hcz45_3, hfz45_0, hfz45_1, hfz45_2, hfz45_3⟩ := cz4 BK147; obtain ⟨hcz46_0, hcz46_1, hcz46_2, hfz46_0, hfz46_1, hfz46_2⟩ := cz3 BK143) | ((with_reducible refine gate_callee (f := 93) rfl ?_); refine goesL_ (some 39) rfl rfl Try.func93 Zj rfl #[.slice A0_0 l0_0.length c0_0, .int .i64 ((rd_T43 l0_2 x3_2).f0), .int .i64 ((rd_T43 l0_2 x3_2).f1)] rfl Zo ?_; (with_reducible refine (spec_l07Has.calls _ _ l0_0 ((rd_T43 l0_2 x3_2).f0) ((rd_T43 l0_2 x3_2).f1) true _ ?side1 ?side2 A17.out).mono ?_); (case side1 => exact Kd.C_below HR0_0.out (have z0_ := GE143; have z1_ := GE147; Zh)); (case side2 => exact HC0_0.out); rintro e w' ⟨rfl, ⟨nd, rfl⟩⟩; refine ⟨_, rfl, ?_⟩) | (go_at_call 94; (with_reducible refine (spec_l03Find.calls k2 _ _ l0_1 ((rd_T43 l0_2 x3_2).f2) t149 _ ?side1 ?side2 A19.out).mono ?_); (case side1 => exact Kd.C_below HR0_1.out (have z0_ := GE143; have z1_ := GE147; Zh)); (case side2 => exact HC0_1.out); rintro e w' ⟨rfl, ⟨nd, rfl⟩⟩) | (go_at_call 68; (with_reducible refine (spec_l01In.calls ((rd_T43 l0_2 x3_2).f3) 0 11 false _ A26.out).mono ?_); rintro e w' ⟨rfl, ⟨nd, rfl⟩⟩))
           go_ret
           exact ⟨Zk, (have z0_ := GE143; have z1_ := GE147; Zh)⟩
        ·replace c18 := Bool.eq_false_iff.mpr c18
         subst c18
         have H1 : (some false) = some r := by rw [if_neg (show ¬ (false = true) by decide)] at H; exact H
         clear H
         have H := H1
         clear H1
         obtain rfl := Option.some.inj H
         obtain ⟨hcz47_0, hcz47_1, hcz47_2, hfz47_0, hfz47_1, hfz47_2⟩ := cz3 BK143
         have p146 : 0 ≤ (x3_2 : Int) := of_decide_eq_true Zp
         have q146 : x3_2 < (l0_2.length : Int) := of_decide_eq_true Zp
         obtain ⟨ad146, e146, hx146_0, hx146_1, hx146_2, hx146_3⟩ := at_T43 HR0_2.out x3_2 p146 q146
         cases e146
         replace hx146_0 := cbH HB hx146_0
         replace hx146_1 := cbH HB hx146_1
         replace hx146_2 := cbH HB hx146_2
         replace hx146_3 := cbH HB hx146_3
         replace p146 := eq_true p146
         replace q146 := eq_true q146
         go_wp2_with (first | ((with_reducible refine gate_dst (N := 4) rfl ?_); (try (refine gate_guard (by rfl) ?_; dsimp only)); refine box_event ?hg (N := 4) ?hd (cs := #[.int .i64 0, .int .i64 0, .string (⟨#[]⟩ : ByteArray), .int .i64 0]) (t := 43) ?hr ?_; (case hd => rfl); (case hg => rfl); (case hr => first | (go_simp; done) | (go_simp; rfl)); intro gb147 hg w48 hbox hb; have n0_ := Aside0.mk (blk_below (g := gb143) (o := .cells #[.slice A0_0 l0_0.length c0_0, .slice A0_1 l0_1.length c0_1, .slice (some ad146) l0_2.length c0_2] 32 (0, 0)) (have z0_ := BK143; Ze) hb); have n1_ := Aside0.mk (below_step (have z0_ := GE143; Zf) hb); have n2_ := Aside0.mk (hbox); have n3_ := Aside0.mk (((have z0_ := GE143; Zg) : w.heap.size ≤ gb147)); have n4_ := Aside0.mk (((have z0_ := GE143; Zg) : w.heap.size ≤ gb147)); have n5_ := Aside0.mk (((have z0_ := BK143; Zap) : gb143 ≠ gb147)); have n6_ := Aside0.mk (((have z0_ := BK143; Zaq) : gb147 ≠ gb143)); clear BK143; clear HB; have BK143 := n0_; have HB := n1_; have BK147 := n2_; have GW147 := n3_; have GE147 := n4_; have NB143_147 := n5_; have NB147_143 := n6_; clear n0_ n1_ n2_ n3_ n4_ n5_ n6_; clear hb hbox hg; have hnb49 := NB147_143.out; have hnc49 := NB143_147.out; obtain ⟨hcz50_0, hcz50_1, hcz50_2, hcz50_3, hfz50_0, hfz50_1, hfz50_2, hfz50_3⟩ := cz4 BK147; obtain ⟨hcz51_0, hcz51_1, hcz51_2, hfz51_0, hfz51_1, hfz51_2⟩ := cz3 BK143) | ((with_reducible refine gate_callee (f := 93) rfl ?_); refine goesL_ (some 39) rfl rfl Try.func93 Zj rfl #[.slice A0_0 l0_0.length c0_0, .int .i64 ((rd_T43 l0_2 x3_2).f0), .int .i64 ((rd_T43 l0_2 x3_2).f1)] rfl Zo ?_; (with_reducible refine (spec_l07Has.calls _ _ l0_0 ((rd_T43 l0_2 x3_2).f0) ((rd_T43 l0_2 x3_2).f1) false _ ?side1 ?side2 A17.out).mono ?_); (case side1 => exact Kd.C_below HR0_0.out (have z0_ := GE143; have z1_ := GE147; Zh)); (case side2 => exact HC0_0.out); rintro e w' ⟨rfl, ⟨nd, rfl⟩⟩; refine ⟨_, rfl, ?_⟩))
         go_ret
         exact ⟨Zk, (have z0_ := GE143; have z1_ := GE147; Zh)⟩
       ·rw [if_neg c16] at H
        exact absurd H (by simp)
      ·rw [if_neg c15] at H
       have c15b0 : decide (x3_2 < (l0_2.length : Int)) = false := decide_eq_false c15
       clear c15
       obtain rfl := Option.some.inj H
       obtain ⟨hcz52_0, hcz52_1, hcz52_2, hfz52_0, hfz52_1, hfz52_2⟩ := cz3 BK143
       go_wp2
       go_ret
       exact ⟨Zk, (have z0_ := GE143; Zf)⟩
end Go.Proofs.Ytnlbaflbhicooaa.F
namespace Go.Proofs.Ytnlbaflbhicooaa.F
open Go.RowKit Go.Proofs.YtnlbaflbhicooaaW.PrintWords Go.Proofs.YtnlbaflbhicooaaW.PrintLast Go.Proofs.YtnlbaflbhicooaaW.PrintMore
attribute [local go_sem] max2_int min2_int max_two min_two max_three min_three max_four min_four   -- for this text's walks alone
set_option linter.unusedVariables false
set_option linter.unusedSimpArgs false
def spec_l08Times.l0 : Nat → List Int → Int → List (S108) → List (S92) → List (S43) → Option (List Int)
 | 0, _, _, _, _, _ => none
 | k + 1, x3, x4, x1188000, x1188001, x1188002 => if x4 < (x1188002.length : Int) then (if 0 ≤ x4 then ((spec_l08Time.f k x1188000 x1188001 x1188002 ((rd_T43 x1188002 x4).f0) ((rd_T43 x1188002 x4).f1) ((rd_T43 x1188002 x4).f2) ((rd_T43 x1188002 x4).f3)).bind fun t1192 => (if x3.length < 17592186044416 then (spec_l08Times.l0 k (x3 ++ [t1192]) (wrap64 (x4 + 1)) x1188000 x1188001 x1188002) else (none))) else (none)) else (some x3)
def spec_l08Times.f (k : Nat) (l0_0 : List (S108)) (l0_1 : List (S92)) (l0_2 : List (S43)) : Option (List Int) := spec_l08Times.l0 k (([] : List Int)) 0 l0_0 l0_1 l0_2
def spec_l08Times.T5 : Bool × List (List Nat × List Nat) := (true, [([], []), ([], []), ([], []), ([2], [2]), ([], []), ([3, 4], [3, 4]), ([5], [5]), ([1, 6], [1, 6]), ([7], [7]), ([0, 8, 7], [0, 8]), ([9, 9, 0, 1, 2, 3, 4, 5, 6, 7, 8, 9], [0, 9])])
def spec_l08Times.B5 : List Nat := [0, 0, 0, 4, 0, 28, 60, 126, 254, 511, 1023]
theorem spec_l08Times.tab5 : rtab .any (opsOf Try.f108 5) = spec_l08Times.T5 := by kernel_rfl
theorem spec_l08Times.bits5 : waitsOk spec_l08Times.T5.2 spec_l08Times.B5 = true := by kernel_rfl
set_option maxHeartbeats 8000000 in
set_option maxRecDepth 100000 in
theorem spec_l08Times.calls (k : Nat) (A0_0 : Option Addr) (c0_0 : Nat) (l0_0 : List (S108)) (A0_1 : Option Addr) (c0_1 : Nat) (l0_1 : List (S92)) (A0_2 : Option Addr) (c0_2 : Nat) (l0_2 : List (S43)) (r : List Int) (w : World) (hr0_0 : Kd.C k108 w A0_0 l0_0.length l0_0) (hc0_0 : l0_0.length ≤ c0_0) (hr0_1 : Kd.C k92 w A0_1 l0_1.length l0_1) (hc0_1 : l0_1.length ≤ c0_1) (hr0_2 : Kd.C k43 w A0_2 l0_2.length l0_2) (hc0_2 : l0_2.length ≤ c0_2) (h : spec_l08Times.f k l0_0 l0_1 l0_2 = some r) :
  Calls Try.prog 108 #[.agg #[.slice A0_0 l0_0.length c0_0, .slice A0_1 l0_1.length c0_1, .slice A0_2 l0_2.length c0_2]] w fun e w' => ∃ v0_ : Value, e = .returned (v0_) ∧ Kd.R (Kd.int .i64) 2 w' w.heap.size (fun _ => True) v0_ r ∧ Below w.heap.size w w' := by
 have hu32 := Try.underlying32
 have hu43 := Try.underlying43
 have HR0_0 := Aside0.mk hr0_0
 have HC0_0 := Aside0.mk hc0_0
 clear hr0_0 hc0_0
 have HR0_1 := Aside0.mk hr0_1
 have HC0_1 := Aside0.mk hc0_1
 clear hr0_1 hc0_1
 have HR0_2 := Aside0.mk hr0_2
 have HC0_2 := Aside0.mk hc0_2
 clear hr0_2 hc0_2
 have HB := Aside0.mk (Below.refl w.heap.size w)
 have H : (spec_l08Times.l0 k (([] : List Int)) 0 l0_0 l0_1 l0_2) = some r := h
 clear h
 obtain ⟨y1188, hy1188⟩ : ∃ y_ : List Int, y_ = (([] : List Int)) := ⟨_, rfl⟩
 replace H : (spec_l08Times.l0 k y1188 0 l0_0 l0_1 l0_2) = some r := by first | (rw [hy1188]; with_reducible exact H) | (have H2_ := (Option.bind_some _ _).symm.trans H; rw [hy1188]; with_reducible exact H2_) | (have H2_ := (Option.bind_some _ _).symm.trans H; with_reducible exact H2_) | with_reducible exact H | (rw [hy1188]; exact H) | exact H
 have Ny1188 := Aside0.mk hy1188
 clear hy1188
 have H' := Aside0.mk H
 clear H
 go_enter Try.func108, Try.ntmps108
 go_wp2_with (first | ((with_reducible refine gate_dst (N := 1) rfl ?_); refine box_event ?hg (N := 1) ?hd (cs := #[.slice A0_0 l0_0.length c0_0, .slice A0_1 l0_1.length c0_1, .slice A0_2 l0_2.length c0_2]) (t := 32) ?hr ?_; (case hd => rfl); (case hg => rfl); (case hr => first | (go_simp; done) | (go_simp; rfl)); intro gb1187 hg w2 hbox hb; have n0_ := Aside0.mk (below_step Zc hb); have n1_ := Aside0.mk (hbox); have n2_ := Aside0.mk ((Zd : w.heap.size ≤ gb1187)); have n3_ := Aside0.mk ((Zd : w.heap.size ≤ gb1187)); clear HB; have HB := n0_; have BK1187 := n1_; have GW1187 := n2_; have GE1187 := n3_; clear n0_ n1_ n2_ n3_; clear hb hbox hg) | ((with_reducible refine gate_dst (N := 5) rfl ?_); refine Kd.R_lit (Kd.int .i64) _ 2 ?hg (N := 5) ?hd (xs := ([] : List Int)) (inner := []) (ok := fun _ => True) (okp := fun _ => True) ?hr ?hp (fun _ hk => hk) trivial (Below.refl _ _) (Nat.le_refl _) (by simp) ?_; (case hd => rfl); (case hg => rfl); (case hr => first | (go_simp; done) | (go_simp; rfl)); (case hp => exact (Reps.none _ _)); intro v1189 w3 ho4 hb hg_ hnew_; clear hg_ hnew_; (first | rw [← Ny1188.out] at ho4 | (simp only [Int.reduceToNat] at ho4; rw [← Ny1188.out] at ho4)); have n0_ := Aside0.mk (Kd.R_lower ho4 (below_size (have z0_ := GE1187; Zf))); have n1_ := Aside0.mk (blk_below (g := gb1187) (o := .cells #[.slice A0_0 l0_0.length c0_0, .slice A0_1 l0_1.length c0_1, .slice A0_2 l0_2.length c0_2] 32 (0, 0)) (have z0_ := BK1187; Ze) hb); have n2_ := Aside0.mk (below_step (have z0_ := GE1187; Zf) hb); clear BK1187; clear HB; have HO1190 := n0_; have BK1187 := n1_; have HB := n2_; clear n0_ n1_ n2_; clear hb ho4))
 go_loopg [3, 4] k (fun kq v3 v4 w' => ∃ (x3_1 : List Int) (x4_1 : Int), v4 = .int .i64 x4_1 ∧ Aside0 (spec_l08Times.l0 kq x3_1 x4_1 l0_0 l0_1 l0_2 = some r) ∧ Aside0 (kq ≤ k) ∧ Aside0 (Kd.R (Kd.int .i64) 2 w' w.heap.size (fun _ => True) v3 x3_1) ∧ Aside0 (w'.heap[gb1187]? = some (.cells #[(.slice A0_0 l0_0.length c0_0), (.slice A0_1 l0_1.length c0_1), (.slice A0_2 l0_2.length c0_2)] 32 (0, 0))) ∧ Aside0 (Below w.heap.size w w'))
 case atStart => exact ⟨(y1188), (0), Za, H', ⟨Nat.le_refl _⟩, ⟨(have z0_ := HO1190; Zq)⟩, ⟨(have z0_ := BK1187; Ze)⟩, ⟨(have z0_ := GE1187; Zf)⟩⟩
 case round =>
  clear H'
  try clear c1
  try clear p2
  obtain ⟨x3_1, x4_1, rfl, HA, HK1, HO_3, BK1187, HB⟩ := hrel
  cases gk with
  | zero => exact absurd HA.out (by simp [spec_l08Times.l0])
  | succ k1 =>
   have H := HA.out
   clear HA
   simp only [spec_l08Times.l0] at H
   by_cases c5 : x4_1 < (l0_2.length : Int)
   ·rw [if_pos c5] at H
    have c5b0 : decide (x4_1 < (l0_2.length : Int)) = true := decide_eq_true c5
    clear c5
    by_cases c6 : 0 ≤ x4_1
    ·rw [if_pos c6] at H
     have c6b0 : decide (0 ≤ x4_1) = true := decide_eq_true c6
     clear c6
     replace H := Option.bind_eq_some_iff.mp H
     obtain ⟨t1192, A70, H⟩ := H
     replace H : (if x3_1.length < 17592186044416 then (spec_l08Times.l0 k1 (x3_1 ++ [t1192]) (wrap64 (x4_1 + 1)) l0_0 l0_1 l0_2) else (none)) = some r := H
     have A7 := Aside0.mk A70
     clear A70
     by_cases c8 : x3_1.length < 17592186044416
     ·rw [if_pos c8] at H
      have LMc8 := Aside0.mk c8
      clear c8
      obtain ⟨y1193, hy1193⟩ : ∃ y_ : List Int, y_ = (x3_1 ++ [t1192]) := ⟨_, rfl⟩
      replace H : (spec_l08Times.l0 k1 y1193 (wrap64 (x4_1 + 1)) l0_0 l0_1 l0_2) = some r := by first | (rw [hy1193]; with_reducible exact H) | (have H2_ := (Option.bind_some _ _).symm.trans H; rw [hy1193]; with_reducible exact H2_) | (have H2_ := (Option.bind_some _ _).symm.trans H; with_reducible exact H2_) | with_reducible exact H | (rw [hy1193]; exact H) | exact H
      have Ny1193 := Aside0.mk hy1193
      clear hy1193
      have H' := Aside0.mk H
      clear H
      obtain ⟨hcz9_0, hcz9_1, hcz9_2, hfz9_0, hfz9_1, hfz9_2⟩ := cz3 BK1187
      try go_wp2
      have n0_ := Aside0.mk (Kd.R_drew HO_3.out)
      have n1_ := Aside0.mk (blk_drew BK1187.out)
      have n2_ := Aside0.mk (below_drew1 HB.out)
      clear HO_3
      clear BK1187
      clear HB
      have HO_3 := n0_
      have BK1187 := n1_
      have HB := n2_
      clear n0_ n1_ n2_
      have p1191 : 0 ≤ (x4_1 : Int) := of_decide_eq_true Zp
      have q1191 : x4_1 < (l0_2.length : Int) := of_decide_eq_true Zp
      obtain ⟨ad1191, e1191, hx1191_0, hx1191_1, hx1191_2, hx1191_3⟩ := at_T43 HR0_2.out x4_1 p1191 q1191
      have hw1191_3 := hx1191_3
      have hw1191_2 := hx1191_2
      have hw1191_1 := hx1191_1
      have hw1191_0 := hx1191_0
      cases e1191
      replace hx1191_0 := cbH HB hx1191_0
      replace hx1191_1 := cbH HB hx1191_1
      replace hx1191_2 := cbH HB hx1191_2
      replace hx1191_3 := cbH HB hx1191_3
      replace p1191 := eq_true p1191
      replace q1191 := eq_true q1191
      refine start_ (n := 11) (S := fun w' => w'.cell? ⟨gb1187, 0, none⟩ = some (.slice A0_0 l0_0.length c0_0) ∧ w'.cell? ⟨gb1187, 1, none⟩ = some (.slice A0_1 l0_1.length c0_1) ∧ w'.cell? ⟨gb1187, 2, none⟩ = some (.slice (some ad1191) l0_2.length c0_2) ∧ w'.cell? (ad1191.add ((x4_1).toNat * 4)) = some (.int .i64 ((rd_T43 l0_2 x4_1).f0)) ∧ w'.cell? ⟨(ad1191.add ((x4_1).toNat * 4)).block, (ad1191.add ((x4_1).toNat * 4)).off + 1, none⟩ = some (.int .i64 ((rd_T43 l0_2 x4_1).f1)) ∧ w'.cell? ⟨(ad1191.add ((x4_1).toNat * 4)).block, (ad1191.add ((x4_1).toNat * 4)).off + 2, none⟩ = some (.string ((rd_T43 l0_2 x4_1).f2)) ∧ w'.cell? ⟨(ad1191.add ((x4_1).toNat * 4)).block, (ad1191.add ((x4_1).toNat * 4)).off + 3, none⟩ = some (.int .i64 ((rd_T43 l0_2 x4_1).f3))) (ds := []) (bT 11 0) Zj rfl rfl ⟨(blk_cell BK1187.out 0).trans rfl, (blk_cell BK1187.out 1).trans rfl, (blk_cell BK1187.out 2).trans rfl, (cbH HB hw1191_0 :), (cbH HB hw1191_1 :), (cbH HB hw1191_2 :), (cbH HB hw1191_3 :)⟩ (fun hHeld => ?_); refine with_tabW spec_l08Times.tab5 spec_l08Times.bits5 (fun HT_ HW_ => ?_)
      generalize wr.drew = w10 at HO_3 BK1187 HB hx1191_0 hx1191_1 hx1191_2 hx1191_3 hHeld ⊢
      refine pureZ HT_ 0 (some 13) (bT 11 1) ?_
      refine pureZ HT_ 2 (some 15) #[true, false, true, false, false, false, false, false, false, false, false] ?_
      refine pureZ HT_ 4 (some 17) #[true, false, true, false, true, false, false, false, false, false, false] ?_
      refine take_ (i := 1) (N := some 14) (v := ?_) (a' := ?_) #[true, true, true, false, true, false, false, false, false, false, false] rfl rfl (take_ofW HT_.out HW_.out Zj) (fun _ _ _ h => h) (Or.inl ⟨by rfl, ?_⟩) hHeld ?_ ?_
      rotate_left
      ·rintro w' ⟨s0, s1, s2, s3, s4, s5, s6⟩
       go_simp
       with_reducible rfl
      rotate_left
      ·exact Zput
      refine take_ (i := 3) (N := some 16) (v := ?_) (a' := ?_) (bT 11 5) rfl rfl (take_ofW HT_.out HW_.out Zj) (fun _ _ _ h => h) (Or.inl ⟨by rfl, ?_⟩) hHeld ?_ ?_
      rotate_left
      ·rintro w' ⟨s0, s1, s2, s3, s4, s5, s6⟩
       go_simp
       with_reducible rfl
      rotate_left
      ·exact Zput
      refine pureZ HT_ 5 (some 18) (bT 11 6) ?_
      refine take_ (i := 6) (N := some 19) (v := ?_) (a' := ?_) (bT 11 7) rfl rfl (take_ofW HT_.out HW_.out Zj) (fun _ _ _ h => h) (Or.inl ⟨by rfl, ?_⟩) hHeld ?_ ?_
      rotate_left
      ·rintro w' ⟨s0, s1, s2, s3, s4, s5, s6⟩
       go_simp
       with_reducible rfl
      rotate_left
      ·exact Zput
      refine one_ (i := 7) (N := some 20) (bT 11 8) rfl rfl (one_of HT_.out Zj) (by decide) (fun K hK => ?_)
      refine goes_ Try.func95 Zj rfl #[.agg #[.slice A0_0 l0_0.length c0_0, .slice A0_1 l0_1.length c0_1, .slice (some ad1191) l0_2.length c0_2], .agg #[.int .i64 ((rd_T43 l0_2 x4_1).f0), .int .i64 ((rd_T43 l0_2 x4_1).f1), .string ((rd_T43 l0_2 x4_1).f2), .int .i64 ((rd_T43 l0_2 x4_1).f3)]] (by rfl) rfl rfl Zo ?_
      with_reducible refine (spec_l08Time.calls k1 _ _ l0_0 _ _ l0_1 _ _ l0_2 ((rd_T43 l0_2 x4_1).f0) ((rd_T43 l0_2 x4_1).f1) ((rd_T43 l0_2 x4_1).f2) ((rd_T43 l0_2 x4_1).f3) t1192 _ ?side1 ?side2 ?side3 ?side4 ?side5 ?side6 A7.out).mono ?_
      (case side1 => repeat (first | exact (Kd.C_below HR0_0.out HB.out) | (with_reducible refine Kd.C_alloc ?_ _) | (with_reducible refine Kd.C_drewN ?_ _) | (with_reducible refine Kd.C_drew ?_)))
      (case side2 => exact HC0_0.out)
      (case side3 => repeat (first | exact (Kd.C_below HR0_1.out HB.out) | (with_reducible refine Kd.C_alloc ?_ _) | (with_reducible refine Kd.C_drewN ?_ _) | (with_reducible refine Kd.C_drew ?_)))
      (case side4 => exact HC0_1.out)
      (case side5 => repeat (first | exact (Kd.C_below HR0_2.out HB.out) | (with_reducible refine Kd.C_alloc ?_ _) | (with_reducible refine Kd.C_drewN ?_ _) | (with_reducible refine Kd.C_drew ?_)))
      (case side6 => exact HC0_2.out)
      rintro e w11 ⟨rfl, hb⟩
      refine ⟨_, rfl, ?_⟩
      have n0_ := Aside0.mk (Kd.R_below (have z0_ := HO_3; Zq) hb)
      have n1_ := Aside0.mk (blk_below (g := gb1187) (o := .cells #[.slice A0_0 l0_0.length c0_0, .slice A0_1 l0_1.length c0_1, .slice (some ad1191) l0_2.length c0_2] 32 (0, 0)) (have z0_ := BK1187; Ze) hb)
      have n2_ := Aside0.mk (below_step (have z0_ := GE1187; Zf) hb)
      clear HO_3
      clear BK1187
      clear HB
      have HO_3 := n0_
      have BK1187 := n1_
      have HB := n2_
      clear n0_ n1_ n2_
      (try clear hb)
      (try clear hb2)
      (try clear hk)
      (try clear hi)
      refine hK.out _ _ ⟨(blk_cell BK1187.out 0).trans rfl, (blk_cell BK1187.out 1).trans rfl, (blk_cell BK1187.out 2).trans rfl, (cbH HB hw1191_0 :), (cbH HB hw1191_1 :), (cbH HB hw1191_2 :), (cbH HB hw1191_3 :)⟩ (fun hHeld => ?_)
      clear hK K
      refine norm_ (a' := ?_) ?_ ?_
      rotate_left
      ·show Act.put _ (some 20) _ = _
       simp only [Act.put, List.setIfInBounds_toArray, List.set_cons_zero, List.set_cons_succ, i64_w, i32_w]
       rfl
      refine one_ (i := 8) (N := some 21) (bT 11 9) rfl rfl (one_of HT_.out Zj) (by decide) (fun K hK => ?_)
      refine value_ (w1 := ?_) (v := ?_) (by rfl) rfl ?_ ?_
      rotate_left 2
      ·go_simp
       constructor
       ·rfl
       ·rfl
      refine hK.out _ _ ⟨(blk_cell (blk_alloc BK1187.out _) 0).trans rfl, (blk_cell (blk_alloc BK1187.out _) 1).trans rfl, (blk_cell (blk_alloc BK1187.out _) 2).trans rfl, (World.cell?_alloc_lt _ _ _ (World.block_lt_of_cell? _ _ ((cbH HB hw1191_0 :)))).trans ((cbH HB hw1191_0 :)), (World.cell?_alloc_lt _ _ _ (World.block_lt_of_cell? _ _ ((cbH HB hw1191_1 :)))).trans ((cbH HB hw1191_1 :)), (World.cell?_alloc_lt _ _ _ (World.block_lt_of_cell? _ _ ((cbH HB hw1191_2 :)))).trans ((cbH HB hw1191_2 :)), (World.cell?_alloc_lt _ _ _ (World.block_lt_of_cell? _ _ ((cbH HB hw1191_3 :)))).trans ((cbH HB hw1191_3 :))⟩ (fun hHeld => ?_)
      clear hK K
      refine norm_ (a' := ?_) ?_ ?_
      rotate_left
      ·show Act.put _ (some 21) _ = _
       simp only [Act.put, List.setIfInBounds_toArray, List.set_cons_zero, List.set_cons_succ, i64_w, i32_w]
       rfl
      refine one_ (i := 9) (N := some 22) (bT 11 10) rfl rfl (one_of HT_.out Zj) (by decide) (fun K hK => ?_)
      refine Kd.R_append_step (Kd.int .i64) (w0 := w) w.heap.size (by rfl) (.tmp 13) (.tmp 21) 61 2 (.int .i64 0) 8 rfl Try.underlying61 info2 rfl (by decide) (by omega) u3 x3_1 t1192 [.int .i64 t1192] (fun _ => True) (fun _ => False) rfl rfl ?aP (fun _ hk => hk.elim) ?aF ?aO ?aB ?aS ?aL ?_
      (case aP => exact rfl)
      (case aB => exact (have z0_ := GE1187; Zf))
      (case aF => exact (fun _ _ => trivial))
      (case aO => exact (have z0_ := HO_3; Zq))
      (case aS => exact (below_size (have z0_ := GE1187; Zf)))
      (case aL => have := LMc8.out; omega)
      intro v1194 w12 ho hb hg hat
      rw [← Ny1193.out] at ho
      have n0_ := Aside0.mk (blk_grown (g := gb1187) (o := .cells #[.slice A0_0 l0_0.length c0_0, .slice A0_1 l0_1.length c0_1, .slice (some ad1191) l0_2.length c0_2] 32 (0, 0)) (have z0_ := BK1187; Ze) hg (Kd.R_ne HO_3.out BK1187.out (by decide)))
      have n1_ := Aside0.mk (hb)
      have n2_ := Aside0.mk (ho)
      clear BK1187
      clear HB
      clear HO_3
      have BK1187 := n0_
      have HB := n1_
      have HO1195 := n2_
      clear n0_ n1_ n2_
      clear ho hb hg hat
      refine hK.out _ _ ⟨(blk_cell BK1187.out 0).trans rfl, (blk_cell BK1187.out 1).trans rfl, (blk_cell BK1187.out 2).trans rfl, (cbH HB hw1191_0 :), (cbH HB hw1191_1 :), (cbH HB hw1191_2 :), (cbH HB hw1191_3 :)⟩ (fun hHeld => ?_)
      clear hK K
      refine norm_ (a' := ?_) ?_ ?_
      rotate_left
      ·show Act.put _ (some 22) _ = _
       simp only [Act.put, List.setIfInBounds_toArray, List.set_cons_zero, List.set_cons_succ, i64_w, i32_w]
       rfl
      refine pureZ HT_ 10 (some 3) (bT 11 11) ?_
      refine done_ (done_of HT_.out Zj) ?_
      try go_wp2
      go_roundg k1
      case measure => have := HK1.out; omega
      case rel => exact ⟨(y1193), (wrap64 (x4_1 + 1)), Za, H', ⟨Zt⟩, ⟨(have z0_ := HO1195; Zq)⟩, ⟨(have z0_ := BK1187; Ze)⟩, ⟨(have z0_ := GE1187; Zf)⟩⟩
     ·rw [if_neg c8] at H
      exact absurd H (by simp)
    ·rw [if_neg c6] at H
     exact absurd H (by simp)
   ·rw [if_neg c5] at H
    have c5b0 : decide (x4_1 < (l0_2.length : Int)) = false := decide_eq_false c5
    clear c5
    obtain rfl := Option.some.inj H
    obtain ⟨hcz13_0, hcz13_1, hcz13_2, hfz13_0, hfz13_1, hfz13_2⟩ := cz3 BK1187
    go_wp2
    go_ret
    exact ⟨_, Zk, (have z0_ := HO_3; Zq), (have z0_ := GE1187; Zf)⟩
end Go.Proofs.Ytnlbaflbhicooaa.F
namespace Go.Proofs.Ytnlbaflbhicooaa.F
open Go.RowKit Go.Proofs.YtnlbaflbhicooaaW.PrintWords Go.Proofs.YtnlbaflbhicooaaW.PrintLast Go.Proofs.YtnlbaflbhicooaaW.PrintMore
attribute [local go_sem] max2_int min2_int max_two min_two max_three min_three max_four min_four   -- for this text's walks alone
set_option linter.unusedVariables false
set_option linter.unusedSimpArgs false
def spec_l08Between.l0 : Nat → List Int → Int → Int → List Int → Int → Option (List Int)
 | 0, _, _, _, _, _ => none
 | k + 1, x0, x1, x2, x7, x8 => if x8 < (x0.length : Int) then (if 0 ≤ x8 then (if (rd x0 x8) ≥ x1 then (if (rd x0 x8) < x2 then (if x7.length < 17592186044416 then (spec_l08Between.l0 k x0 x1 x2 (x7 ++ [x8]) (wrap64 (x8 + 1))) else (none)) else (spec_l08Between.l0 k x0 x1 x2 x7 (wrap64 (x8 + 1)))) else (spec_l08Between.l0 k x0 x1 x2 x7 (wrap64 (x8 + 1)))) else (none)) else (some x7)
def spec_l08Between.f (k : Nat) (l0 : List Int) (a1 : Int) (a2 : Int) : Option (List Int) := spec_l08Between.l0 k l0 a1 a2 (([] : List Int)) 0
set_option maxHeartbeats 8000000 in
set_option maxRecDepth 100000 in
theorem spec_l08Between.calls (k : Nat) (A0 : Option Addr) (c0 : Nat) (l0 : List Int) (a1 : Int) (a2 : Int) (r : List Int) (w : World) (hr0 : Kd.C (Kd.int .i64) w A0 l0.length l0) (hc0 : l0.length ≤ c0) (h : spec_l08Between.f k l0 a1 a2 = some r) :
  Calls Try.prog 109 #[.slice A0 l0.length c0, .int .i64 a1, .int .i64 a2] w fun e w' => ∃ v0_ : Value, e = .returned (v0_) ∧ Kd.R (Kd.int .i64) 2 w' w.heap.size (fun _ => True) v0_ r ∧ Below w.heap.size w w' := by
 have HR0 := Aside0.mk hr0
 have HC0 := Aside0.mk hc0
 clear hr0 hc0
 have HB := Aside0.mk (Below.refl w.heap.size w)
 have H : (spec_l08Between.l0 k l0 a1 a2 (([] : List Int)) 0) = some r := h
 clear h
 obtain ⟨y1196, hy1196⟩ : ∃ y_ : List Int, y_ = (([] : List Int)) := ⟨_, rfl⟩
 replace H : (spec_l08Between.l0 k l0 a1 a2 y1196 0) = some r := by first | (rw [hy1196]; with_reducible exact H) | (have H2_ := (Option.bind_some _ _).symm.trans H; rw [hy1196]; with_reducible exact H2_) | (have H2_ := (Option.bind_some _ _).symm.trans H; with_reducible exact H2_) | with_reducible exact H | (rw [hy1196]; exact H) | exact H
 have Ny1196 := Aside0.mk hy1196
 clear hy1196
 have H' := Aside0.mk H
 clear H
 go_enter Try.func109, Try.ntmps109
 go_wp2_with (first | ((with_reducible refine gate_dst (N := 9) rfl ?_); refine Kd.R_lit (Kd.int .i64) _ 2 ?hg (N := 9) ?hd (xs := ([] : List Int)) (inner := []) (ok := fun _ => True) (okp := fun _ => True) ?hr ?hp (fun _ hk => hk) trivial (Below.refl _ _) (Nat.le_refl _) (by simp) ?_; (case hd => rfl); (case hg => rfl); (case hr => first | (go_simp; done) | (go_simp; rfl)); (case hp => exact (Reps.none _ _)); intro v1197 w4 ho5 hb hg_ hnew_; clear hg_ hnew_; (first | rw [← Ny1196.out] at ho5 | (simp only [Int.reduceToNat] at ho5; rw [← Ny1196.out] at ho5)); have n0_ := Aside0.mk (Kd.R_lower ho5 (below_size Zc)); have n1_ := Aside0.mk (below_step Zc hb); clear HB; have HO1198 := n0_; have HB := n1_; clear n0_ n1_; clear hb ho5))
 go_loopg [7, 8] k (fun kq v7 v8 w' => ∃ (x7_1 : List Int) (x8_1 : Int), v8 = .int .i64 x8_1 ∧ Aside0 (spec_l08Between.l0 kq l0 a1 a2 x7_1 x8_1 = some r) ∧ Aside0 (kq ≤ k) ∧ Aside0 (Kd.R (Kd.int .i64) 2 w' w.heap.size (fun _ => True) v7 x7_1) ∧ Aside0 (Below w.heap.size w w'))
 case atStart => exact ⟨(y1196), (0), Za, H', ⟨Nat.le_refl _⟩, ⟨(have z0_ := HO1198; Zq)⟩, ⟨Zc⟩⟩
 case round =>
  clear H'
  try clear c1
  try clear p2
  obtain ⟨x7_1, x8_1, rfl, HA, HK1, HO_7, HB⟩ := hrel
  cases gk with
  | zero => exact absurd HA.out (by simp [spec_l08Between.l0])
  | succ k1 =>
   have H := HA.out
   clear HA
   simp only [spec_l08Between.l0] at H
   by_cases c6 : x8_1 < (l0.length : Int)
   ·rw [if_pos c6] at H
    have c6b0 : decide (x8_1 < (l0.length : Int)) = true := decide_eq_true c6
    clear c6
    by_cases c7 : 0 ≤ x8_1
    ·rw [if_pos c7] at H
     have c7b0 : decide (0 ≤ x8_1) = true := decide_eq_true c7
     clear c7
     by_cases c8 : (rd l0 x8_1) ≥ a1
     ·rw [if_pos c8] at H
      have c8b0 : decide (a1 ≤ (rd l0 x8_1)) = true := decide_eq_true c8
      clear c8
      by_cases c9 : (rd l0 x8_1) < a2
      ·rw [if_pos c9] at H
       have c9b0 : decide ((rd l0 x8_1) < a2) = true := decide_eq_true c9
       clear c9
       by_cases c10 : x7_1.length < 17592186044416
       ·rw [if_pos c10] at H
        have LMc10 := Aside0.mk c10
        clear c10
        obtain ⟨y1201, hy1201⟩ : ∃ y_ : List Int, y_ = (x7_1 ++ [x8_1]) := ⟨_, rfl⟩
        replace H : (spec_l08Between.l0 k1 l0 a1 a2 y1201 (wrap64 (x8_1 + 1))) = some r := by first | (rw [hy1201]; with_reducible exact H) | (have H2_ := (Option.bind_some _ _).symm.trans H; rw [hy1201]; with_reducible exact H2_) | (have H2_ := (Option.bind_some _ _).symm.trans H; with_reducible exact H2_) | with_reducible exact H | (rw [hy1201]; exact H) | exact H
        have Ny1201 := Aside0.mk hy1201
        clear hy1201
        have H' := Aside0.mk H
        clear H
        have p1199 : 0 ≤ (x8_1 : Int) := of_decide_eq_true Zp
        have q1199 : x8_1 < (l0.length : Int) := of_decide_eq_true Zp
        obtain ⟨ad1199, e1199, hx1199_0⟩ := Kd.at_int HR0.out x8_1 p1199 q1199
        cases e1199
        replace hx1199_0 := cbH HB hx1199_0
        replace p1199 := eq_true p1199
        replace q1199 := eq_true q1199
        have p1200 : 0 ≤ (x8_1 : Int) := of_decide_eq_true Zp
        have q1200 : x8_1 < (l0.length : Int) := of_decide_eq_true Zp
        obtain ⟨ad1200, e1200, hx1200_0⟩ := Kd.at_int HR0.out x8_1 p1200 q1200
        obtain rfl : ad1199 = ad1200 := (by injection e1200)
        replace hx1200_0 := cbH HB hx1200_0
        replace p1200 := eq_true p1200
        replace q1200 := eq_true q1200
        go_wp2_with (first | ((with_reducible refine gate_builtin (b := .append) (xs := #[.tmp 30, .tmp 32]) rfl ?_); at_builtin; refine Kd.R_append (Kd.int .i64) (w0 := w) w.heap.size rfl (.tmp 30) (.tmp 32) 61 2 (.int .i64 0) 8 rfl Try.underlying61 info2 rfl (by decide) (by omega) u7 x7_1 x8_1 [.int .i64 x8_1] (fun _ => True) (fun _ => False) rfl rfl ?aP (fun _ hk => hk.elim) ?aF ?aO ?aB ?aS ?aL ?_; (case aP => exact rfl); (case aB => exact Zc); (case aF => exact (fun _ _ => trivial)); (case aO => exact (have z0_ := HO_7; Zq)); (case aS => exact (below_size Zc)); (case aL => have := LMc10.out; omega); intro v1202 w11 ho hb hg hat; rw [← Ny1201.out] at ho; have n0_ := Aside0.mk (hb); have n1_ := Aside0.mk (ho); clear HB; clear HO_7; have HB := n0_; have HO1203 := n1_; clear n0_ n1_; clear ho hb hg hat))
        go_roundg k1
        case measure => have := HK1.out; omega
        case rel => exact ⟨(y1201), (wrap64 (x8_1 + 1)), Za, H', ⟨Zt⟩, ⟨(have z0_ := HO1203; Zq)⟩, ⟨Zc⟩⟩
       ·rw [if_neg c10] at H
        exact absurd H (by simp)
      ·rw [if_neg c9] at H
       have c9b0 : decide ((rd l0 x8_1) < a2) = false := decide_eq_false c9
       clear c9
       have H' := Aside0.mk H
       clear H
       have p1199 : 0 ≤ (x8_1 : Int) := of_decide_eq_true Zp
       have q1199 : x8_1 < (l0.length : Int) := of_decide_eq_true Zp
       obtain ⟨ad1199, e1199, hx1199_0⟩ := Kd.at_int HR0.out x8_1 p1199 q1199
       cases e1199
       replace hx1199_0 := cbH HB hx1199_0
       replace p1199 := eq_true p1199
       replace q1199 := eq_true q1199
       have p1200 : 0 ≤ (x8_1 : Int) := of_decide_eq_true Zp
       have q1200 : x8_1 < (l0.length : Int) := of_decide_eq_true Zp
       obtain ⟨ad1200, e1200, hx1200_0⟩ := Kd.at_int HR0.out x8_1 p1200 q1200
       obtain rfl : ad1199 = ad1200 := (by injection e1200)
       replace hx1200_0 := cbH HB hx1200_0
       replace p1200 := eq_true p1200
       replace q1200 := eq_true q1200
       go_wp2
       go_roundg k1
       case measure => have := HK1.out; omega
       case rel => exact ⟨(x7_1), (wrap64 (x8_1 + 1)), Za, H', ⟨Zt⟩, ⟨(have z0_ := HO_7; Zq)⟩, ⟨Zc⟩⟩
     ·rw [if_neg c8] at H
      have c8b0 : decide (a1 ≤ (rd l0 x8_1)) = false := decide_eq_false c8
      clear c8
      have H' := Aside0.mk H
      clear H
      have p1199 : 0 ≤ (x8_1 : Int) := of_decide_eq_true Zp
      have q1199 : x8_1 < (l0.length : Int) := of_decide_eq_true Zp
      obtain ⟨ad1199, e1199, hx1199_0⟩ := Kd.at_int HR0.out x8_1 p1199 q1199
      cases e1199
      replace hx1199_0 := cbH HB hx1199_0
      replace p1199 := eq_true p1199
      replace q1199 := eq_true q1199
      go_wp2
      go_roundg k1
      case measure => have := HK1.out; omega
      case rel => exact ⟨(x7_1), (wrap64 (x8_1 + 1)), Za, H', ⟨Zt⟩, ⟨(have z0_ := HO_7; Zq)⟩, ⟨Zc⟩⟩
    ·rw [if_neg c7] at H
     exact absurd H (by simp)
   ·rw [if_neg c6] at H
    have c6b0 : decide (x8_1 < (l0.length : Int)) = false := decide_eq_false c6
    clear c6
    obtain rfl := Option.some.inj H
    go_wp2
    go_ret
    exact ⟨_, Zk, (have z0_ := HO_7; Zq), Zc⟩
end Go.Proofs.Ytnlbaflbhicooaa.F
namespace Go.Proofs.Ytnlbaflbhicooaa.F
open Go.RowKit Go.Proofs.YtnlbaflbhicooaaW.PrintWords Go.Proofs.YtnlbaflbhicooaaW.PrintLast Go.Proofs.YtnlbaflbhicooaaW.PrintMore
attribute [local go_sem] max2_int min2_int max_two min_two max_three min_three max_four min_four   -- for this text's walks alone
set_option linter.unusedVariables false
set_option linter.unusedSimpArgs false
def spec_l01IsTime.f (a0 : Int) : Option (Bool) := (spec_l01In.f a0 0 10000000).bind fun t1661 => (some t1661)
set_option maxHeartbeats 8000000 in
set_option maxRecDepth 100000 in
theorem spec_l01IsTime.calls (a0 : Int) (r : Bool) (w : World) (h : spec_l01IsTime.f a0 = some r) :
  Calls Try.prog 114 #[.int .i64 a0] w fun e w' => e = .returned (.bool r) ∧ Drawn0 w w' := by
 have H : ((spec_l01In.f a0 0 10000000).bind fun t1661 => (some t1661)) = some r := h
 clear h
 replace H := Option.bind_eq_some_iff.mp H
 obtain ⟨t1661, A20, H⟩ := H
 replace H : (some t1661) = some r := H
 have A2 := Aside0.mk A20
 clear A20
 obtain rfl := Option.some.inj H
 go_enter Try.func114, Try.ntmps114
 go_wp2_with (first | ((with_reducible refine gate_callee (f := 68) rfl ?_); refine goesL_ (some 4) rfl rfl Try.func68 Zj rfl #[.int .i64 a0, .int .i64 0, .int .i64 10000000] rfl Zo ?_; (with_reducible refine (spec_l01In.calls a0 0 10000000 t1661 _ A2.out).mono ?_); rintro e w' ⟨rfl, ⟨nd, rfl⟩⟩; refine ⟨_, rfl, ?_⟩))
 go_ret
 exact ⟨Za, Zb⟩
end Go.Proofs.Ytnlbaflbhicooaa.F
namespace Go.Proofs.Ytnlbaflbhicooaa.F
open Go.RowKit Go.Proofs.YtnlbaflbhicooaaW.PrintWords Go.Proofs.YtnlbaflbhicooaaW.PrintLast Go.Proofs.YtnlbaflbhicooaaW.PrintMore
attribute [local go_sem] max2_int min2_int max_two min_two max_three min_three max_four min_four   -- for this text's walks alone
set_option linter.unusedVariables false
set_option linter.unusedSimpArgs false
def spec_FiredAt.f (k : Nat) (l0_0 : List (S108)) (l0_1 : List (S92)) (l0_2 : List (S43)) (a1 : Int) : Option (List Int × Int) := (spec_IsShow.f k l0_0 l0_1 l0_2).bind fun t1663 => (if t1663 = true then ((spec_l01IsTime.f a1).bind fun t1664 => (if t1664 = true then ((spec_l08Times.f k l0_0 l0_1 l0_2).bind fun t1665 => ((spec_l08Between.f k t1665 a1 (wrap64 (a1 + 1))).bind fun t1668 => (some (t1668, 0)))) else (some (([] : List Int), 2)))) else (some (([] : List Int), 1)))
set_option maxHeartbeats 8000000 in
set_option maxRecDepth 100000 in
theorem spec_FiredAt.calls (k : Nat) (A0_0 : Option Addr) (c0_0 : Nat) (l0_0 : List (S108)) (A0_1 : Option Addr) (c0_1 : Nat) (l0_1 : List (S92)) (A0_2 : Option Addr) (c0_2 : Nat) (l0_2 : List (S43)) (a1 : Int) (r1 : List Int) (r2 : Int) (w : World) (hr0_0 : Kd.C k108 w A0_0 l0_0.length l0_0) (hc0_0 : l0_0.length ≤ c0_0) (hr0_1 : Kd.C k92 w A0_1 l0_1.length l0_1) (hc0_1 : l0_1.length ≤ c0_1) (hr0_2 : Kd.C k43 w A0_2 l0_2.length l0_2) (hc0_2 : l0_2.length ≤ c0_2) (h : spec_FiredAt.f k l0_0 l0_1 l0_2 a1 = some (r1, r2)) :
  Calls Try.prog 59 #[.agg #[.slice A0_0 l0_0.length c0_0, .slice A0_1 l0_1.length c0_1, .slice A0_2 l0_2.length c0_2], .int .i64 a1] w fun e w' => ∃ v0_ : Value, e = .returned (.tuple #[v0_, .int .i64 r2]) ∧ Kd.R (Kd.int .i64) 2 w' w.heap.size (fun _ => True) v0_ r1 ∧ Below w.heap.size w w' := by
 have hu32 := Try.underlying32
 have HR0_0 := Aside0.mk hr0_0
 have HC0_0 := Aside0.mk hc0_0
 clear hr0_0 hc0_0
 have HR0_1 := Aside0.mk hr0_1
 have HC0_1 := Aside0.mk hc0_1
 clear hr0_1 hc0_1
 have HR0_2 := Aside0.mk hr0_2
 have HC0_2 := Aside0.mk hc0_2
 clear hr0_2 hc0_2
 have HB := Aside0.mk (Below.refl w.heap.size w)
 have H : ((spec_IsShow.f k l0_0 l0_1 l0_2).bind fun t1663 => (if t1663 = true then ((spec_l01IsTime.f a1).bind fun t1664 => (if t1664 = true then ((spec_l08Times.f k l0_0 l0_1 l0_2).bind fun t1665 => ((spec_l08Between.f k t1665 a1 (wrap64 (a1 + 1))).bind fun t1668 => (some (t1668, 0)))) else (some (([] : List Int), 2)))) else (some (([] : List Int), 1)))) = some (r1, r2) := h
 clear h
 replace H := Option.bind_eq_some_iff.mp H
 obtain ⟨t1663, A30, H⟩ := H
 replace H : (if t1663 = true then ((spec_l01IsTime.f a1).bind fun t1664 => (if t1664 = true then ((spec_l08Times.f k l0_0 l0_1 l0_2).bind fun t1665 => ((spec_l08Between.f k t1665 a1 (wrap64 (a1 + 1))).bind fun t1668 => (some (t1668, 0)))) else (some (([] : List Int), 2)))) else (some (([] : List Int), 1))) = some (r1, r2) := H
 have A3 := Aside0.mk A30
 clear A30
 by_cases c4 : t1663 = true
 ·subst c4
  have H1 : ((spec_l01IsTime.f a1).bind fun t1664 => (if t1664 = true then ((spec_l08Times.f k l0_0 l0_1 l0_2).bind fun t1665 => ((spec_l08Between.f k t1665 a1 (wrap64 (a1 + 1))).bind fun t1668 => (some (t1668, 0)))) else (some (([] : List Int), 2)))) = some (r1, r2) := by rw [if_pos rfl] at H; exact H
  clear H
  have H := H1
  clear H1
  replace H := Option.bind_eq_some_iff.mp H
  obtain ⟨t1664, A50, H⟩ := H
  replace H : (if t1664 = true then ((spec_l08Times.f k l0_0 l0_1 l0_2).bind fun t1665 => ((spec_l08Between.f k t1665 a1 (wrap64 (a1 + 1))).bind fun t1668 => (some (t1668, 0)))) else (some (([] : List Int), 2))) = some (r1, r2) := H
  have A5 := Aside0.mk A50
  clear A50
  by_cases c6 : t1664 = true
  ·subst c6
   have H1 : ((spec_l08Times.f k l0_0 l0_1 l0_2).bind fun t1665 => ((spec_l08Between.f k t1665 a1 (wrap64 (a1 + 1))).bind fun t1668 => (some (t1668, 0)))) = some (r1, r2) := by rw [if_pos rfl] at H; exact H
   clear H
   have H := H1
   clear H1
   replace H := Option.bind_eq_some_iff.mp H
   obtain ⟨t1665, A70, H⟩ := H
   replace H : ((spec_l08Between.f k t1665 a1 (wrap64 (a1 + 1))).bind fun t1668 => (some (t1668, 0))) = some (r1, r2) := H
   have A7 := Aside0.mk A70
   clear A70
   replace H := Option.bind_eq_some_iff.mp H
   obtain ⟨t1668, A80, H⟩ := H
   replace H : (some (t1668, 0)) = some (r1, r2) := H
   have A8 := Aside0.mk A80
   clear A80
   simp only [Option.some.injEq, Prod.mk.injEq] at H
   obtain ⟨rfl, rfl⟩ := H
   go_enter Try.func59, Try.ntmps59
   go_wp2_with (first | ((with_reducible refine gate_dst (N := 2) rfl ?_); refine box_event ?hg (N := 2) ?hd (cs := #[.slice A0_0 l0_0.length c0_0, .slice A0_1 l0_1.length c0_1, .slice A0_2 l0_2.length c0_2]) (t := 32) ?hr ?_; (case hd => rfl); (case hg => rfl); (case hr => first | (go_simp; done) | (go_simp; rfl)); intro gb1662 hg w9 hbox hb; have n0_ := Aside0.mk (below_step Zc hb); have n1_ := Aside0.mk (hbox); have n2_ := Aside0.mk ((Zd : w.heap.size ≤ gb1662)); have n3_ := Aside0.mk ((Zd : w.heap.size ≤ gb1662)); clear HB; have HB := n0_; have BK1662 := n1_; have GW1662 := n2_; have GE1662 := n3_; clear n0_ n1_ n2_ n3_; clear hb hbox hg; obtain ⟨hcz10_0, hcz10_1, hcz10_2, hfz10_0, hfz10_1, hfz10_2⟩ := cz3 BK1662) | ((with_reducible refine gate_callee (f := 36) rfl ?_); refine goesL_ (some 7) rfl rfl Try.func36 Zj rfl #[.agg #[.slice A0_0 l0_0.length c0_0, .slice A0_1 l0_1.length c0_1, .slice A0_2 l0_2.length c0_2]] rfl Zo ?_; (with_reducible refine (spec_IsShow.calls k _ _ l0_0 _ _ l0_1 _ _ l0_2 true _ ?side1 ?side2 ?side3 ?side4 ?side5 ?side6 A3.out).mono ?_); (case side1 => repeat (first | exact (Kd.C_below HR0_0.out HB.out) | (with_reducible refine Kd.C_alloc ?_ _) | (with_reducible refine Kd.C_drewN ?_ _) | (with_reducible refine Kd.C_drew ?_))); (case side2 => exact HC0_0.out); (case side3 => repeat (first | exact (Kd.C_below HR0_1.out HB.out) | (with_reducible refine Kd.C_alloc ?_ _) | (with_reducible refine Kd.C_drewN ?_ _) | (with_reducible refine Kd.C_drew ?_))); (case side4 => exact HC0_1.out); (case side5 => repeat (first | exact (Kd.C_below HR0_2.out HB.out) | (with_reducible refine Kd.C_alloc ?_ _) | (with_reducible refine Kd.C_drewN ?_ _) | (with_reducible refine Kd.C_drew ?_))); (case side6 => exact HC0_2.out); rintro e w11 ⟨rfl, hb⟩; refine ⟨_, rfl, ?_⟩; have n0_ := Aside0.mk (blk_below (g := gb1662) (o := .cells #[.slice A0_0 l0_0.length c0_0, .slice A0_1 l0_1.length c0_1, .slice A0_2 l0_2.length c0_2] 32 (0, 0)) (have z0_ := BK1662; Ze) hb); have n1_ := Aside0.mk (below_step (have z0_ := GE1662; Zf) hb); clear BK1662; clear HB; have BK1662 := n0_; have HB := n1_; clear n0_ n1_; (try clear hb); (try clear hb2); (try clear hk); (try clear hi)) | ((with_reducible refine gate_callee (f := 114) rfl ?_); refine goesL_ (some 10) rfl rfl Try.func114 Zj rfl #[.int .i64 a1] rfl Zo ?_; (with_reducible refine (spec_l01IsTime.calls a1 true _ A5.out).mono ?_); rintro e w' ⟨rfl, ⟨nd, rfl⟩⟩; refine ⟨_, rfl, ?_⟩; obtain ⟨hcz12_0, hcz12_1, hcz12_2, hfz12_0, hfz12_1, hfz12_2⟩ := cz3 BK1662) | ((with_reducible refine gate_callee (f := 108) rfl ?_); refine goesL_ (some 13) rfl rfl Try.func108 Zj rfl #[.agg #[.slice A0_0 l0_0.length c0_0, .slice A0_1 l0_1.length c0_1, .slice A0_2 l0_2.length c0_2]] rfl Zo ?_; (with_reducible refine (spec_l08Times.calls k _ _ l0_0 _ _ l0_1 _ _ l0_2 t1665 _ ?side1 ?side2 ?side3 ?side4 ?side5 ?side6 A7.out).mono ?_); (case side1 => repeat (first | exact (Kd.C_below HR0_0.out (have z0_ := GE1662; Zf)) | (with_reducible refine Kd.C_alloc ?_ _) | (with_reducible refine Kd.C_drewN ?_ _) | (with_reducible refine Kd.C_drew ?_))); (case side2 => exact HC0_0.out); (case side3 => repeat (first | exact (Kd.C_below HR0_1.out (have z0_ := GE1662; Zf)) | (with_reducible refine Kd.C_alloc ?_ _) | (with_reducible refine Kd.C_drewN ?_ _) | (with_reducible refine Kd.C_drew ?_))); (case side4 => exact HC0_1.out); (case side5 => repeat (first | exact (Kd.C_below HR0_2.out (have z0_ := GE1662; Zf)) | (with_reducible refine Kd.C_alloc ?_ _) | (with_reducible refine Kd.C_drewN ?_ _) | (with_reducible refine Kd.C_drew ?_))); (case side6 => exact HC0_2.out); rintro e w13 ⟨v1666, rfl, ho0, hb⟩; refine ⟨_, rfl, ?_⟩; have n0_ := Aside0.mk (Kd.R_lower ho0 (below_size (have z0_ := GE1662; Zf))); have n1_ := Aside0.mk (blk_below (g := gb1662) (o := .cells #[.slice A0_0 l0_0.length c0_0, .slice A0_1 l0_1.length c0_1, .slice A0_2 l0_2.length c0_2] 32 (0, 0)) (have z0_ := BK1662; Ze) hb); have n2_ := Aside0.mk (below_step (have z0_ := GE1662; Zf) hb); clear BK1662; clear HB; have HO1667 := n0_; have BK1662 := n1_; have HB := n2_; clear n0_ n1_ n2_; (try clear hb); (try clear hb2); (try clear hk); (try clear hi); (try clear ho0); obtain ⟨Ao14, co14, eo14⟩ := Kd.R_slice HO1667.out; subst eo14) | ((with_reducible refine gate_callee (f := 109) rfl ?_); refine goesL_ (some 17) rfl rfl Try.func109 Zj rfl #[.slice Ao14 t1665.length co14, .int .i64 a1, .int .i64 (wrap64 (a1 + 1))] rfl Zo ?_; (with_reducible refine (spec_l08Between.calls k _ _ t1665 a1 (wrap64 (a1 + 1)) t1668 _ ?side1 ?side2 A8.out).mono ?_); (case side1 => repeat (first | exact (Kd.R_reads' HO1667.out).2.2 | (with_reducible refine Kd.C_alloc ?_ _) | (with_reducible refine Kd.C_drewN ?_ _) | (with_reducible refine Kd.C_drew ?_))); (case side2 => exact (Kd.R_reads' HO1667.out).2.1); rintro e w15 ⟨v1669, rfl, ho0, hb⟩; refine ⟨_, rfl, ?_⟩; have n0_ := Aside0.mk (Kd.R_elder' (have z0_ := HO1667; Zq) (Kd.R_base ho0) hb); have n1_ := Aside0.mk (Kd.R_lower (Kd.R_new' ho0 (Kd.R_lt (have z0_ := HO1667; Zq))) (below_size (have z0_ := GE1662; Zf))); have n2_ := Aside0.mk (blk_below (g := gb1662) (o := .cells #[.slice A0_0 l0_0.length c0_0, .slice A0_1 l0_1.length c0_1, .slice A0_2 l0_2.length c0_2] 32 (0, 0)) (have z0_ := BK1662; Ze) hb); have n3_ := Aside0.mk (below_step (have z0_ := GE1662; Zf) hb); clear HO1667; clear BK1662; clear HB; have HO1667 := n0_; have HO1670 := n1_; have BK1662 := n2_; have HB := n3_; clear n0_ n1_ n2_ n3_; (try clear hb); (try clear hb2); (try clear hk); (try clear hi); (try clear ho0)))
   go_ret2
   exact ⟨_, Zk, by (with_reducible repeat (first | apply Kd.R_alloc | apply Kd.R_drewN | apply Kd.R_drew)); exact Kd.R_mono HO1670.out (fun _ hk => trivial), (have z0_ := GE1662; Zf)⟩
  ·replace c6 := Bool.eq_false_iff.mpr c6
   subst c6
   have H1 : (some (([] : List Int), 2)) = some (r1, r2) := by rw [if_neg (show ¬ (false = true) by decide)] at H; exact H
   clear H
   have H := H1
   clear H1
   simp only [Option.some.injEq, Prod.mk.injEq] at H
   obtain ⟨rfl, rfl⟩ := H
   go_enter Try.func59, Try.ntmps59
   go_wp2_with (first | ((with_reducible refine gate_dst (N := 2) rfl ?_); refine box_event ?hg (N := 2) ?hd (cs := #[.slice A0_0 l0_0.length c0_0, .slice A0_1 l0_1.length c0_1, .slice A0_2 l0_2.length c0_2]) (t := 32) ?hr ?_; (case hd => rfl); (case hg => rfl); (case hr => first | (go_simp; done) | (go_simp; rfl)); intro gb1662 hg w16 hbox hb; have n0_ := Aside0.mk (below_step Zc hb); have n1_ := Aside0.mk (hbox); have n2_ := Aside0.mk ((Zd : w.heap.size ≤ gb1662)); have n3_ := Aside0.mk ((Zd : w.heap.size ≤ gb1662)); clear HB; have HB := n0_; have BK1662 := n1_; have GW1662 := n2_; have GE1662 := n3_; clear n0_ n1_ n2_ n3_; clear hb hbox hg; obtain ⟨hcz17_0, hcz17_1, hcz17_2, hfz17_0, hfz17_1, hfz17_2⟩ := cz3 BK1662) | ((with_reducible refine gate_callee (f := 36) rfl ?_); refine goesL_ (some 7) rfl rfl Try.func36 Zj rfl #[.agg #[.slice A0_0 l0_0.length c0_0, .slice A0_1 l0_1.length c0_1, .slice A0_2 l0_2.length c0_2]] rfl Zo ?_; (with_reducible refine (spec_IsShow.calls k _ _ l0_0 _ _ l0_1 _ _ l0_2 true _ ?side1 ?side2 ?side3 ?side4 ?side5 ?side6 A3.out).mono ?_); (case side1 => repeat (first | exact (Kd.C_below HR0_0.out HB.out) | (with_reducible refine Kd.C_alloc ?_ _) | (with_reducible refine Kd.C_drewN ?_ _) | (with_reducible refine Kd.C_drew ?_))); (case side2 => exact HC0_0.out); (case side3 => repeat (first | exact (Kd.C_below HR0_1.out HB.out) | (with_reducible refine Kd.C_alloc ?_ _) | (with_reducible refine Kd.C_drewN ?_ _) | (with_reducible refine Kd.C_drew ?_))); (case side4 => exact HC0_1.out); (case side5 => repeat (first | exact (Kd.C_below HR0_2.out HB.out) | (with_reducible refine Kd.C_alloc ?_ _) | (with_reducible refine Kd.C_drewN ?_ _) | (with_reducible refine Kd.C_drew ?_))); (case side6 => exact HC0_2.out); rintro e w18 ⟨rfl, hb⟩; refine ⟨_, rfl, ?_⟩; have n0_ := Aside0.mk (blk_below (g := gb1662) (o := .cells #[.slice A0_0 l0_0.length c0_0, .slice A0_1 l0_1.length c0_1, .slice A0_2 l0_2.length c0_2] 32 (0, 0)) (have z0_ := BK1662; Ze) hb); have n1_ := Aside0.mk (below_step (have z0_ := GE1662; Zf) hb); clear BK1662; clear HB; have BK1662 := n0_; have HB := n1_; clear n0_ n1_; (try clear hb); (try clear hb2); (try clear hk); (try clear hi)) | ((with_reducible refine gate_callee (f := 114) rfl ?_); refine goesL_ (some 10) rfl rfl Try.func114 Zj rfl #[.int .i64 a1] rfl Zo ?_; (with_reducible refine (spec_l01IsTime.calls a1 false _ A5.out).mono ?_); rintro e w' ⟨rfl, ⟨nd, rfl⟩⟩; refine ⟨_, rfl, ?_⟩))
   go_ret2
   exact ⟨_, Zk, Zn, (have z0_ := GE1662; Zf)⟩
 ·replace c4 := Bool.eq_false_iff.mpr c4
  subst c4
  have H1 : (some (([] : List Int), 1)) = some (r1, r2) := by rw [if_neg (show ¬ (false = true) by decide)] at H; exact H
  clear H
  have H := H1
  clear H1
  simp only [Option.some.injEq, Prod.mk.injEq] at H
  obtain ⟨rfl, rfl⟩ := H
  go_enter Try.func59, Try.ntmps59
  go_wp2_with (first | ((with_reducible refine gate_dst (N := 2) rfl ?_); refine box_event ?hg (N := 2) ?hd (cs := #[.slice A0_0 l0_0.length c0_0, .slice A0_1 l0_1.length c0_1, .slice A0_2 l0_2.length c0_2]) (t := 32) ?hr ?_; (case hd => rfl); (case hg => rfl); (case hr => first | (go_simp; done) | (go_simp; rfl)); intro gb1662 hg w19 hbox hb; have n0_ := Aside0.mk (below_step Zc hb); have n1_ := Aside0.mk (hbox); have n2_ := Aside0.mk ((Zd : w.heap.size ≤ gb1662)); have n3_ := Aside0.mk ((Zd : w.heap.size ≤ gb1662)); clear HB; have HB := n0_; have BK1662 := n1_; have GW1662 := n2_; have GE1662 := n3_; clear n0_ n1_ n2_ n3_; clear hb hbox hg; obtain ⟨hcz20_0, hcz20_1, hcz20_2, hfz20_0, hfz20_1, hfz20_2⟩ := cz3 BK1662) | ((with_reducible refine gate_callee (f := 36) rfl ?_); refine goesL_ (some 7) rfl rfl Try.func36 Zj rfl #[.agg #[.slice A0_0 l0_0.length c0_0, .slice A0_1 l0_1.length c0_1, .slice A0_2 l0_2.length c0_2]] rfl Zo ?_; (with_reducible refine (spec_IsShow.calls k _ _ l0_0 _ _ l0_1 _ _ l0_2 false _ ?side1 ?side2 ?side3 ?side4 ?side5 ?side6 A3.out).mono ?_); (case side1 => repeat (first | exact (Kd.C_below HR0_0.out HB.out) | (with_reducible refine Kd.C_alloc ?_ _) | (with_reducible refine Kd.C_drewN ?_ _) | (with_reducible refine Kd.C_drew ?_))); (case side2 => exact HC0_0.out); (case side3 => repeat (first | exact (Kd.C_below HR0_1.out HB.out) | (with_reducible refine Kd.C_alloc ?_ _) | (with_reducible refine Kd.C_drewN ?_ _) | (with_reducible refine Kd.C_drew ?_))); (case side4 => exact HC0_1.out); (case side5 => repeat (first | exact (Kd.C_below HR0_2.out HB.out) | (with_reducible refine Kd.C_alloc ?_ _) | (with_reducible refine Kd.C_drewN ?_ _) | (with_reducible refine Kd.C_drew ?_))); (case side6 => exact HC0_2.out); rintro e w21 ⟨rfl, hb⟩; refine ⟨_, rfl, ?_⟩; have n0_ := Aside0.mk (blk_below (g := gb1662) (o := .cells #[.slice A0_0 l0_0.length c0_0, .slice A0_1 l0_1.length c0_1, .slice A0_2 l0_2.length c0_2] 32 (0, 0)) (have z0_ := BK1662; Ze) hb); have n1_ := Aside0.mk (below_step (have z0_ := GE1662; Zf) hb); clear BK1662; clear HB; have BK1662 := n0_; have HB := n1_; clear n0_ n1_; (try clear hb); (try clear hb2); (try clear hk); (try clear hi)))
  go_ret2
  exact ⟨_, Zk, Zn, (have z0_ := GE1662; Zf)⟩
end Go.Proofs.Ytnlbaflbhicooaa.F
namespace Go.Proofs.Ytnlbaflbhicooaa.F
open Go.RowKit Go.Proofs.YtnlbaflbhicooaaW.PrintWords Go.Proofs.YtnlbaflbhicooaaW.PrintLast Go.Proofs.YtnlbaflbhicooaaW.PrintMore
attribute [local go_sem] max2_int min2_int max_two min_two max_three min_three max_four min_four   -- for this text's walks alone
set_option linter.unusedVariables false
set_option linter.unusedSimpArgs false
def impl_within.f (a0 : Int) (a1 : Int) (a2 : Int) : Option (Bool) := if a1 ≤ a0 then (some (decide (a0 ≤ a2))) else (some false)
set_option maxHeartbeats 8000000 in
set_option maxRecDepth 100000 in
theorem impl_within.calls (a0 : Int) (a1 : Int) (a2 : Int) (r : Bool) (w : World) (h : impl_within.f a0 a1 a2 = some r) :
  Calls Try.prog 89 #[.int .i64 a0, .int .i64 a1, .int .i64 a2] w fun e w' => e = .returned (.bool r) ∧ Drawn0 w w' := by
 have H : (if a1 ≤ a0 then (some (decide (a0 ≤ a2))) else (some false)) = some r := h
 clear h
 by_cases c4 : a1 ≤ a0
 ·rw [if_pos c4] at H
  have c4b0 : decide (a1 ≤ a0) = true := decide_eq_true c4
  clear c4
  obtain rfl := Option.some.inj H
  go_enter Try.func89, Try.ntmps89
  go_wp2
  go_ret
  exact ⟨Za, Zb⟩
 ·rw [if_neg c4] at H
  have c4b0 : decide (a1 ≤ a0) = false := decide_eq_false c4
  clear c4
  obtain rfl := Option.some.inj H
  go_enter Try.func89, Try.ntmps89
  go_wp2
  go_ret
  exact ⟨Za, Zb⟩
end Go.Proofs.Ytnlbaflbhicooaa.F
namespace Go.Proofs.Ytnlbaflbhicooaa.F
open Go.RowKit Go.Proofs.YtnlbaflbhicooaaW.PrintWords Go.Proofs.YtnlbaflbhicooaaW.PrintLast Go.Proofs.YtnlbaflbhicooaaW.PrintMore
attribute [local go_sem] max2_int min2_int max_two min_two max_three min_three max_four min_four   -- for this text's walks alone
set_option linter.unusedVariables false
set_option linter.unusedSimpArgs false
mutual
def impl_IsScore.j0 : Nat → List (S108) → Bool → Option (Bool)
 | 0, _, _ => none
 | k + 1, x0, x12 => if x12 = true then (some false) else (impl_IsScore.l0 k x0 (x0.length : Int) 0)
def impl_IsScore.l0 : Nat → List (S108) → Int → Int → Option (Bool)
 | 0, _, _, _ => none
 | k + 1, x13, x14, x15 => if x15 < x14 then (if 0 ≤ x15 then (if x15 < (x13.length : Int) then ((impl_within.f ((rd_T108 x13 x15).f0) 1 16).bind fun t288 => (if t288 = true then ((impl_within.f ((rd_T108 x13 x15).f1) 100 5000).bind fun t289 => (if t289 = true then (impl_IsScore.l0 k x13 x14 (wrap64 (x15 + 1))) else (some false))) else (some false))) else (none)) else (none)) else (some true)
end
def impl_IsScore.f (k : Nat) (l0 : List (S108)) : Option (Bool) := if (l0.length : Int) < 1 then (impl_IsScore.j0 k l0 true) else (impl_IsScore.j0 k l0 (decide ((l0.length : Int) > 20)))
set_option maxHeartbeats 8000000 in
set_option maxRecDepth 100000 in
theorem impl_IsScore.calls (k : Nat) (A0 : Option Addr) (c0 : Nat) (l0 : List (S108)) (r : Bool) (w : World) (hr0 : Kd.C k108 w A0 l0.length l0) (hc0 : l0.length ≤ c0) (h : impl_IsScore.f k l0 = some r) :
  Calls Try.prog 96 #[.slice A0 l0.length c0] w fun e w' => e = .returned (.bool r) ∧ Below w.heap.size w w' := by
 have hu108 := Try.underlying108
 have HR0 := Aside0.mk hr0
 have HC0 := Aside0.mk hc0
 clear hr0 hc0
 have HB := Aside0.mk (Below.refl w.heap.size w)
 have H : (if (l0.length : Int) < 1 then (impl_IsScore.j0 k l0 true) else (impl_IsScore.j0 k l0 (decide ((l0.length : Int) > 20)))) = some r := h
 clear h
 have HC2 := Aside0.mk H
 clear H
 go_enter Try.func96, Try.ntmps96
 go_upto_region 1 with (fail)
 go_cut [12] (fun v12 wc => ∃ (kq : Nat) (x12_1 : Bool), v12 = .bool x12_1 ∧ Aside0 (impl_IsScore.j0 kq l0 x12_1 = some r) ∧ Aside0 (kq ≤ k) ∧ Aside0 (Below w.heap.size w wc))
 case first =>
  have H := HC2.out
  clear HC2
  by_cases c3 : (l0.length : Int) < 1
  ·rw [if_pos c3] at H
   have c3b0 : decide ((l0.length : Int) < 1) = true := decide_eq_true c3
   have c3b1 : decide (l0.length < 1) = true := decide_eq_true (by omega)
   clear c3
   (first | rw [c3b0] | (simp only [i64_w, i32_w]; rw [c3b0]) | skip)
   have H' := Aside0.mk H
   clear H
   go_wp2
   go_meet
   case rel => exact ⟨_, (true), Za, H', ⟨Zm⟩, ⟨Zc⟩⟩
  ·rw [if_neg c3] at H
   have c3b0 : decide ((l0.length : Int) < 1) = false := decide_eq_false c3
   have c3b1 : decide (l0.length < 1) = false := decide_eq_false (by omega)
   clear c3
   (first | rw [c3b0] | (simp only [i64_w, i32_w]; rw [c3b0]) | skip)
   have H' := Aside0.mk H
   clear H
   go_wp2
   go_meet
   case rel => exact ⟨_, (decide ((l0.length : Int) > 20)), Za, H', ⟨Zm⟩, ⟨Zc⟩⟩
 case rest =>
  clear HC2
  try clear p2
  try clear c3
  try clear c3b0
  try clear c3b1
  obtain ⟨kq, x12_1, rfl, HA, HJ1, HB⟩ := hcut
  cases kq with
  | zero => exact absurd HA.out (by simp [impl_IsScore.j0])
  | succ kj1 =>
   have H := HA.out
   clear HA
   simp only [impl_IsScore.j0] at H
   by_cases c4 : x12_1 = true
   ·subst c4
    have H1 : (some false) = some r := by rw [if_pos rfl] at H; exact H
    clear H
    have H := H1
    clear H1
    obtain rfl := Option.some.inj H
    go_wp2
    go_ret
    exact ⟨Zk, Zc⟩
   ·replace c4 := Bool.eq_false_iff.mpr c4
    subst c4
    have H1 : (impl_IsScore.l0 kj1 l0 (l0.length : Int) 0) = some r := by rw [if_neg (show ¬ (false = true) by decide)] at H; exact H
    clear H
    have H := H1
    clear H1
    have H' := Aside0.mk H
    clear H
    go_wp2
    go_loopg [15] kj1 (fun kq v15 w' => ∃ (x15_2 : Int), v15 = .int .i64 x15_2 ∧ Aside0 (impl_IsScore.l0 kq l0 (l0.length : Int) x15_2 = some r) ∧ Aside0 (kq ≤ kj1) ∧ Aside0 (Below w.heap.size w w'))
    case atStart => exact ⟨(0), Za, H', ⟨Nat.le_refl _⟩, ⟨Zc⟩⟩
    case round =>
     clear H'
     try clear p2
     try clear c3
     try clear c3b0
     try clear c3b1
     try clear c4
     try clear p2
     obtain ⟨x15_2, rfl, HA, HK2, HB⟩ := hrel
     cases gk with
     | zero => exact absurd HA.out (by simp [impl_IsScore.l0])
     | succ k2 =>
      have H := HA.out
      clear HA
      simp only [impl_IsScore.l0] at H
      by_cases c5 : x15_2 < (l0.length : Int)
      ·rw [if_pos c5] at H
       have c5b0 : decide (x15_2 < (l0.length : Int)) = true := decide_eq_true c5
       clear c5
       by_cases c6 : 0 ≤ x15_2
       ·rw [if_pos c6] at H
        have c6b0 : decide (0 ≤ x15_2) = true := decide_eq_true c6
        clear c6
        by_cases c7 : x15_2 < (l0.length : Int)
        ·rw [if_pos c7] at H
         have c7b0 : decide (x15_2 < (l0.length : Int)) = true := decide_eq_true c7
         clear c7
         replace H := Option.bind_eq_some_iff.mp H
         obtain ⟨t288, A80, H⟩ := H
         replace H : (if t288 = true then ((impl_within.f ((rd_T108 l0 x15_2).f1) 100 5000).bind fun t289 => (if t289 = true then (impl_IsScore.l0 k2 l0 (l0.length : Int) (wrap64 (x15_2 + 1))) else (some false))) else (some false)) = some r := H
         have A8 := Aside0.mk A80
         clear A80
         by_cases c9 : t288 = true
         ·subst c9
          have H1 : ((impl_within.f ((rd_T108 l0 x15_2).f1) 100 5000).bind fun t289 => (if t289 = true then (impl_IsScore.l0 k2 l0 (l0.length : Int) (wrap64 (x15_2 + 1))) else (some false))) = some r := by rw [if_pos rfl] at H; exact H
          clear H
          have H := H1
          clear H1
          replace H := Option.bind_eq_some_iff.mp H
          obtain ⟨t289, A100, H⟩ := H
          replace H : (if t289 = true then (impl_IsScore.l0 k2 l0 (l0.length : Int) (wrap64 (x15_2 + 1))) else (some false)) = some r := H
          have A10 := Aside0.mk A100
          clear A100
          by_cases c11 : t289 = true
          ·subst c11
           have H1 : (impl_IsScore.l0 k2 l0 (l0.length : Int) (wrap64 (x15_2 + 1))) = some r := by rw [if_pos rfl] at H; exact H
           clear H
           have H := H1
           clear H1
           have H' := Aside0.mk H
           clear H
           have p286 : 0 ≤ (x15_2 : Int) := of_decide_eq_true Zp
           have q286 : x15_2 < (l0.length : Int) := of_decide_eq_true Zp
           obtain ⟨ad286, e286, hx286_0, hx286_1⟩ := at_T108 HR0.out x15_2 p286 q286
           cases e286
           replace hx286_0 := cbH HB hx286_0
           replace hx286_1 := cbH HB hx286_1
           replace p286 := eq_true p286
           replace q286 := eq_true q286
           go_wp2_with (first | ((with_reducible refine gate_dst (N := 4) rfl ?_); (try (refine gate_guard (by rfl) ?_; dsimp only)); refine box_event ?hg (N := 4) ?hd (cs := #[.int .i64 0, .int .i64 0]) (t := 108) ?hr ?_; (case hd => rfl); (case hg => rfl); (case hr => first | (go_simp; done) | (go_simp; rfl)); intro gb287 hg w12 hbox hb; have n0_ := Aside0.mk (below_step Zc hb); have n1_ := Aside0.mk (hbox); have n2_ := Aside0.mk ((Zd : w.heap.size ≤ gb287)); have n3_ := Aside0.mk ((Zd : w.heap.size ≤ gb287)); clear HB; have HB := n0_; have BK287 := n1_; have GW287 := n2_; have GE287 := n3_; clear n0_ n1_ n2_ n3_; clear hb hbox hg; obtain ⟨hcz13_0, hcz13_1, hfz13_0, hfz13_1⟩ := cz2 BK287) | ((with_reducible refine gate_callee (f := 89) rfl ?_); refine goesL_ (some 21) rfl rfl Try.func89 Zj rfl #[.int .i64 ((rd_T108 l0 x15_2).f0), .int .i64 1, .int .i64 16] rfl Zo ?_; (with_reducible refine (impl_within.calls ((rd_T108 l0 x15_2).f0) 1 16 true _ A8.out).mono ?_); rintro e w' ⟨rfl, ⟨nd, rfl⟩⟩; refine ⟨_, rfl, ?_⟩) | (go_at_call 89; (with_reducible refine (impl_within.calls ((rd_T108 l0 x15_2).f1) 100 5000 true _ A10.out).mono ?_); rintro e w' ⟨rfl, ⟨nd, rfl⟩⟩))
           go_roundg k2
           case measure => have := HJ1.out; have := HK2.out; omega
           case rel => exact ⟨(wrap64 (x15_2 + 1)), Za, H', ⟨by have := HJ1.out; have := HK2.out; omega⟩, ⟨(have z0_ := GE287; Zf)⟩⟩
          ·replace c11 := Bool.eq_false_iff.mpr c11
           subst c11
           have H1 : (some false) = some r := by rw [if_neg (show ¬ (false = true) by decide)] at H; exact H
           clear H
           have H := H1
           clear H1
           obtain rfl := Option.some.inj H
           have p286 : 0 ≤ (x15_2 : Int) := of_decide_eq_true Zp
           have q286 : x15_2 < (l0.length : Int) := of_decide_eq_true Zp
           obtain ⟨ad286, e286, hx286_0, hx286_1⟩ := at_T108 HR0.out x15_2 p286 q286
           cases e286
           replace hx286_0 := cbH HB hx286_0
           replace hx286_1 := cbH HB hx286_1
           replace p286 := eq_true p286
           replace q286 := eq_true q286
           go_wp2_with (first | ((with_reducible refine gate_dst (N := 4) rfl ?_); (try (refine gate_guard (by rfl) ?_; dsimp only)); refine box_event ?hg (N := 4) ?hd (cs := #[.int .i64 0, .int .i64 0]) (t := 108) ?hr ?_; (case hd => rfl); (case hg => rfl); (case hr => first | (go_simp; done) | (go_simp; rfl)); intro gb287 hg w14 hbox hb; have n0_ := Aside0.mk (below_step Zc hb); have n1_ := Aside0.mk (hbox); have n2_ := Aside0.mk ((Zd : w.heap.size ≤ gb287)); have n3_ := Aside0.mk ((Zd : w.heap.size ≤ gb287)); clear HB; have HB := n0_; have BK287 := n1_; have GW287 := n2_; have GE287 := n3_; clear n0_ n1_ n2_ n3_; clear hb hbox hg; obtain ⟨hcz15_0, hcz15_1, hfz15_0, hfz15_1⟩ := cz2 BK287) | ((with_reducible refine gate_callee (f := 89) rfl ?_); refine goesL_ (some 21) rfl rfl Try.func89 Zj rfl #[.int .i64 ((rd_T108 l0 x15_2).f0), .int .i64 1, .int .i64 16] rfl Zo ?_; (with_reducible refine (impl_within.calls ((rd_T108 l0 x15_2).f0) 1 16 true _ A8.out).mono ?_); rintro e w' ⟨rfl, ⟨nd, rfl⟩⟩; refine ⟨_, rfl, ?_⟩) | (go_at_call 89; (with_reducible refine (impl_within.calls ((rd_T108 l0 x15_2).f1) 100 5000 false _ A10.out).mono ?_); rintro e w' ⟨rfl, ⟨nd, rfl⟩⟩))
           go_ret
           exact ⟨Zk, (have z0_ := GE287; Zf)⟩
         ·replace c9 := Bool.eq_false_iff.mpr c9
          subst c9
          have H1 : (some false) = some r := by rw [if_neg (show ¬ (false = true) by decide)] at H; exact H
          clear H
          have H := H1
          clear H1
          obtain rfl := Option.some.inj H
          have p286 : 0 ≤ (x15_2 : Int) := of_decide_eq_true Zp
          have q286 : x15_2 < (l0.length : Int) := of_decide_eq_true Zp
          obtain ⟨ad286, e286, hx286_0, hx286_1⟩ := at_T108 HR0.out x15_2 p286 q286
          cases e286
          replace hx286_0 := cbH HB hx286_0
          replace hx286_1 := cbH HB hx286_1
          replace p286 := eq_true p286
          replace q286 := eq_true q286
          go_wp2_with (first | ((with_reducible refine gate_dst (N := 4) rfl ?_); (try (refine gate_guard (by rfl) ?_; dsimp only)); refine box_event ?hg (N := 4) ?hd (cs := #[.int .i64 0, .int .i64 0]) (t := 108) ?hr ?_; (case hd => rfl); (case hg => rfl); (case hr => first | (go_simp; done) | (go_simp; rfl)); intro gb287 hg w16 hbox hb; have n0_ := Aside0.mk (below_step Zc hb); have n1_ := Aside0.mk (hbox); have n2_ := Aside0.mk ((Zd : w.heap.size ≤ gb287)); have n3_ := Aside0.mk ((Zd : w.heap.size ≤ gb287)); clear HB; have HB := n0_; have BK287 := n1_; have GW287 := n2_; have GE287 := n3_; clear n0_ n1_ n2_ n3_; clear hb hbox hg; obtain ⟨hcz17_0, hcz17_1, hfz17_0, hfz17_1⟩ := cz2 BK287) | ((with_reducible refine gate_callee (f := 89) rfl ?_); refine goesL_ (some 21) rfl rfl Try.func89 Zj rfl #[.int .i64 ((rd_T108 l0 x15_2).f0), .int .i64 1, .int .i64 16] rfl Zo ?_; (with_reducible refine (impl_within.calls ((rd_T108 l0 x15_2).f0) 1 16 false _ A8.out).mono ?_); rintro e w' ⟨rfl, ⟨nd, rfl⟩⟩; refine ⟨_, rfl, ?_⟩))
          go_ret
          exact ⟨Zk, (have z0_ := GE287; Zf)⟩
        ·rw [if_neg c7] at H
         exact absurd H (by simp)
       ·rw [if_neg c6] at H
        exact absurd H (by simp)
      ·rw [if_neg c5] at H
       have c5b0 : decide (x15_2 < (l0.length : Int)) = false := decide_eq_false c5
       clear c5
       obtain rfl := Option.some.inj H
       go_wp2
       go_ret
       exact ⟨Zk, Zc⟩
end Go.Proofs.Ytnlbaflbhicooaa.F
namespace Go.Proofs.Ytnlbaflbhicooaa.F
open Go.RowKit Go.Proofs.YtnlbaflbhicooaaW.PrintWords Go.Proofs.YtnlbaflbhicooaaW.PrintLast Go.Proofs.YtnlbaflbhicooaaW.PrintMore
attribute [local go_sem] max2_int min2_int max_two min_two max_three min_three max_four min_four   -- for this text's walks alone
set_option linter.unusedVariables false
set_option linter.unusedSimpArgs false
mutual
def impl_IsWord.j0 : Nat → ByteArray → Bool → Option (Bool)
 | 0, _, _ => none
 | k + 1, x0, x11 => if x11 = true then (some false) else (impl_IsWord.l0 k x0 0)
def impl_IsWord.l0 : Nat → ByteArray → Int → Option (Bool)
 | 0, _, _ => none
 | k + 1, x0, x3 => if x3 < (x0.size : Int) then (if 0 ≤ x3 then (if (bt x0 x3) < 97 then (some false) else (if (bt x0 x3) > 122 then (some false) else (impl_IsWord.l0 k x0 (wrap64 (x3 + 1))))) else (none)) else (some true)
end
def impl_IsWord.f (k : Nat) (a0 : ByteArray) : Option (Bool) := if (a0.size : Int) < 1 then (impl_IsWord.j0 k a0 true) else (impl_IsWord.j0 k a0 (decide ((a0.size : Int) > 16)))
set_option maxHeartbeats 8000000 in
set_option maxRecDepth 100000 in
theorem impl_IsWord.calls (k : Nat) (a0 : ByteArray) (r : Bool) (w : World) (h : impl_IsWord.f k a0 = some r) :
  Calls Try.prog 135 #[.string a0] w fun e w' => e = .returned (.bool r) ∧ Drawn0 w w' := by
 have H : (if (a0.size : Int) < 1 then (impl_IsWord.j0 k a0 true) else (impl_IsWord.j0 k a0 (decide ((a0.size : Int) > 16)))) = some r := h
 clear h
 have HC2 := Aside0.mk H
 clear H
 go_enter Try.func135, Try.ntmps135
 go_upto_region 1 with (fail)
 go_cut [11] (fun v11 wc => ∃ (kq : Nat) (x11_1 : Bool), v11 = .bool x11_1 ∧ Aside0 (impl_IsWord.j0 kq a0 x11_1 = some r) ∧ Aside0 (kq ≤ k) ∧ Drawn0 w wc)
 case first =>
  have H := HC2.out
  clear HC2
  by_cases c3 : (a0.size : Int) < 1
  ·rw [if_pos c3] at H
   have c3b0 : decide ((a0.size : Int) < 1) = true := decide_eq_true c3
   have c3b1 : decide (a0.size < 1) = true := decide_eq_true (by omega)
   clear c3
   (first | rw [c3b0] | (simp only [i64_w, i32_w]; rw [c3b0]) | skip)
   have H' := Aside0.mk H
   clear H
   go_wp2
   go_meet
   case rel => exact ⟨_, (true), Za, H', ⟨Zm⟩, Zb⟩
  ·rw [if_neg c3] at H
   have c3b0 : decide ((a0.size : Int) < 1) = false := decide_eq_false c3
   have c3b1 : decide (a0.size < 1) = false := decide_eq_false (by omega)
   clear c3
   (first | rw [c3b0] | (simp only [i64_w, i32_w]; rw [c3b0]) | skip)
   have H' := Aside0.mk H
   clear H
   go_wp2
   go_meet
   case rel => exact ⟨_, (decide ((a0.size : Int) > 16)), Za, H', ⟨Zm⟩, Zb⟩
 case rest =>
  clear HC2
  try clear c1
  try clear p2
  try clear c3
  try clear c3b0
  try clear c3b1
  obtain ⟨kq, x11_1, rfl, HA, HJ1, ⟨mc1, rfl⟩⟩ := hcut
  cases kq with
  | zero => exact absurd HA.out (by simp [impl_IsWord.j0])
  | succ kj1 =>
   have H := HA.out
   clear HA
   simp only [impl_IsWord.j0] at H
   by_cases c4 : x11_1 = true
   ·subst c4
    have H1 : (some false) = some r := by rw [if_pos rfl] at H; exact H
    clear H
    have H := H1
    clear H1
    obtain rfl := Option.some.inj H
    go_wp2
    go_ret
    exact ⟨Za, Zb⟩
   ·replace c4 := Bool.eq_false_iff.mpr c4
    subst c4
    have H1 : (impl_IsWord.l0 kj1 a0 0) = some r := by rw [if_neg (show ¬ (false = true) by decide)] at H; exact H
    clear H
    have H := H1
    clear H1
    have H' := Aside0.mk H
    clear H
    go_wp2
    go_loopg [3] kj1 (fun kq v3 w' => ∃ (x3_2 : Int), v3 = .int .i64 x3_2 ∧ Aside0 (impl_IsWord.l0 kq a0 x3_2 = some r) ∧ Aside0 (kq ≤ kj1) ∧ Drawn0 w w')
    case atStart => exact ⟨(0), Za, H', ⟨Nat.le_refl _⟩, Zb⟩
    case round =>
     clear H'
     try clear c1
     try clear p2
     try clear c3
     try clear c3b0
     try clear c3b1
     try clear c4
     try clear p2
     obtain ⟨x3_2, rfl, HA, HK2, ⟨m2, rfl⟩⟩ := hrel
     cases gk with
     | zero => exact absurd HA.out (by simp [impl_IsWord.l0])
     | succ k2 =>
      have H := HA.out
      clear HA
      simp only [impl_IsWord.l0] at H
      by_cases c5 : x3_2 < (a0.size : Int)
      ·rw [if_pos c5] at H
       have c5b0 : decide (x3_2 < (a0.size : Int)) = true := decide_eq_true c5
       clear c5
       by_cases c6 : 0 ≤ x3_2
       ·rw [if_pos c6] at H
        have c6b0 : decide (0 ≤ x3_2) = true := decide_eq_true c6
        clear c6
        by_cases c8 : (bt a0 x3_2) < 97
        ·rw [if_pos c8] at H
         have c8b0 : decide ((bt a0 x3_2) < 97) = true := decide_eq_true c8
         clear c8
         obtain rfl := Option.some.inj H
         have p7 : 0 ≤ (x3_2 : Int) := of_decide_eq_true Zp
         have q7 : x3_2 < (a0.size : Int) := of_decide_eq_true Zp
         have hx7 := bt_at a0 x3_2
         replace p7 := eq_true p7
         replace q7 := eq_true q7
         go_wp2
         go_ret
         exact ⟨Za, Zb⟩
        ·rw [if_neg c8] at H
         have c8b0 : decide ((bt a0 x3_2) < 97) = false := decide_eq_false c8
         clear c8
         by_cases c10 : (bt a0 x3_2) > 122
         ·rw [if_pos c10] at H
          have c10b0 : decide (122 < (bt a0 x3_2)) = true := decide_eq_true c10
          clear c10
          obtain rfl := Option.some.inj H
          have p7 : 0 ≤ (x3_2 : Int) := of_decide_eq_true Zp
          have q7 : x3_2 < (a0.size : Int) := of_decide_eq_true Zp
          have hx7 := bt_at a0 x3_2
          replace p7 := eq_true p7
          replace q7 := eq_true q7
          have p9 : 0 ≤ (x3_2 : Int) := of_decide_eq_true Zp
          have q9 : x3_2 < (a0.size : Int) := of_decide_eq_true Zp
          have hx9 := bt_at a0 x3_2
          replace p9 := eq_true p9
          replace q9 := eq_true q9
          go_wp2
          go_ret
          exact ⟨Za, Zb⟩
         ·rw [if_neg c10] at H
          have c10b0 : decide (122 < (bt a0 x3_2)) = false := decide_eq_false c10
          clear c10
          have H' := Aside0.mk H
          clear H
          have p7 : 0 ≤ (x3_2 : Int) := of_decide_eq_true Zp
          have q7 : x3_2 < (a0.size : Int) := of_decide_eq_true Zp
          have hx7 := bt_at a0 x3_2
          replace p7 := eq_true p7
          replace q7 := eq_true q7
          have p9 : 0 ≤ (x3_2 : Int) := of_decide_eq_true Zp
          have q9 : x3_2 < (a0.size : Int) := of_decide_eq_true Zp
          have hx9 := bt_at a0 x3_2
          replace p9 := eq_true p9
          replace q9 := eq_true q9
          go_wp2
          go_roundg k2
          case measure => have := HJ1.out; have := HK2.out; omega
          case rel => exact ⟨(wrap64 (x3_2 + 1)), Za, H', ⟨by have := HJ1.out; have := HK2.out; omega⟩, Zb⟩
       ·rw [if_neg c6] at H
        exact absurd H (by simp)
      ·rw [if_neg c5] at H
       have c5b0 : decide (x3_2 < (a0.size : Int)) = false := decide_eq_false c5
       clear c5
       obtain rfl := Option.some.inj H
       go_wp2
       go_ret
       exact ⟨Za, Zb⟩
end Go.Proofs.Ytnlbaflbhicooaa.F
namespace Go.Proofs.Ytnlbaflbhicooaa.F
open Go.RowKit Go.Proofs.YtnlbaflbhicooaaW.PrintWords Go.Proofs.YtnlbaflbhicooaaW.PrintLast Go.Proofs.YtnlbaflbhicooaaW.PrintMore
attribute [local go_sem] max2_int min2_int max_two min_two max_three min_three max_four min_four   -- for this text's walks alone
set_option linter.unusedVariables false
set_option linter.unusedSimpArgs false
def impl_IsArticle.f (k : Nat) (a0_0 : ByteArray) (a0_1 : Int) (a0_2 : Int) (a0_3 : Int) (a0_4 : Int) (a0_5 : Int) (a0_6 : Int) (a0_7 : Int) (a0_8 : Int) : Option (Bool) := (impl_IsWord.f k a0_0).bind fun t291 => (if t291 = true then ((impl_within.f a0_1 0 3).bind fun t292 => (if t292 = true then ((impl_within.f a0_2 20 300).bind fun t293 => (if t293 = true then ((impl_within.f a0_3 0 10000).bind fun t294 => (if t294 = true then ((impl_within.f a0_4 0 a0_3).bind fun t295 => (if t295 = true then ((impl_within.f a0_5 1 50).bind fun t296 => (if t296 = true then ((impl_within.f a0_6 0 10000).bind fun t297 => (if t297 = true then ((impl_within.f a0_7 1 100000).bind fun t298 => (if t298 = true then ((impl_within.f a0_8 0 3).bind fun t299 => (some t299)) else (some false))) else (some false))) else (some false))) else (some false))) else (some false))) else (some false))) else (some false))) else (some false))
set_option maxHeartbeats 8000000 in
set_option maxRecDepth 100000 in
theorem impl_IsArticle.calls (k : Nat) (a0_0 : ByteArray) (a0_1 : Int) (a0_2 : Int) (a0_3 : Int) (a0_4 : Int) (a0_5 : Int) (a0_6 : Int) (a0_7 : Int) (a0_8 : Int) (r : Bool) (w : World) (h : impl_IsArticle.f k a0_0 a0_1 a0_2 a0_3 a0_4 a0_5 a0_6 a0_7 a0_8 = some r) :
  Calls Try.prog 129 #[.agg #[.string a0_0, .int .i64 a0_1, .int .i64 a0_2, .int .i64 a0_3, .int .i64 a0_4, .int .i64 a0_5, .int .i64 a0_6, .int .i64 a0_7, .int .i64 a0_8]] w fun e w' => e = .returned (.bool r) ∧ Below w.heap.size w w' := by
 have hu92 := Try.underlying92
 have HB := Aside0.mk (Below.refl w.heap.size w)
 have H : ((impl_IsWord.f k a0_0).bind fun t291 => (if t291 = true then ((impl_within.f a0_1 0 3).bind fun t292 => (if t292 = true then ((impl_within.f a0_2 20 300).bind fun t293 => (if t293 = true then ((impl_within.f a0_3 0 10000).bind fun t294 => (if t294 = true then ((impl_within.f a0_4 0 a0_3).bind fun t295 => (if t295 = true then ((impl_within.f a0_5 1 50).bind fun t296 => (if t296 = true then ((impl_within.f a0_6 0 10000).bind fun t297 => (if t297 = true then ((impl_within.f a0_7 1 100000).bind fun t298 => (if t298 = true then ((impl_within.f a0_8 0 3).bind fun t299 => (some t299)) else (some false))) else (some false))) else (some false))) else (some false))) else (some false))) else (some false))) else (some false))) else (some false))) = some r := h
 clear h
 replace H := Option.bind_eq_some_iff.mp H
 obtain ⟨t291, A20, H⟩ := H
 replace H : (if t291 = true then ((impl_within.f a0_1 0 3).bind fun t292 => (if t292 = true then ((impl_within.f a0_2 20 300).bind fun t293 => (if t293 = true then ((impl_within.f a0_3 0 10000).bind fun t294 => (if t294 = true then ((impl_within.f a0_4 0 a0_3).bind fun t295 => (if t295 = true then ((impl_within.f a0_5 1 50).bind fun t296 => (if t296 = true then ((impl_within.f a0_6 0 10000).bind fun t297 => (if t297 = true then ((impl_within.f a0_7 1 100000).bind fun t298 => (if t298 = true then ((impl_within.f a0_8 0 3).bind fun t299 => (some t299)) else (some false))) else (some false))) else (some false))) else (some false))) else (some false))) else (some false))) else (some false))) else (some false)) = some r := H
 have A2 := Aside0.mk A20
 clear A20
 by_cases c3 : t291 = true
 ·subst c3
  have H1 : ((impl_within.f a0_1 0 3).bind fun t292 => (if t292 = true then ((impl_within.f a0_2 20 300).bind fun t293 => (if t293 = true then ((impl_within.f a0_3 0 10000).bind fun t294 => (if t294 = true then ((impl_within.f a0_4 0 a0_3).bind fun t295 => (if t295 = true then ((impl_within.f a0_5 1 50).bind fun t296 => (if t296 = true then ((impl_within.f a0_6 0 10000).bind fun t297 => (if t297 = true then ((impl_within.f a0_7 1 100000).bind fun t298 => (if t298 = true then ((impl_within.f a0_8 0 3).bind fun t299 => (some t299)) else (some false))) else (some false))) else (some false))) else (some false))) else (some false))) else (some false))) else (some false))) = some r := by rw [if_pos rfl] at H; exact H
  clear H
  have H := H1
  clear H1
  replace H := Option.bind_eq_some_iff.mp H
  obtain ⟨t292, A40, H⟩ := H
  replace H : (if t292 = true then ((impl_within.f a0_2 20 300).bind fun t293 => (if t293 = true then ((impl_within.f a0_3 0 10000).bind fun t294 => (if t294 = true then ((impl_within.f a0_4 0 a0_3).bind fun t295 => (if t295 = true then ((impl_within.f a0_5 1 50).bind fun t296 => (if t296 = true then ((impl_within.f a0_6 0 10000).bind fun t297 => (if t297 = true then ((impl_within.f a0_7 1 100000).bind fun t298 => (if t298 = true then ((impl_within.f a0_8 0 3).bind fun t299 => (some t299)) else (some false))) else (some false))) else (some false))) else (some false))) else (some false))) else (some false))) else (some false)) = some r := H
  have A4 := Aside0.mk A40
  clear A40
  by_cases c5 : t292 = true
  ·subst c5
   have H1 : ((impl_within.f a0_2 20 300).bind fun t293 => (if t293 = true then ((impl_within.f a0_3 0 10000).bind fun t294 => (if t294 = true then ((impl_within.f a0_4 0 a0_3).bind fun t295 => (if t295 = true then ((impl_within.f a0_5 1 50).bind fun t296 => (if t296 = true then ((impl_within.f a0_6 0 10000).bind fun t297 => (if t297 = true then ((impl_within.f a0_7 1 100000).bind fun t298 => (if t298 = true then ((impl_within.f a0_8 0 3).bind fun t299 => (some t299)) else (some false))) else (some false))) else (some false))) else (some false))) else (some false))) else (some false))) = some r := by rw [if_pos rfl] at H; exact H
   clear H
   have H := H1
   clear H1
   replace H := Option.bind_eq_some_iff.mp H
   obtain ⟨t293, A60, H⟩ := H
   replace H : (if t293 = true then ((impl_within.f a0_3 0 10000).bind fun t294 => (if t294 = true then ((impl_within.f a0_4 0 a0_3).bind fun t295 => (if t295 = true then ((impl_within.f a0_5 1 50).bind fun t296 => (if t296 = true then ((impl_within.f a0_6 0 10000).bind fun t297 => (if t297 = true then ((impl_within.f a0_7 1 100000).bind fun t298 => (if t298 = true then ((impl_within.f a0_8 0 3).bind fun t299 => (some t299)) else (some false))) else (some false))) else (some false))) else (some false))) else (some false))) else (some false)) = some r := H
   have A6 := Aside0.mk A60
   clear A60
   by_cases c7 : t293 = true
   ·subst c7
    have H1 : ((impl_within.f a0_3 0 10000).bind fun t294 => (if t294 = true then ((impl_within.f a0_4 0 a0_3).bind fun t295 => (if t295 = true then ((impl_within.f a0_5 1 50).bind fun t296 => (if t296 = true then ((impl_within.f a0_6 0 10000).bind fun t297 => (if t297 = true then ((impl_within.f a0_7 1 100000).bind fun t298 => (if t298 = true then ((impl_within.f a0_8 0 3).bind fun t299 => (some t299)) else (some false))) else (some false))) else (some false))) else (some false))) else (some false))) = some r := by rw [if_pos rfl] at H; exact H
    clear H
    have H := H1
    clear H1
    replace H := Option.bind_eq_some_iff.mp H
    obtain ⟨t294, A80, H⟩ := H
    replace H : (if t294 = true then ((impl_within.f a0_4 0 a0_3).bind fun t295 => (if t295 = true then ((impl_within.f a0_5 1 50).bind fun t296 => (if t296 = true then ((impl_within.f a0_6 0 10000).bind fun t297 => (if t297 = true then ((impl_within.f a0_7 1 100000).bind fun t298 => (if t298 = true then ((impl_within.f a0_8 0 3).bind fun t299 => (some t299)) else (some false))) else (some false))) else (some false))) else (some false))) else (some false)) = some r := H
    have A8 := Aside0.mk A80
    clear A80
    by_cases c9 : t294 = true
    ·subst c9
     have H1 : ((impl_within.f a0_4 0 a0_3).bind fun t295 => (if t295 = true then ((impl_within.f a0_5 1 50).bind fun t296 => (if t296 = true then ((impl_within.f a0_6 0 10000).bind fun t297 => (if t297 = true then ((impl_within.f a0_7 1 100000).bind fun t298 => (if t298 = true then ((impl_within.f a0_8 0 3).bind fun t299 => (some t299)) else (some false))) else (some false))) else (some false))) else (some false))) = some r := by rw [if_pos rfl] at H; exact H
     clear H
     have H := H1
     clear H1
     replace H := Option.bind_eq_some_iff.mp H
     obtain ⟨t295, A100, H⟩ := H
     replace H : (if t295 = true then ((impl_within.f a0_5 1 50).bind fun t296 => (if t296 = true then ((impl_within.f a0_6 0 10000).bind fun t297 => (if t297 = true then ((impl_within.f a0_7 1 100000).bind fun t298 => (if t298 = true then ((impl_within.f a0_8 0 3).bind fun t299 => (some t299)) else (some false))) else (some false))) else (some false))) else (some false)) = some r := H
     have A10 := Aside0.mk A100
     clear A100
     by_cases c11 : t295 = true
     ·subst c11
      have H1 : ((impl_within.f a0_5 1 50).bind fun t296 => (if t296 = true then ((impl_within.f a0_6 0 10000).bind fun t297 => (if t297 = true then ((impl_within.f a0_7 1 100000).bind fun t298 => (if t298 = true then ((impl_within.f a0_8 0 3).bind fun t299 => (some t299)) else (some false))) else (some false))) else (some false))) = some r := by rw [if_pos rfl] at H; exact H
      clear H
      have H := H1
      clear H1
      replace H := Option.bind_eq_some_iff.mp H
      obtain ⟨t296, A120, H⟩ := H
      replace H : (if t296 = true then ((impl_within.f a0_6 0 10000).bind fun t297 => (if t297 = true then ((impl_within.f a0_7 1 100000).bind fun t298 => (if t298 = true then ((impl_within.f a0_8 0 3).bind fun t299 => (some t299)) else (some false))) else (some false))) else (some false)) = some r := H
      have A12 := Aside0.mk A120
      clear A120
      by_cases c13 : t296 = true
      ·subst c13
       have H1 : ((impl_within.f a0_6 0 10000).bind fun t297 => (if t297 = true then ((impl_within.f a0_7 1 100000).bind fun t298 => (if t298 = true then ((impl_within.f a0_8 0 3).bind fun t299 => (some t299)) else (some false))) else (some false))) = some r := by rw [if_pos rfl] at H; exact H
       clear H
       have H := H1
       clear H1
       replace H := Option.bind_eq_some_iff.mp H
       obtain ⟨t297, A140, H⟩ := H
       replace H : (if t297 = true then ((impl_within.f a0_7 1 100000).bind fun t298 => (if t298 = true then ((impl_within.f a0_8 0 3).bind fun t299 => (some t299)) else (some false))) else (some false)) = some r := H
       have A14 := Aside0.mk A140
       clear A140
       by_cases c15 : t297 = true
       ·subst c15
        have H1 : ((impl_within.f a0_7 1 100000).bind fun t298 => (if t298 = true then ((impl_within.f a0_8 0 3).bind fun t299 => (some t299)) else (some false))) = some r := by rw [if_pos rfl] at H; exact H
        clear H
        have H := H1
        clear H1
        replace H := Option.bind_eq_some_iff.mp H
        obtain ⟨t298, A160, H⟩ := H
        replace H : (if t298 = true then ((impl_within.f a0_8 0 3).bind fun t299 => (some t299)) else (some false)) = some r := H
        have A16 := Aside0.mk A160
        clear A160
        by_cases c17 : t298 = true
        ·subst c17
         have H1 : ((impl_within.f a0_8 0 3).bind fun t299 => (some t299)) = some r := by rw [if_pos rfl] at H; exact H
         clear H
         have H := H1
         clear H1
         replace H := Option.bind_eq_some_iff.mp H
         obtain ⟨t299, A180, H⟩ := H
         replace H : (some t299) = some r := H
         have A18 := Aside0.mk A180
         clear A180
         obtain rfl := Option.some.inj H
         go_enter Try.func129, Try.ntmps129
         go_wp2_with (first | ((with_reducible refine gate_dst (N := 1) rfl ?_); refine box_event ?hg (N := 1) ?hd (cs := #[.string a0_0, .int .i64 a0_1, .int .i64 a0_2, .int .i64 a0_3, .int .i64 a0_4, .int .i64 a0_5, .int .i64 a0_6, .int .i64 a0_7, .int .i64 a0_8]) (t := 92) ?hr ?_; (case hd => rfl); (case hg => rfl); (case hr => first | (go_simp; done) | (go_simp; rfl)); intro gb290 hg w19 hbox hb; have n0_ := Aside0.mk (below_step Zc hb); have n1_ := Aside0.mk (hbox); have n2_ := Aside0.mk ((Zd : w.heap.size ≤ gb290)); have n3_ := Aside0.mk ((Zd : w.heap.size ≤ gb290)); clear HB; have HB := n0_; have BK290 := n1_; have GW290 := n2_; have GE290 := n3_; clear n0_ n1_ n2_ n3_; clear hb hbox hg; obtain ⟨hcz20_0, hcz20_1, hcz20_2, hcz20_3, hcz20_4, hcz20_5, hcz20_6, hcz20_7, hcz20_8, hfz20_0, hfz20_1, hfz20_2, hfz20_3, hfz20_4, hfz20_5, hfz20_6, hfz20_7, hfz20_8⟩ := cz9 BK290) | ((with_reducible refine gate_callee (f := 135) rfl ?_); refine goesL_ (some 5) rfl rfl Try.func135 Zj rfl #[.string a0_0] rfl Zo ?_; (with_reducible refine (impl_IsWord.calls k a0_0 true _ A2.out).mono ?_); rintro e w' ⟨rfl, ⟨nd, rfl⟩⟩; refine ⟨_, rfl, ?_⟩) | (go_at_call 89; (with_reducible refine (impl_within.calls a0_1 0 3 true _ A4.out).mono ?_); rintro e w' ⟨rfl, ⟨nd, rfl⟩⟩) | (go_at_call 89; (with_reducible refine (impl_within.calls a0_2 20 300 true _ A6.out).mono ?_); rintro e w' ⟨rfl, ⟨nd, rfl⟩⟩) | (go_at_call 89; (with_reducible refine (impl_within.calls a0_3 0 10000 true _ A8.out).mono ?_); rintro e w' ⟨rfl, ⟨nd, rfl⟩⟩) | (go_at_call 89; (with_reducible refine (impl_within.calls a0_4 0 a0_3 true _ A10.out).mono ?_); rintro e w' ⟨rfl, ⟨nd, rfl⟩⟩) | (go_at_call 89; (with_reducible refine (impl_within.calls a0_5 1 50 true _ A12.out).mono ?_); rintro e w' ⟨rfl, ⟨nd, rfl⟩⟩) | (go_at_call 89; (with_reducible refine (impl_within.calls a0_6 0 10000 true _ A14.out).mono ?_); rintro e w' ⟨rfl, ⟨nd, rfl⟩⟩) | (go_at_call 89; (with_reducible refine (impl_within.calls a0_7 1 100000 true _ A16.out).mono ?_); rintro e w' ⟨rfl, ⟨nd, rfl⟩⟩) | (go_at_call 89; (with_reducible refine (impl_within.calls a0_8 0 3 t299 _ A18.out).mono ?_); rintro e w' ⟨rfl, ⟨nd, rfl⟩⟩))
         go_ret
         exact ⟨Zk, (have z0_ := GE290; Zf)⟩
        ·replace c17 := Bool.eq_false_iff.mpr c17
         subst c17
         have H1 : (some false) = some r := by rw [if_neg (show ¬ (false = true) by decide)] at H; exact H
         clear H
         have H := H1
         clear H1
         obtain rfl := Option.some.inj H
         go_enter Try.func129, Try.ntmps129
         go_wp2_with (first | ((with_reducible refine gate_dst (N := 1) rfl ?_); refine box_event ?hg (N := 1) ?hd (cs := #[.string a0_0, .int .i64 a0_1, .int .i64 a0_2, .int .i64 a0_3, .int .i64 a0_4, .int .i64 a0_5, .int .i64 a0_6, .int .i64 a0_7, .int .i64 a0_8]) (t := 92) ?hr ?_; (case hd => rfl); (case hg => rfl); (case hr => first | (go_simp; done) | (go_simp; rfl)); intro gb290 hg w21 hbox hb; have n0_ := Aside0.mk (below_step Zc hb); have n1_ := Aside0.mk (hbox); have n2_ := Aside0.mk ((Zd : w.heap.size ≤ gb290)); have n3_ := Aside0.mk ((Zd : w.heap.size ≤ gb290)); clear HB; have HB := n0_; have BK290 := n1_; have GW290 := n2_; have GE290 := n3_; clear n0_ n1_ n2_ n3_; clear hb hbox hg; obtain ⟨hcz22_0, hcz22_1, hcz22_2, hcz22_3, hcz22_4, hcz22_5, hcz22_6, hcz22_7, hcz22_8, hfz22_0, hfz22_1, hfz22_2, hfz22_3, hfz22_4, hfz22_5, hfz22_6, hfz22_7, hfz22_8⟩ := cz9 BK290) | ((with_reducible refine gate_callee (f := 135) rfl ?_); refine goesL_ (some 5) rfl rfl Try.func135 Zj rfl #[.string a0_0] rfl Zo ?_; (with_reducible refine (impl_IsWord.calls k a0_0 true _ A2.out).mono ?_); rintro e w' ⟨rfl, ⟨nd, rfl⟩⟩; refine ⟨_, rfl, ?_⟩) | (go_at_call 89; (with_reducible refine (impl_within.calls a0_1 0 3 true _ A4.out).mono ?_); rintro e w' ⟨rfl, ⟨nd, rfl⟩⟩) | (go_at_call 89; (with_reducible refine (impl_within.calls a0_2 20 300 true _ A6.out).mono ?_); rintro e w' ⟨rfl, ⟨nd, rfl⟩⟩) | (go_at_call 89; (with_reducible refine (impl_within.calls a0_3 0 10000 true _ A8.out).mono ?_); rintro e w' ⟨rfl, ⟨nd, rfl⟩⟩) | (go_at_call 89; (with_reducible refine (impl_within.calls a0_4 0 a0_3 true _ A10.out).mono ?_); rintro e w' ⟨rfl, ⟨nd, rfl⟩⟩) | (go_at_call 89; (with_reducible refine (impl_within.calls a0_5 1 50 true _ A12.out).mono ?_); rintro e w' ⟨rfl, ⟨nd, rfl⟩⟩) | (go_at_call 89; (with_reducible refine (impl_within.calls a0_6 0 10000 true _ A14.out).mono ?_); rintro e w' ⟨rfl, ⟨nd, rfl⟩⟩) | (go_at_call 89; (with_reducible refine (impl_within.calls a0_7 1 100000 false _ A16.out).mono ?_); rintro e w' ⟨rfl, ⟨nd, rfl⟩⟩))
         go_ret
         exact ⟨Zk, (have z0_ := GE290; Zf)⟩
       ·replace c15 := Bool.eq_false_iff.mpr c15
        subst c15
        have H1 : (some false) = some r := by rw [if_neg (show ¬ (false = true) by decide)] at H; exact H
        clear H
        have H := H1
        clear H1
        obtain rfl := Option.some.inj H
        go_enter Try.func129, Try.ntmps129
        go_wp2_with (first | ((with_reducible refine gate_dst (N := 1) rfl ?_); refine box_event ?hg (N := 1) ?hd (cs := #[.string a0_0, .int .i64 a0_1, .int .i64 a0_2, .int .i64 a0_3, .int .i64 a0_4, .int .i64 a0_5, .int .i64 a0_6, .int .i64 a0_7, .int .i64 a0_8]) (t := 92) ?hr ?_; (case hd => rfl); (case hg => rfl); (case hr => first | (go_simp; done) | (go_simp; rfl)); intro gb290 hg w23 hbox hb; have n0_ := Aside0.mk (below_step Zc hb); have n1_ := Aside0.mk (hbox); have n2_ := Aside0.mk ((Zd : w.heap.size ≤ gb290)); have n3_ := Aside0.mk ((Zd : w.heap.size ≤ gb290)); clear HB; have HB := n0_; have BK290 := n1_; have GW290 := n2_; have GE290 := n3_; clear n0_ n1_ n2_ n3_; clear hb hbox hg; obtain ⟨hcz24_0, hcz24_1, hcz24_2, hcz24_3, hcz24_4, hcz24_5, hcz24_6, hcz24_7, hcz24_8, hfz24_0, hfz24_1, hfz24_2, hfz24_3, hfz24_4, hfz24_5, hfz24_6, hfz24_7, hfz24_8⟩ := cz9 BK290) | ((with_reducible refine gate_callee (f := 135) rfl ?_); refine goesL_ (some 5) rfl rfl Try.func135 Zj rfl #[.string a0_0] rfl Zo ?_; (with_reducible refine (impl_IsWord.calls k a0_0 true _ A2.out).mono ?_); rintro e w' ⟨rfl, ⟨nd, rfl⟩⟩; refine ⟨_, rfl, ?_⟩) | (go_at_call 89; (with_reducible refine (impl_within.calls a0_1 0 3 true _ A4.out).mono ?_); rintro e w' ⟨rfl, ⟨nd, rfl⟩⟩) | (go_at_call 89; (with_reducible refine (impl_within.calls a0_2 20 300 true _ A6.out).mono ?_); rintro e w' ⟨rfl, ⟨nd, rfl⟩⟩) | (go_at_call 89; (with_reducible refine (impl_within.calls a0_3 0 10000 true _ A8.out).mono ?_); rintro e w' ⟨rfl, ⟨nd, rfl⟩⟩) | (go_at_call 89; (with_reducible refine (impl_within.calls a0_4 0 a0_3 true _ A10.out).mono ?_); rintro e w' ⟨rfl, ⟨nd, rfl⟩⟩) | (go_at_call 89; (with_reducible refine (impl_within.calls a0_5 1 50 true _ A12.out).mono ?_); rintro e w' ⟨rfl, ⟨nd, rfl⟩⟩) | (go_at_call 89; (with_reducible refine (impl_within.calls a0_6 0 10000 false _ A14.out).mono ?_); rintro e w' ⟨rfl, ⟨nd, rfl⟩⟩))
        go_ret
        exact ⟨Zk, (have z0_ := GE290; Zf)⟩
      ·replace c13 := Bool.eq_false_iff.mpr c13
       subst c13
       have H1 : (some false) = some r := by rw [if_neg (show ¬ (false = true) by decide)] at H; exact H
       clear H
       have H := H1
       clear H1
       obtain rfl := Option.some.inj H
       go_enter Try.func129, Try.ntmps129
       go_wp2_with (first | ((with_reducible refine gate_dst (N := 1) rfl ?_); refine box_event ?hg (N := 1) ?hd (cs := #[.string a0_0, .int .i64 a0_1, .int .i64 a0_2, .int .i64 a0_3, .int .i64 a0_4, .int .i64 a0_5, .int .i64 a0_6, .int .i64 a0_7, .int .i64 a0_8]) (t := 92) ?hr ?_; (case hd => rfl); (case hg => rfl); (case hr => first | (go_simp; done) | (go_simp; rfl)); intro gb290 hg w25 hbox hb; have n0_ := Aside0.mk (below_step Zc hb); have n1_ := Aside0.mk (hbox); have n2_ := Aside0.mk ((Zd : w.heap.size ≤ gb290)); have n3_ := Aside0.mk ((Zd : w.heap.size ≤ gb290)); clear HB; have HB := n0_; have BK290 := n1_; have GW290 := n2_; have GE290 := n3_; clear n0_ n1_ n2_ n3_; clear hb hbox hg; obtain ⟨hcz26_0, hcz26_1, hcz26_2, hcz26_3, hcz26_4, hcz26_5, hcz26_6, hcz26_7, hcz26_8, hfz26_0, hfz26_1, hfz26_2, hfz26_3, hfz26_4, hfz26_5, hfz26_6, hfz26_7, hfz26_8⟩ := cz9 BK290) | ((with_reducible refine gate_callee (f := 135) rfl ?_); refine goesL_ (some 5) rfl rfl Try.func135 Zj rfl #[.string a0_0] rfl Zo ?_; (with_reducible refine (impl_IsWord.calls k a0_0 true _ A2.out).mono ?_); rintro e w' ⟨rfl, ⟨nd, rfl⟩⟩; refine ⟨_, rfl, ?_⟩) | (go_at_call 89; (with_reducible refine (impl_within.calls a0_1 0 3 true _ A4.out).mono ?_); rintro e w' ⟨rfl, ⟨nd, rfl⟩⟩) | (go_at_call 89; (with_reducible refine (impl_within.calls a0_2 20 300 true _ A6.out).mono ?_); rintro e w' ⟨rfl, ⟨nd, rfl⟩⟩) | (go_at_call 89; (with_reducible refine (impl_within.calls a0_3 0 10000 true _ A8.out).mono ?_); rintro e w' ⟨rfl, ⟨nd, rfl⟩⟩) | (go_at_call 89; (with_reducible refine (impl_within.calls a0_4 0 a0_3 true _ A10.out).mono ?_); rintro e w' ⟨rfl, ⟨nd, rfl⟩⟩) | (go_at_call 89; (with_reducible refine (impl_within.calls a0_5 1 50 false _ A12.out).mono ?_); rintro e w' ⟨rfl, ⟨nd, rfl⟩⟩))
       go_ret
       exact ⟨Zk, (have z0_ := GE290; Zf)⟩
     ·replace c11 := Bool.eq_false_iff.mpr c11
      subst c11
      have H1 : (some false) = some r := by rw [if_neg (show ¬ (false = true) by decide)] at H; exact H
      clear H
      have H := H1
      clear H1
      obtain rfl := Option.some.inj H
      go_enter Try.func129, Try.ntmps129
      go_wp2_with (first | ((with_reducible refine gate_dst (N := 1) rfl ?_); refine box_event ?hg (N := 1) ?hd (cs := #[.string a0_0, .int .i64 a0_1, .int .i64 a0_2, .int .i64 a0_3, .int .i64 a0_4, .int .i64 a0_5, .int .i64 a0_6, .int .i64 a0_7, .int .i64 a0_8]) (t := 92) ?hr ?_; (case hd => rfl); (case hg => rfl); (case hr => first | (go_simp; done) | (go_simp; rfl)); intro gb290 hg w27 hbox hb; have n0_ := Aside0.mk (below_step Zc hb); have n1_ := Aside0.mk (hbox); have n2_ := Aside0.mk ((Zd : w.heap.size ≤ gb290)); have n3_ := Aside0.mk ((Zd : w.heap.size ≤ gb290)); clear HB; have HB := n0_; have BK290 := n1_; have GW290 := n2_; have GE290 := n3_; clear n0_ n1_ n2_ n3_; clear hb hbox hg; obtain ⟨hcz28_0, hcz28_1, hcz28_2, hcz28_3, hcz28_4, hcz28_5, hcz28_6, hcz28_7, hcz28_8, hfz28_0, hfz28_1, hfz28_2, hfz28_3, hfz28_4, hfz28_5, hfz28_6, hfz28_7, hfz28_8⟩ := cz9 BK290) | ((with_reducible refine gate_callee (f := 135) rfl ?_); refine goesL_ (some 5) rfl rfl Try.func135 Zj rfl #[.string a0_0] rfl Zo ?_; (with_reducible refine (impl_IsWord.calls k a0_0 true _ A2.out).mono ?_); rintro e w' ⟨rfl, ⟨nd, rfl⟩⟩; refine ⟨_, rfl, ?_⟩) | (go_at_call 89; (with_reducible refine (impl_within.calls a0_1 0 3 true _ A4.out).mono ?_); rintro e w' ⟨rfl, ⟨nd, rfl⟩⟩) | (go_at_call 89; (with_reducible refine (impl_within.calls a0_2 20 300 true _ A6.out).mono ?_); rintro e w' ⟨rfl, ⟨nd, rfl⟩⟩) | (go_at_call 89; (with_reducible refine (impl_within.calls a0_3 0 10000 true _ A8.out).mono ?_); rintro e w' ⟨rfl, ⟨nd, rfl⟩⟩) | (go_at_call 89; (with_reducible refine (impl_within.calls a0_4 0 a0_3 false _ A10.out).mono ?_); rintro e w' ⟨rfl, ⟨nd, rfl⟩⟩))
      go_ret
      exact ⟨Zk, (have z0_ := GE290; Zf)⟩
    ·replace c9 := Bool.eq_false_iff.mpr c9
     subst c9
     have H1 : (some false) = some r := by rw [if_neg (show ¬ (false = true) by decide)] at H; exact H
     clear H
     have H := H1
     clear H1
     obtain rfl := Option.some.inj H
     go_enter Try.func129, Try.ntmps129
     go_wp2_with (first | ((with_reducible refine gate_dst (N := 1) rfl ?_); refine box_event ?hg (N := 1) ?hd (cs := #[.string a0_0, .int .i64 a0_1, .int .i64 a0_2, .int .i64 a0_3, .int .i64 a0_4, .int .i64 a0_5, .int .i64 a0_6, .int .i64 a0_7, .int .i64 a0_8]) (t := 92) ?hr ?_; (case hd => rfl); (case hg => rfl); (case hr => first | (go_simp; done) | (go_simp; rfl)); intro gb290 hg w29 hbox hb; have n0_ := Aside0.mk (below_step Zc hb); have n1_ := Aside0.mk (hbox); have n2_ := Aside0.mk ((Zd : w.heap.size ≤ gb290)); have n3_ := Aside0.mk ((Zd : w.heap.size ≤ gb290)); clear HB; have HB := n0_; have BK290 := n1_; have GW290 := n2_; have GE290 := n3_; clear n0_ n1_ n2_ n3_; clear hb hbox hg; obtain ⟨hcz30_0, hcz30_1, hcz30_2, hcz30_3, hcz30_4, hcz30_5, hcz30_6, hcz30_7, hcz30_8, hfz30_0, hfz30_1, hfz30_2, hfz30_3, hfz30_4, hfz30_5, hfz30_6, hfz30_7, hfz30_8⟩ := cz9 BK290) | ((with_reducible refine gate_callee (f := 135) rfl ?_); refine goesL_ (some 5) rfl rfl Try.func135 Zj rfl #[.string a0_0] rfl Zo ?_; (with_reducible refine (impl_IsWord.calls k a0_0 true _ A2.out).mono ?_); rintro e w' ⟨rfl, ⟨nd, rfl⟩⟩; refine ⟨_, rfl, ?_⟩) | (go_at_call 89; (with_reducible refine (impl_within.calls a0_1 0 3 true _ A4.out).mono ?_); rintro e w' ⟨rfl, ⟨nd, rfl⟩⟩) | (go_at_call 89; (with_reducible refine (impl_within.calls a0_2 20 300 true _ A6.out).mono ?_); rintro e w' ⟨rfl, ⟨nd, rfl⟩⟩) | (go_at_call 89; (with_reducible refine (impl_within.calls a0_3 0 10000 false _ A8.out).mono ?_); rintro e w' ⟨rfl, ⟨nd, rfl⟩⟩))
     go_ret
     exact ⟨Zk, (have z0_ := GE290; Zf)⟩
   ·replace c7 := Bool.eq_false_iff.mpr c7
    subst c7
    have H1 : (some false) = some r := by rw [if_neg (show ¬ (false = true) by decide)] at H; exact H
    clear H
    have H := H1
    clear H1
    obtain rfl := Option.some.inj H
    go_enter Try.func129, Try.ntmps129
    go_wp2_with (first | ((with_reducible refine gate_dst (N := 1) rfl ?_); refine box_event ?hg (N := 1) ?hd (cs := #[.string a0_0, .int .i64 a0_1, .int .i64 a0_2, .int .i64 a0_3, .int .i64 a0_4, .int .i64 a0_5, .int .i64 a0_6, .int .i64 a0_7, .int .i64 a0_8]) (t := 92) ?hr ?_; (case hd => rfl); (case hg => rfl); (case hr => first | (go_simp; done) | (go_simp; rfl)); intro gb290 hg w31 hbox hb; have n0_ := Aside0.mk (below_step Zc hb); have n1_ := Aside0.mk (hbox); have n2_ := Aside0.mk ((Zd : w.heap.size ≤ gb290)); have n3_ := Aside0.mk ((Zd : w.heap.size ≤ gb290)); clear HB; have HB := n0_; have BK290 := n1_; have GW290 := n2_; have GE290 := n3_; clear n0_ n1_ n2_ n3_; clear hb hbox hg; obtain ⟨hcz32_0, hcz32_1, hcz32_2, hcz32_3, hcz32_4, hcz32_5, hcz32_6, hcz32_7, hcz32_8, hfz32_0, hfz32_1, hfz32_2, hfz32_3, hfz32_4, hfz32_5, hfz32_6, hfz32_7, hfz32_8⟩ := cz9 BK290) | ((with_reducible refine gate_callee (f := 135) rfl ?_); refine goesL_ (some 5) rfl rfl Try.func135 Zj rfl #[.string a0_0] rfl Zo ?_; (with_reducible refine (impl_IsWord.calls k a0_0 true _ A2.out).mono ?_); rintro e w' ⟨rfl, ⟨nd, rfl⟩⟩; refine ⟨_, rfl, ?_⟩) | (go_at_call 89; (with_reducible refine (impl_within.calls a0_1 0 3 true _ A4.out).mono ?_); rintro e w' ⟨rfl, ⟨nd, rfl⟩⟩) | (go_at_call 89; (with_reducible refine (impl_within.calls a0_2 20 300 false _ A6.out).mono ?_); rintro e w' ⟨rfl, ⟨nd, rfl⟩⟩))
    go_ret
    exact ⟨Zk, (have z0_ := GE290; Zf)⟩
  ·replace c5 := Bool.eq_false_iff.mpr c5
   subst c5
   have H1 : (some false) = some r := by rw [if_neg (show ¬ (false = true) by decide)] at H; exact H
   clear H
   have H := H1
   clear H1
   obtain rfl := Option.some.inj H
   go_enter Try.func129, Try.ntmps129
   go_wp2_with (first | ((with_reducible refine gate_dst (N := 1) rfl ?_); refine box_event ?hg (N := 1) ?hd (cs := #[.string a0_0, .int .i64 a0_1, .int .i64 a0_2, .int .i64 a0_3, .int .i64 a0_4, .int .i64 a0_5, .int .i64 a0_6, .int .i64 a0_7, .int .i64 a0_8]) (t := 92) ?hr ?_; (case hd => rfl); (case hg => rfl); (case hr => first | (go_simp; done) | (go_simp; rfl)); intro gb290 hg w33 hbox hb; have n0_ := Aside0.mk (below_step Zc hb); have n1_ := Aside0.mk (hbox); have n2_ := Aside0.mk ((Zd : w.heap.size ≤ gb290)); have n3_ := Aside0.mk ((Zd : w.heap.size ≤ gb290)); clear HB; have HB := n0_; have BK290 := n1_; have GW290 := n2_; have GE290 := n3_; clear n0_ n1_ n2_ n3_; clear hb hbox hg; obtain ⟨hcz34_0, hcz34_1, hcz34_2, hcz34_3, hcz34_4, hcz34_5, hcz34_6, hcz34_7, hcz34_8, hfz34_0, hfz34_1, hfz34_2, hfz34_3, hfz34_4, hfz34_5, hfz34_6, hfz34_7, hfz34_8⟩ := cz9 BK290) | ((with_reducible refine gate_callee (f := 135) rfl ?_); refine goesL_ (some 5) rfl rfl Try.func135 Zj rfl #[.string a0_0] rfl Zo ?_; (with_reducible refine (impl_IsWord.calls k a0_0 true _ A2.out).mono ?_); rintro e w' ⟨rfl, ⟨nd, rfl⟩⟩; refine ⟨_, rfl, ?_⟩) | (go_at_call 89; (with_reducible refine (impl_within.calls a0_1 0 3 false _ A4.out).mono ?_); rintro e w' ⟨rfl, ⟨nd, rfl⟩⟩))
   go_ret
   exact ⟨Zk, (have z0_ := GE290; Zf)⟩
 ·replace c3 := Bool.eq_false_iff.mpr c3
  subst c3
  have H1 : (some false) = some r := by rw [if_neg (show ¬ (false = true) by decide)] at H; exact H
  clear H
  have H := H1
  clear H1
  obtain rfl := Option.some.inj H
  go_enter Try.func129, Try.ntmps129
  go_wp2_with (first | ((with_reducible refine gate_dst (N := 1) rfl ?_); refine box_event ?hg (N := 1) ?hd (cs := #[.string a0_0, .int .i64 a0_1, .int .i64 a0_2, .int .i64 a0_3, .int .i64 a0_4, .int .i64 a0_5, .int .i64 a0_6, .int .i64 a0_7, .int .i64 a0_8]) (t := 92) ?hr ?_; (case hd => rfl); (case hg => rfl); (case hr => first | (go_simp; done) | (go_simp; rfl)); intro gb290 hg w35 hbox hb; have n0_ := Aside0.mk (below_step Zc hb); have n1_ := Aside0.mk (hbox); have n2_ := Aside0.mk ((Zd : w.heap.size ≤ gb290)); have n3_ := Aside0.mk ((Zd : w.heap.size ≤ gb290)); clear HB; have HB := n0_; have BK290 := n1_; have GW290 := n2_; have GE290 := n3_; clear n0_ n1_ n2_ n3_; clear hb hbox hg; obtain ⟨hcz36_0, hcz36_1, hcz36_2, hcz36_3, hcz36_4, hcz36_5, hcz36_6, hcz36_7, hcz36_8, hfz36_0, hfz36_1, hfz36_2, hfz36_3, hfz36_4, hfz36_5, hfz36_6, hfz36_7, hfz36_8⟩ := cz9 BK290) | ((with_reducible refine gate_callee (f := 135) rfl ?_); refine goesL_ (some 5) rfl rfl Try.func135 Zj rfl #[.string a0_0] rfl Zo ?_; (with_reducible refine (impl_IsWord.calls k a0_0 false _ A2.out).mono ?_); rintro e w' ⟨rfl, ⟨nd, rfl⟩⟩; refine ⟨_, rfl, ?_⟩))
  go_ret
  exact ⟨Zk, (have z0_ := GE290; Zf)⟩
end Go.Proofs.Ytnlbaflbhicooaa.F
namespace Go.Proofs.Ytnlbaflbhicooaa.F
open Go.RowKit Go.Proofs.YtnlbaflbhicooaaW.PrintWords Go.Proofs.YtnlbaflbhicooaaW.PrintLast Go.Proofs.YtnlbaflbhicooaaW.PrintMore
attribute [local go_sem] max2_int min2_int max_two min_two max_three min_three max_four min_four   -- for this text's walks alone
set_option linter.unusedVariables false
set_option linter.unusedSimpArgs false
def impl_AreArticles.l0 : Nat → List (S92) → List (S92) → Int → Int → Option (Bool)
 | 0, _, _, _, _ => none
 | k + 1, x0, x8, x9, x10 => if x10 < x9 then (if 0 ≤ x10 then (if x10 < (x8.length : Int) then ((impl_IsArticle.f k ((rd_T92 x8 x10).f0) ((rd_T92 x8 x10).f1) ((rd_T92 x8 x10).f2) ((rd_T92 x8 x10).f3) ((rd_T92 x8 x10).f4) ((rd_T92 x8 x10).f5) ((rd_T92 x8 x10).f6) ((rd_T92 x8 x10).f7) ((rd_T92 x8 x10).f8)).bind fun t302 => (if t302 = true then (if x10 > 0 then (if 0 ≤ (wrap64 (x10 - 1)) then (if (wrap64 (x10 - 1)) < (x0.length : Int) then (if ((Op.bytesLess (((rd_T92 x0 (wrap64 (x10 - 1))).f0).toList) (((rd_T92 x8 x10).f0).toList)) = true) then (impl_AreArticles.l0 k x0 x8 x9 (wrap64 (x10 + 1))) else (some false)) else (none)) else (none)) else (impl_AreArticles.l0 k x0 x8 x9 (wrap64 (x10 + 1)))) else (some false))) else (none)) else (none)) else (some true)
def impl_AreArticles.f (k : Nat) (l0 : List (S92)) : Option (Bool) := if (l0.length : Int) > 12 then (some false) else (impl_AreArticles.l0 k l0 l0 (l0.length : Int) 0)
def impl_AreArticles.T6 : Bool × List (List Nat × List Nat) := (true, [([], []), ([0], [0]), ([1], [1]), ([2, 1], [2]), ([3], [3]), ([4, 3], [3, 4]), ([5, 3, 3], [3, 5]), ([6], [6]), ([6], [6]), ([8, 6], [6, 8]), ([7, 9, 6], [6, 7, 9]), ([10, 6], [6, 10]), ([11, 6], [6, 11]), ([6], [6]), ([13, 6], [6, 13]), ([12, 14, 6], [6, 12, 14]), ([6, 15, 3], [3, 6, 15]), ([3, 16], [3, 16])])
def impl_AreArticles.B6 : List Nat := [0, 1, 3, 7, 15, 31, 63, 127, 127, 383, 1023, 2047, 4095, 127, 8319, 32767, 65535, 131071]
theorem impl_AreArticles.tab6 : rtab .any (opsOf Try.f97 6) = impl_AreArticles.T6 := by kernel_rfl
theorem impl_AreArticles.bits6 : waitsOk impl_AreArticles.T6.2 impl_AreArticles.B6 = true := by kernel_rfl
set_option maxHeartbeats 8000000 in
set_option maxRecDepth 100000 in
theorem impl_AreArticles.calls (k : Nat) (A0 : Option Addr) (c0 : Nat) (l0 : List (S92)) (r : Bool) (w : World) (hr0 : Kd.C k92 w A0 l0.length l0) (hc0 : l0.length ≤ c0) (h : impl_AreArticles.f k l0 = some r) :
  Calls Try.prog 97 #[.slice A0 l0.length c0] w fun e w' => e = .returned (.bool r) ∧ Below w.heap.size w w' := by
 have hu92 := Try.underlying92
 have HR0 := Aside0.mk hr0
 have HC0 := Aside0.mk hc0
 clear hr0 hc0
 have HB := Aside0.mk (Below.refl w.heap.size w)
 have H : (if (l0.length : Int) > 12 then (some false) else (impl_AreArticles.l0 k l0 l0 (l0.length : Int) 0)) = some r := h
 clear h
 by_cases c2 : (l0.length : Int) > 12
 ·rw [if_pos c2] at H
  have c2b0 : decide (12 < (l0.length : Int)) = true := decide_eq_true c2
  have c2b1 : decide (12 < l0.length) = true := decide_eq_true (by omega)
  clear c2
  obtain rfl := Option.some.inj H
  go_enter Try.func97, Try.ntmps97
  go_wp2
  go_ret
  exact ⟨Zk, Zc⟩
 ·rw [if_neg c2] at H
  have c2b0 : decide (12 < (l0.length : Int)) = false := decide_eq_false c2
  have c2b1 : decide (12 < l0.length) = false := decide_eq_false (by omega)
  clear c2
  have H' := Aside0.mk H
  clear H
  go_enter Try.func97, Try.ntmps97
  go_wp2
  go_loopg [10] k (fun kq v10 w' => ∃ (x10_1 : Int), v10 = .int .i64 x10_1 ∧ Aside0 (impl_AreArticles.l0 kq l0 l0 (l0.length : Int) x10_1 = some r) ∧ Aside0 (kq ≤ k) ∧ Aside0 (Below w.heap.size w w'))
  case atStart => exact ⟨(0), Za, H', ⟨Nat.le_refl _⟩, ⟨Zc⟩⟩
  case round =>
   clear H'
   try clear c2
   try clear c2b0
   try clear c2b1
   try clear p2
   obtain ⟨x10_1, rfl, HA, HK1, HB⟩ := hrel
   cases gk with
   | zero => exact absurd HA.out (by simp [impl_AreArticles.l0])
   | succ k1 =>
    have H := HA.out
    clear HA
    simp only [impl_AreArticles.l0] at H
    by_cases c3 : x10_1 < (l0.length : Int)
    ·rw [if_pos c3] at H
     have c3b0 : decide (x10_1 < (l0.length : Int)) = true := decide_eq_true c3
     clear c3
     by_cases c4 : 0 ≤ x10_1
     ·rw [if_pos c4] at H
      have c4b0 : decide (0 ≤ x10_1) = true := decide_eq_true c4
      clear c4
      by_cases c5 : x10_1 < (l0.length : Int)
      ·rw [if_pos c5] at H
       have c5b0 : decide (x10_1 < (l0.length : Int)) = true := decide_eq_true c5
       clear c5
       replace H := Option.bind_eq_some_iff.mp H
       obtain ⟨t302, A60, H⟩ := H
       replace H : (if t302 = true then (if x10_1 > 0 then (if 0 ≤ (wrap64 (x10_1 - 1)) then (if (wrap64 (x10_1 - 1)) < (l0.length : Int) then (if ((Op.bytesLess (((rd_T92 l0 (wrap64 (x10_1 - 1))).f0).toList) (((rd_T92 l0 x10_1).f0).toList)) = true) then (impl_AreArticles.l0 k1 l0 l0 (l0.length : Int) (wrap64 (x10_1 + 1))) else (some false)) else (none)) else (none)) else (impl_AreArticles.l0 k1 l0 l0 (l0.length : Int) (wrap64 (x10_1 + 1)))) else (some false)) = some r := H
       have A6 := Aside0.mk A60
       clear A60
       by_cases c7 : t302 = true
       ·subst c7
        have H1 : (if x10_1 > 0 then (if 0 ≤ (wrap64 (x10_1 - 1)) then (if (wrap64 (x10_1 - 1)) < (l0.length : Int) then (if ((Op.bytesLess (((rd_T92 l0 (wrap64 (x10_1 - 1))).f0).toList) (((rd_T92 l0 x10_1).f0).toList)) = true) then (impl_AreArticles.l0 k1 l0 l0 (l0.length : Int) (wrap64 (x10_1 + 1))) else (some false)) else (none)) else (none)) else (impl_AreArticles.l0 k1 l0 l0 (l0.length : Int) (wrap64 (x10_1 + 1)))) = some r := by rw [if_pos rfl] at H; exact H
        clear H
        have H := H1
        clear H1
        by_cases c8 : x10_1 > 0
        ·rw [if_pos c8] at H
         have c8b0 : decide (0 < x10_1) = true := decide_eq_true c8
         clear c8
         obtain ⟨ji9, hji9⟩ : ∃ j_ : Int, (wrap64 (x10_1 - 1)) = j_ := ⟨_, rfl⟩
         replace H : (if 0 ≤ (ji9) then (if (ji9) < (l0.length : Int) then (if ((Op.bytesLess (((rd_T92 l0 (ji9)).f0).toList) (((rd_T92 l0 x10_1).f0).toList)) = true) then (impl_AreArticles.l0 k1 l0 l0 (l0.length : Int) (wrap64 (x10_1 + 1))) else (some false)) else (none)) else (none)) = some r := by first | (rw [hji9] at H; exact H) | (simp only [hji9] at H ⊢; exact H)
         (try rw [hji9] at A6)
         have hji9w : (IntKind.i64.wrap (x10_1 - 1)) = ji9 := (i64_w _).trans hji9
         by_cases c10 : 0 ≤ (ji9)
         ·rw [if_pos c10] at H
          have c10b0 : decide (0 ≤ (ji9)) = true := decide_eq_true c10
          clear c10
          by_cases c11 : (ji9) < (l0.length : Int)
          ·rw [if_pos c11] at H
           have c11b0 : decide ((ji9) < (l0.length : Int)) = true := decide_eq_true c11
           clear c11
           by_cases c12 : ((Op.bytesLess (((rd_T92 l0 (ji9)).f0).toList) (((rd_T92 l0 x10_1).f0).toList)) = true)
           ·rw [if_pos c12] at H
            have c12b0 : (Op.bytesLess (((rd_T92 l0 (ji9)).f0).toList) (((rd_T92 l0 x10_1).f0).toList)) = true := c12
            clear c12
            have H' := Aside0.mk H
            clear H
            have p300 : 0 ≤ (x10_1 : Int) := of_decide_eq_true Zp
            have q300 : x10_1 < (l0.length : Int) := of_decide_eq_true Zp
            obtain ⟨ad300, e300, hx300_0, hx300_1, hx300_2, hx300_3, hx300_4, hx300_5, hx300_6, hx300_7, hx300_8⟩ := at_T92 HR0.out x10_1 p300 q300
            cases e300
            replace hx300_0 := cbH HB hx300_0
            replace hx300_1 := cbH HB hx300_1
            replace hx300_2 := cbH HB hx300_2
            replace hx300_3 := cbH HB hx300_3
            replace hx300_4 := cbH HB hx300_4
            replace hx300_5 := cbH HB hx300_5
            replace hx300_6 := cbH HB hx300_6
            replace hx300_7 := cbH HB hx300_7
            replace hx300_8 := cbH HB hx300_8
            replace p300 := eq_true p300
            replace q300 := eq_true q300
            try go_wp2_with (first | ((with_reducible refine gate_dst (N := 4) rfl ?_); refine box_event ?hg (N := 4) ?hd (cs := #[.string (⟨#[]⟩ : ByteArray), .int .i64 0, .int .i64 0, .int .i64 0, .int .i64 0, .int .i64 0, .int .i64 0, .int .i64 0, .int .i64 0]) (t := 92) ?hr ?_; (case hd => rfl); (case hg => rfl); (case hr => first | (go_simp; done) | (go_simp; rfl)); intro gb301 hg w13 hbox hb; have n0_ := Aside0.mk (below_step Zc hb); have n1_ := Aside0.mk (hbox); have n2_ := Aside0.mk ((Zd : w.heap.size ≤ gb301)); have n3_ := Aside0.mk ((Zd : w.heap.size ≤ gb301)); clear HB; have HB := n0_; have BK301 := n1_; have GW301 := n2_; have GE301 := n3_; clear n0_ n1_ n2_ n3_; clear hb hbox hg; obtain ⟨hcz14_0, hcz14_1, hcz14_2, hcz14_3, hcz14_4, hcz14_5, hcz14_6, hcz14_7, hcz14_8, hfz14_0, hfz14_1, hfz14_2, hfz14_3, hfz14_4, hfz14_5, hfz14_6, hfz14_7, hfz14_8⟩ := cz9 BK301))
            have n0_ : Aside0 ((((((((((w13.setCell ⟨gb301, 0, none⟩ (.string ((rd_T92 l0 x10_1).f0))).setCell ⟨gb301, 1, none⟩ (.int .i64 ((rd_T92 l0 x10_1).f1))).setCell ⟨gb301, 2, none⟩ (.int .i64 ((rd_T92 l0 x10_1).f2))).setCell ⟨gb301, 3, none⟩ (.int .i64 ((rd_T92 l0 x10_1).f3))).setCell ⟨gb301, 4, none⟩ (.int .i64 ((rd_T92 l0 x10_1).f4))).setCell ⟨gb301, 5, none⟩ (.int .i64 ((rd_T92 l0 x10_1).f5))).setCell ⟨gb301, 6, none⟩ (.int .i64 ((rd_T92 l0 x10_1).f6))).setCell ⟨gb301, 7, none⟩ (.int .i64 ((rd_T92 l0 x10_1).f7))).setCell ⟨gb301, 8, none⟩ (.int .i64 ((rd_T92 l0 x10_1).f8))).heap[gb301]? = some (.cells #[.string ((rd_T92 l0 x10_1).f0), .int .i64 ((rd_T92 l0 x10_1).f1), .int .i64 ((rd_T92 l0 x10_1).f2), .int .i64 ((rd_T92 l0 x10_1).f3), .int .i64 ((rd_T92 l0 x10_1).f4), .int .i64 ((rd_T92 l0 x10_1).f5), .int .i64 ((rd_T92 l0 x10_1).f6), .int .i64 ((rd_T92 l0 x10_1).f7), .int .i64 ((rd_T92 l0 x10_1).f8)] 92 (0, 0))) := ⟨(have z0_ := BK301; Zat)⟩
            have n1_ : Aside0 (Below w.heap.size w (((((((((w13.setCell ⟨gb301, 0, none⟩ (.string ((rd_T92 l0 x10_1).f0))).setCell ⟨gb301, 1, none⟩ (.int .i64 ((rd_T92 l0 x10_1).f1))).setCell ⟨gb301, 2, none⟩ (.int .i64 ((rd_T92 l0 x10_1).f2))).setCell ⟨gb301, 3, none⟩ (.int .i64 ((rd_T92 l0 x10_1).f3))).setCell ⟨gb301, 4, none⟩ (.int .i64 ((rd_T92 l0 x10_1).f4))).setCell ⟨gb301, 5, none⟩ (.int .i64 ((rd_T92 l0 x10_1).f5))).setCell ⟨gb301, 6, none⟩ (.int .i64 ((rd_T92 l0 x10_1).f6))).setCell ⟨gb301, 7, none⟩ (.int .i64 ((rd_T92 l0 x10_1).f7))).setCell ⟨gb301, 8, none⟩ (.int .i64 ((rd_T92 l0 x10_1).f8)))) := ⟨(have z0_ := GE301; Zf)⟩
            (try clear BK301)
            (try clear HB)
            generalize (((((((((w13.setCell ⟨gb301, 0, none⟩ (.string ((rd_T92 l0 x10_1).f0))).setCell ⟨gb301, 1, none⟩ (.int .i64 ((rd_T92 l0 x10_1).f1))).setCell ⟨gb301, 2, none⟩ (.int .i64 ((rd_T92 l0 x10_1).f2))).setCell ⟨gb301, 3, none⟩ (.int .i64 ((rd_T92 l0 x10_1).f3))).setCell ⟨gb301, 4, none⟩ (.int .i64 ((rd_T92 l0 x10_1).f4))).setCell ⟨gb301, 5, none⟩ (.int .i64 ((rd_T92 l0 x10_1).f5))).setCell ⟨gb301, 6, none⟩ (.int .i64 ((rd_T92 l0 x10_1).f6))).setCell ⟨gb301, 7, none⟩ (.int .i64 ((rd_T92 l0 x10_1).f7))).setCell ⟨gb301, 8, none⟩ (.int .i64 ((rd_T92 l0 x10_1).f8))) = w15 at n0_ n1_ ⊢
            have BK301 := n0_
            have HB := n1_
            clear n0_ n1_
            have n0_ := Aside0.mk (blk_drew BK301.out)
            have n1_ := Aside0.mk (below_drew1 HB.out)
            clear BK301
            clear HB
            have BK301 := n0_
            have HB := n1_
            clear n0_ n1_
            have p303 : 0 ≤ ((ji9) : Int) := of_decide_eq_true Zp
            have q303 : (ji9) < (l0.length : Int) := of_decide_eq_true Zp
            obtain ⟨ad303, e303, hx303_0, hx303_1, hx303_2, hx303_3, hx303_4, hx303_5, hx303_6, hx303_7, hx303_8⟩ := at_T92 HR0.out (ji9) p303 q303
            have hw303_8 := hx303_8
            have hw303_7 := hx303_7
            have hw303_6 := hx303_6
            have hw303_5 := hx303_5
            have hw303_4 := hx303_4
            have hw303_3 := hx303_3
            have hw303_2 := hx303_2
            have hw303_1 := hx303_1
            have hw303_0 := hx303_0
            obtain rfl : ad300 = ad303 := (by injection e303)
            replace hx303_0 := cbH HB hx303_0
            replace hx303_1 := cbH HB hx303_1
            replace hx303_2 := cbH HB hx303_2
            replace hx303_3 := cbH HB hx303_3
            replace hx303_4 := cbH HB hx303_4
            replace hx303_5 := cbH HB hx303_5
            replace hx303_6 := cbH HB hx303_6
            replace hx303_7 := cbH HB hx303_7
            replace hx303_8 := cbH HB hx303_8
            replace p303 := eq_true p303
            replace q303 := eq_true q303
            refine start_ (n := 18) (S := fun w' => w'.cell? ⟨gb301, 0, none⟩ = some (.string ((rd_T92 l0 x10_1).f0)) ∧ w'.cell? ⟨gb301, 1, none⟩ = some (.int .i64 ((rd_T92 l0 x10_1).f1)) ∧ w'.cell? ⟨gb301, 2, none⟩ = some (.int .i64 ((rd_T92 l0 x10_1).f2)) ∧ w'.cell? ⟨gb301, 3, none⟩ = some (.int .i64 ((rd_T92 l0 x10_1).f3)) ∧ w'.cell? ⟨gb301, 4, none⟩ = some (.int .i64 ((rd_T92 l0 x10_1).f4)) ∧ w'.cell? ⟨gb301, 5, none⟩ = some (.int .i64 ((rd_T92 l0 x10_1).f5)) ∧ w'.cell? ⟨gb301, 6, none⟩ = some (.int .i64 ((rd_T92 l0 x10_1).f6)) ∧ w'.cell? ⟨gb301, 7, none⟩ = some (.int .i64 ((rd_T92 l0 x10_1).f7)) ∧ w'.cell? ⟨gb301, 8, none⟩ = some (.int .i64 ((rd_T92 l0 x10_1).f8)) ∧ w'.cell? (ad300.add (((ji9)).toNat * 9)) = some (.string ((rd_T92 l0 (ji9)).f0)) ∧ w'.cell? ⟨(ad300.add (((ji9)).toNat * 9)).block, (ad300.add (((ji9)).toNat * 9)).off + 1, none⟩ = some (.int .i64 ((rd_T92 l0 (ji9)).f1)) ∧ w'.cell? ⟨(ad300.add (((ji9)).toNat * 9)).block, (ad300.add (((ji9)).toNat * 9)).off + 2, none⟩ = some (.int .i64 ((rd_T92 l0 (ji9)).f2)) ∧ w'.cell? ⟨(ad300.add (((ji9)).toNat * 9)).block, (ad300.add (((ji9)).toNat * 9)).off + 3, none⟩ = some (.int .i64 ((rd_T92 l0 (ji9)).f3)) ∧ w'.cell? ⟨(ad300.add (((ji9)).toNat * 9)).block, (ad300.add (((ji9)).toNat * 9)).off + 4, none⟩ = some (.int .i64 ((rd_T92 l0 (ji9)).f4)) ∧ w'.cell? ⟨(ad300.add (((ji9)).toNat * 9)).block, (ad300.add (((ji9)).toNat * 9)).off + 5, none⟩ = some (.int .i64 ((rd_T92 l0 (ji9)).f5)) ∧ w'.cell? ⟨(ad300.add (((ji9)).toNat * 9)).block, (ad300.add (((ji9)).toNat * 9)).off + 6, none⟩ = some (.int .i64 ((rd_T92 l0 (ji9)).f6)) ∧ w'.cell? ⟨(ad300.add (((ji9)).toNat * 9)).block, (ad300.add (((ji9)).toNat * 9)).off + 7, none⟩ = some (.int .i64 ((rd_T92 l0 (ji9)).f7)) ∧ w'.cell? ⟨(ad300.add (((ji9)).toNat * 9)).block, (ad300.add (((ji9)).toNat * 9)).off + 8, none⟩ = some (.int .i64 ((rd_T92 l0 (ji9)).f8))) (ds := []) (bT 18 0) Zj rfl rfl ⟨(blk_cell BK301.out 0).trans rfl, (blk_cell BK301.out 1).trans rfl, (blk_cell BK301.out 2).trans rfl, (blk_cell BK301.out 3).trans rfl, (blk_cell BK301.out 4).trans rfl, (blk_cell BK301.out 5).trans rfl, (blk_cell BK301.out 6).trans rfl, (blk_cell BK301.out 7).trans rfl, (blk_cell BK301.out 8).trans rfl, (cbH HB hw303_0 :), (cbH HB hw303_1 :), (cbH HB hw303_2 :), (cbH HB hw303_3 :), (cbH HB hw303_4 :), (cbH HB hw303_5 :), (cbH HB hw303_6 :), (cbH HB hw303_7 :), (cbH HB hw303_8 :)⟩ (fun hHeld => ?_); refine with_tabW impl_AreArticles.tab6 impl_AreArticles.bits6 (fun HT_ HW_ => ?_)
            generalize w15.drew = w16 at BK301 HB hx303_0 hx303_1 hx303_2 hx303_3 hx303_4 hx303_5 hx303_6 hx303_7 hx303_8 hHeld ⊢
            refine take_ (i := 0) (N := some 15) (v := ?_) (a' := ?_) (bT 18 1) rfl rfl (take_ofW HT_.out HW_.out Zj) (fun _ _ _ h => h) (Or.inl ⟨by rfl, ?_⟩) hHeld ?_ ?_
            rotate_left
            ·rintro w' ⟨s0, s1, s2, s3, s4, s5, s6, s7, s8, s9, s10, s11, s12, s13, s14, s15, s16, s17⟩
             go_simp
             with_reducible rfl
            rotate_left
            ·exact Zput
            refine one_ (i := 1) (N := some 16) (bT 18 2) rfl rfl (one_of HT_.out Zj) (by decide) (fun K hK => ?_)
            refine goes_ Try.func129 Zj rfl #[.agg #[.string ((rd_T92 l0 x10_1).f0), .int .i64 ((rd_T92 l0 x10_1).f1), .int .i64 ((rd_T92 l0 x10_1).f2), .int .i64 ((rd_T92 l0 x10_1).f3), .int .i64 ((rd_T92 l0 x10_1).f4), .int .i64 ((rd_T92 l0 x10_1).f5), .int .i64 ((rd_T92 l0 x10_1).f6), .int .i64 ((rd_T92 l0 x10_1).f7), .int .i64 ((rd_T92 l0 x10_1).f8)]] (by rfl) rfl rfl Zo ?_
            with_reducible refine (impl_IsArticle.calls k1 ((rd_T92 l0 x10_1).f0) ((rd_T92 l0 x10_1).f1) ((rd_T92 l0 x10_1).f2) ((rd_T92 l0 x10_1).f3) ((rd_T92 l0 x10_1).f4) ((rd_T92 l0 x10_1).f5) ((rd_T92 l0 x10_1).f6) ((rd_T92 l0 x10_1).f7) ((rd_T92 l0 x10_1).f8) true _ A6.out).mono ?_
            rintro e w17 ⟨rfl, hb⟩
            refine ⟨_, rfl, ?_⟩
            have n0_ := Aside0.mk (blk_below (g := gb301) (o := .cells #[.string ((rd_T92 l0 x10_1).f0), .int .i64 ((rd_T92 l0 x10_1).f1), .int .i64 ((rd_T92 l0 x10_1).f2), .int .i64 ((rd_T92 l0 x10_1).f3), .int .i64 ((rd_T92 l0 x10_1).f4), .int .i64 ((rd_T92 l0 x10_1).f5), .int .i64 ((rd_T92 l0 x10_1).f6), .int .i64 ((rd_T92 l0 x10_1).f7), .int .i64 ((rd_T92 l0 x10_1).f8)] 92 (0, 0)) (have z0_ := BK301; Ze) hb)
            have n1_ := Aside0.mk (below_step (have z0_ := GE301; Zf) hb)
            clear BK301
            clear HB
            have BK301 := n0_
            have HB := n1_
            clear n0_ n1_
            (try clear hb)
            (try clear hb2)
            (try clear hk)
            (try clear hi)
            refine hK.out _ _ ⟨(blk_cell BK301.out 0).trans rfl, (blk_cell BK301.out 1).trans rfl, (blk_cell BK301.out 2).trans rfl, (blk_cell BK301.out 3).trans rfl, (blk_cell BK301.out 4).trans rfl, (blk_cell BK301.out 5).trans rfl, (blk_cell BK301.out 6).trans rfl, (blk_cell BK301.out 7).trans rfl, (blk_cell BK301.out 8).trans rfl, (cbH HB hw303_0 :), (cbH HB hw303_1 :), (cbH HB hw303_2 :), (cbH HB hw303_3 :), (cbH HB hw303_4 :), (cbH HB hw303_5 :), (cbH HB hw303_6 :), (cbH HB hw303_7 :), (cbH HB hw303_8 :)⟩ (fun hHeld => ?_)
            clear hK K
            refine norm_ (a' := ?_) ?_ ?_
            rotate_left
            ·show Act.put _ (some 16) _ = _
             simp only [Act.put, List.setIfInBounds_toArray, List.set_cons_zero, List.set_cons_succ, i64_w, i32_w]
             rfl
            refine pureZ HT_ 2 (some 17) (bT 18 3) ?_
            refine pureZ HT_ 3 (some 18) (bT 18 4) ?_
            refine pureZ HT_ 4 (some 19) (bT 18 5) ?_
            refine pureZ HT_ 5 (some 20) (bT 18 6) ?_
            refine pureZ HT_ 6 (some 21) (bT 18 7) ?_
            refine pureZ HT_ 7 (some 22) (bT 18 8) ?_
            refine pureZ HT_ 8 (some 23) (bT 18 9) ?_
            refine pureZ HT_ 9 (some 24) (bT 18 10) ?_
            refine pureZ HT_ 10 (some 25) (bT 18 11) ?_
            refine pureZ HT_ 11 (some 26) (bT 18 12) ?_
            refine pureZ HT_ 13 (some 28) #[true, true, true, true, true, true, true, true, true, true, true, true, false, true, false, false, false, false] ?_
            refine take_ (i := 12) (N := some 27) (v := ?_) (a' := ?_) (bT 18 14) rfl rfl (take_ofW HT_.out HW_.out Zj) (fun _ _ _ h => h) (Or.inl ⟨by rfl, ?_⟩) hHeld ?_ ?_
            rotate_left
            ·rintro w' ⟨s0, s1, s2, s3, s4, s5, s6, s7, s8, s9, s10, s11, s12, s13, s14, s15, s16, s17⟩
             go_simp
             with_reducible rfl
            rotate_left
            ·exact Zput
            refine take_ (i := 14) (N := some 29) (v := ?_) (a' := ?_) (bT 18 15) rfl rfl (take_ofW HT_.out HW_.out Zj) (fun _ _ _ h => h) (Or.inl ⟨by rfl, ?_⟩) hHeld ?_ ?_
            rotate_left
            ·rintro w' ⟨s0, s1, s2, s3, s4, s5, s6, s7, s8, s9, s10, s11, s12, s13, s14, s15, s16, s17⟩
             go_simp
             with_reducible rfl
            rotate_left
            ·exact Zput
            refine pureZ HT_ 15 (some 30) (bT 18 16) ?_
            refine pureZ HT_ 16 (some 31) (bT 18 17) ?_
            refine pureZ HT_ 17 (some 32) (bT 18 18) ?_
            refine done_ (done_of HT_.out Zj) ?_
            try go_wp2
            go_roundg k1
            case measure => have := HK1.out; omega
            case rel => exact ⟨(wrap64 (x10_1 + 1)), Za, H', ⟨Zt⟩, ⟨(have z0_ := GE301; Zf)⟩⟩
           ·rw [if_neg c12] at H
            have c12b0 : (Op.bytesLess (((rd_T92 l0 (ji9)).f0).toList) (((rd_T92 l0 x10_1).f0).toList)) = false := by simpa using c12
            clear c12
            obtain rfl := Option.some.inj H
            have p300 : 0 ≤ (x10_1 : Int) := of_decide_eq_true Zp
            have q300 : x10_1 < (l0.length : Int) := of_decide_eq_true Zp
            obtain ⟨ad300, e300, hx300_0, hx300_1, hx300_2, hx300_3, hx300_4, hx300_5, hx300_6, hx300_7, hx300_8⟩ := at_T92 HR0.out x10_1 p300 q300
            cases e300
            replace hx300_0 := cbH HB hx300_0
            replace hx300_1 := cbH HB hx300_1
            replace hx300_2 := cbH HB hx300_2
            replace hx300_3 := cbH HB hx300_3
            replace hx300_4 := cbH HB hx300_4
            replace hx300_5 := cbH HB hx300_5
            replace hx300_6 := cbH HB hx300_6
            replace hx300_7 := cbH HB hx300_7
            replace hx300_8 := cbH HB hx300_8
            replace p300 := eq_true p300
            replace q300 := eq_true q300
            try go_wp2_with (first | ((with_reducible refine gate_dst (N := 4) rfl ?_); refine box_event ?hg (N := 4) ?hd (cs := #[.string (⟨#[]⟩ : ByteArray), .int .i64 0, .int .i64 0, .int .i64 0, .int .i64 0, .int .i64 0, .int .i64 0, .int .i64 0, .int .i64 0]) (t := 92) ?hr ?_; (case hd => rfl); (case hg => rfl); (case hr => first | (go_simp; done) | (go_simp; rfl)); intro gb301 hg w18 hbox hb; have n0_ := Aside0.mk (below_step Zc hb); have n1_ := Aside0.mk (hbox); have n2_ := Aside0.mk ((Zd : w.heap.size ≤ gb301)); have n3_ := Aside0.mk ((Zd : w.heap.size ≤ gb301)); clear HB; have HB := n0_; have BK301 := n1_; have GW301 := n2_; have GE301 := n3_; clear n0_ n1_ n2_ n3_; clear hb hbox hg; obtain ⟨hcz19_0, hcz19_1, hcz19_2, hcz19_3, hcz19_4, hcz19_5, hcz19_6, hcz19_7, hcz19_8, hfz19_0, hfz19_1, hfz19_2, hfz19_3, hfz19_4, hfz19_5, hfz19_6, hfz19_7, hfz19_8⟩ := cz9 BK301))
            have n0_ : Aside0 ((((((((((w18.setCell ⟨gb301, 0, none⟩ (.string ((rd_T92 l0 x10_1).f0))).setCell ⟨gb301, 1, none⟩ (.int .i64 ((rd_T92 l0 x10_1).f1))).setCell ⟨gb301, 2, none⟩ (.int .i64 ((rd_T92 l0 x10_1).f2))).setCell ⟨gb301, 3, none⟩ (.int .i64 ((rd_T92 l0 x10_1).f3))).setCell ⟨gb301, 4, none⟩ (.int .i64 ((rd_T92 l0 x10_1).f4))).setCell ⟨gb301, 5, none⟩ (.int .i64 ((rd_T92 l0 x10_1).f5))).setCell ⟨gb301, 6, none⟩ (.int .i64 ((rd_T92 l0 x10_1).f6))).setCell ⟨gb301, 7, none⟩ (.int .i64 ((rd_T92 l0 x10_1).f7))).setCell ⟨gb301, 8, none⟩ (.int .i64 ((rd_T92 l0 x10_1).f8))).heap[gb301]? = some (.cells #[.string ((rd_T92 l0 x10_1).f0), .int .i64 ((rd_T92 l0 x10_1).f1), .int .i64 ((rd_T92 l0 x10_1).f2), .int .i64 ((rd_T92 l0 x10_1).f3), .int .i64 ((rd_T92 l0 x10_1).f4), .int .i64 ((rd_T92 l0 x10_1).f5), .int .i64 ((rd_T92 l0 x10_1).f6), .int .i64 ((rd_T92 l0 x10_1).f7), .int .i64 ((rd_T92 l0 x10_1).f8)] 92 (0, 0))) := ⟨(have z0_ := BK301; Zat)⟩
            have n1_ : Aside0 (Below w.heap.size w (((((((((w18.setCell ⟨gb301, 0, none⟩ (.string ((rd_T92 l0 x10_1).f0))).setCell ⟨gb301, 1, none⟩ (.int .i64 ((rd_T92 l0 x10_1).f1))).setCell ⟨gb301, 2, none⟩ (.int .i64 ((rd_T92 l0 x10_1).f2))).setCell ⟨gb301, 3, none⟩ (.int .i64 ((rd_T92 l0 x10_1).f3))).setCell ⟨gb301, 4, none⟩ (.int .i64 ((rd_T92 l0 x10_1).f4))).setCell ⟨gb301, 5, none⟩ (.int .i64 ((rd_T92 l0 x10_1).f5))).setCell ⟨gb301, 6, none⟩ (.int .i64 ((rd_T92 l0 x10_1).f6))).setCell ⟨gb301, 7, none⟩ (.int .i64 ((rd_T92 l0 x10_1).f7))).setCell ⟨gb301, 8, none⟩ (.int .i64 ((rd_T92 l0 x10_1).f8)))) := ⟨(have z0_ := GE301; Zf)⟩
            (try clear BK301)
            (try clear HB)
            generalize (((((((((w18.setCell ⟨gb301, 0, none⟩ (.string ((rd_T92 l0 x10_1).f0))).setCell ⟨gb301, 1, none⟩ (.int .i64 ((rd_T92 l0 x10_1).f1))).setCell ⟨gb301, 2, none⟩ (.int .i64 ((rd_T92 l0 x10_1).f2))).setCell ⟨gb301, 3, none⟩ (.int .i64 ((rd_T92 l0 x10_1).f3))).setCell ⟨gb301, 4, none⟩ (.int .i64 ((rd_T92 l0 x10_1).f4))).setCell ⟨gb301, 5, none⟩ (.int .i64 ((rd_T92 l0 x10_1).f5))).setCell ⟨gb301, 6, none⟩ (.int .i64 ((rd_T92 l0 x10_1).f6))).setCell ⟨gb301, 7, none⟩ (.int .i64 ((rd_T92 l0 x10_1).f7))).setCell ⟨gb301, 8, none⟩ (.int .i64 ((rd_T92 l0 x10_1).f8))) = w20 at n0_ n1_ ⊢
            have BK301 := n0_
            have HB := n1_
            clear n0_ n1_
            have n0_ := Aside0.mk (blk_drew BK301.out)
            have n1_ := Aside0.mk (below_drew1 HB.out)
            clear BK301
            clear HB
            have BK301 := n0_
            have HB := n1_
            clear n0_ n1_
            have p303 : 0 ≤ ((ji9) : Int) := of_decide_eq_true Zp
            have q303 : (ji9) < (l0.length : Int) := of_decide_eq_true Zp
            obtain ⟨ad303, e303, hx303_0, hx303_1, hx303_2, hx303_3, hx303_4, hx303_5, hx303_6, hx303_7, hx303_8⟩ := at_T92 HR0.out (ji9) p303 q303
            have hw303_8 := hx303_8
            have hw303_7 := hx303_7
            have hw303_6 := hx303_6
            have hw303_5 := hx303_5
            have hw303_4 := hx303_4
            have hw303_3 := hx303_3
            have hw303_2 := hx303_2
            have hw303_1 := hx303_1
            have hw303_0 := hx303_0
            obtain rfl : ad300 = ad303 := (by injection e303)
            replace hx303_0 := cbH HB hx303_0
            replace hx303_1 := cbH HB hx303_1
            replace hx303_2 := cbH HB hx303_2
            replace hx303_3 := cbH HB hx303_3
            replace hx303_4 := cbH HB hx303_4
            replace hx303_5 := cbH HB hx303_5
            replace hx303_6 := cbH HB hx303_6
            replace hx303_7 := cbH HB hx303_7
            replace hx303_8 := cbH HB hx303_8
            replace p303 := eq_true p303
            replace q303 := eq_true q303
            refine start_ (n := 18) (S := fun w' => w'.cell? ⟨gb301, 0, none⟩ = some (.string ((rd_T92 l0 x10_1).f0)) ∧ w'.cell? ⟨gb301, 1, none⟩ = some (.int .i64 ((rd_T92 l0 x10_1).f1)) ∧ w'.cell? ⟨gb301, 2, none⟩ = some (.int .i64 ((rd_T92 l0 x10_1).f2)) ∧ w'.cell? ⟨gb301, 3, none⟩ = some (.int .i64 ((rd_T92 l0 x10_1).f3)) ∧ w'.cell? ⟨gb301, 4, none⟩ = some (.int .i64 ((rd_T92 l0 x10_1).f4)) ∧ w'.cell? ⟨gb301, 5, none⟩ = some (.int .i64 ((rd_T92 l0 x10_1).f5)) ∧ w'.cell? ⟨gb301, 6, none⟩ = some (.int .i64 ((rd_T92 l0 x10_1).f6)) ∧ w'.cell? ⟨gb301, 7, none⟩ = some (.int .i64 ((rd_T92 l0 x10_1).f7)) ∧ w'.cell? ⟨gb301, 8, none⟩ = some (.int .i64 ((rd_T92 l0 x10_1).f8)) ∧ w'.cell? (ad300.add (((ji9)).toNat * 9)) = some (.string ((rd_T92 l0 (ji9)).f0)) ∧ w'.cell? ⟨(ad300.add (((ji9)).toNat * 9)).block, (ad300.add (((ji9)).toNat * 9)).off + 1, none⟩ = some (.int .i64 ((rd_T92 l0 (ji9)).f1)) ∧ w'.cell? ⟨(ad300.add (((ji9)).toNat * 9)).block, (ad300.add (((ji9)).toNat * 9)).off + 2, none⟩ = some (.int .i64 ((rd_T92 l0 (ji9)).f2)) ∧ w'.cell? ⟨(ad300.add (((ji9)).toNat * 9)).block, (ad300.add (((ji9)).toNat * 9)).off + 3, none⟩ = some (.int .i64 ((rd_T92 l0 (ji9)).f3)) ∧ w'.cell? ⟨(ad300.add (((ji9)).toNat * 9)).block, (ad300.add (((ji9)).toNat * 9)).off + 4, none⟩ = some (.int .i64 ((rd_T92 l0 (ji9)).f4)) ∧ w'.cell? ⟨(ad300.add (((ji9)).toNat * 9)).block, (ad300.add (((ji9)).toNat * 9)).off + 5, none⟩ = some (.int .i64 ((rd_T92 l0 (ji9)).f5)) ∧ w'.cell? ⟨(ad300.add (((ji9)).toNat * 9)).block, (ad300.add (((ji9)).toNat * 9)).off + 6, none⟩ = some (.int .i64 ((rd_T92 l0 (ji9)).f6)) ∧ w'.cell? ⟨(ad300.add (((ji9)).toNat * 9)).block, (ad300.add (((ji9)).toNat * 9)).off + 7, none⟩ = some (.int .i64 ((rd_T92 l0 (ji9)).f7)) ∧ w'.cell? ⟨(ad300.add (((ji9)).toNat * 9)).block, (ad300.add (((ji9)).toNat * 9)).off + 8, none⟩ = some (.int .i64 ((rd_T92 l0 (ji9)).f8))) (ds := []) (bT 18 0) Zj rfl rfl ⟨(blk_cell BK301.out 0).trans rfl, (blk_cell BK301.out 1).trans rfl, (blk_cell BK301.out 2).trans rfl, (blk_cell BK301.out 3).trans rfl, (blk_cell BK301.out 4).trans rfl, (blk_cell BK301.out 5).trans rfl, (blk_cell BK301.out 6).trans rfl, (blk_cell BK301.out 7).trans rfl, (blk_cell BK301.out 8).trans rfl, (cbH HB hw303_0 :), (cbH HB hw303_1 :), (cbH HB hw303_2 :), (cbH HB hw303_3 :), (cbH HB hw303_4 :), (cbH HB hw303_5 :), (cbH HB hw303_6 :), (cbH HB hw303_7 :), (cbH HB hw303_8 :)⟩ (fun hHeld => ?_); refine with_tabW impl_AreArticles.tab6 impl_AreArticles.bits6 (fun HT_ HW_ => ?_)
            generalize w20.drew = w21 at BK301 HB hx303_0 hx303_1 hx303_2 hx303_3 hx303_4 hx303_5 hx303_6 hx303_7 hx303_8 hHeld ⊢
            refine take_ (i := 0) (N := some 15) (v := ?_) (a' := ?_) (bT 18 1) rfl rfl (take_ofW HT_.out HW_.out Zj) (fun _ _ _ h => h) (Or.inl ⟨by rfl, ?_⟩) hHeld ?_ ?_
            rotate_left
            ·rintro w' ⟨s0, s1, s2, s3, s4, s5, s6, s7, s8, s9, s10, s11, s12, s13, s14, s15, s16, s17⟩
             go_simp
             with_reducible rfl
            rotate_left
            ·exact Zput
            refine one_ (i := 1) (N := some 16) (bT 18 2) rfl rfl (one_of HT_.out Zj) (by decide) (fun K hK => ?_)
            refine goes_ Try.func129 Zj rfl #[.agg #[.string ((rd_T92 l0 x10_1).f0), .int .i64 ((rd_T92 l0 x10_1).f1), .int .i64 ((rd_T92 l0 x10_1).f2), .int .i64 ((rd_T92 l0 x10_1).f3), .int .i64 ((rd_T92 l0 x10_1).f4), .int .i64 ((rd_T92 l0 x10_1).f5), .int .i64 ((rd_T92 l0 x10_1).f6), .int .i64 ((rd_T92 l0 x10_1).f7), .int .i64 ((rd_T92 l0 x10_1).f8)]] (by rfl) rfl rfl Zo ?_
            with_reducible refine (impl_IsArticle.calls k1 ((rd_T92 l0 x10_1).f0) ((rd_T92 l0 x10_1).f1) ((rd_T92 l0 x10_1).f2) ((rd_T92 l0 x10_1).f3) ((rd_T92 l0 x10_1).f4) ((rd_T92 l0 x10_1).f5) ((rd_T92 l0 x10_1).f6) ((rd_T92 l0 x10_1).f7) ((rd_T92 l0 x10_1).f8) true _ A6.out).mono ?_
            rintro e w22 ⟨rfl, hb⟩
            refine ⟨_, rfl, ?_⟩
            have n0_ := Aside0.mk (blk_below (g := gb301) (o := .cells #[.string ((rd_T92 l0 x10_1).f0), .int .i64 ((rd_T92 l0 x10_1).f1), .int .i64 ((rd_T92 l0 x10_1).f2), .int .i64 ((rd_T92 l0 x10_1).f3), .int .i64 ((rd_T92 l0 x10_1).f4), .int .i64 ((rd_T92 l0 x10_1).f5), .int .i64 ((rd_T92 l0 x10_1).f6), .int .i64 ((rd_T92 l0 x10_1).f7), .int .i64 ((rd_T92 l0 x10_1).f8)] 92 (0, 0)) (have z0_ := BK301; Ze) hb)
            have n1_ := Aside0.mk (below_step (have z0_ := GE301; Zf) hb)
            clear BK301
            clear HB
            have BK301 := n0_
            have HB := n1_
            clear n0_ n1_
            (try clear hb)
            (try clear hb2)
            (try clear hk)
            (try clear hi)
            refine hK.out _ _ ⟨(blk_cell BK301.out 0).trans rfl, (blk_cell BK301.out 1).trans rfl, (blk_cell BK301.out 2).trans rfl, (blk_cell BK301.out 3).trans rfl, (blk_cell BK301.out 4).trans rfl, (blk_cell BK301.out 5).trans rfl, (blk_cell BK301.out 6).trans rfl, (blk_cell BK301.out 7).trans rfl, (blk_cell BK301.out 8).trans rfl, (cbH HB hw303_0 :), (cbH HB hw303_1 :), (cbH HB hw303_2 :), (cbH HB hw303_3 :), (cbH HB hw303_4 :), (cbH HB hw303_5 :), (cbH HB hw303_6 :), (cbH HB hw303_7 :), (cbH HB hw303_8 :)⟩ (fun hHeld => ?_)
            clear hK K
            refine norm_ (a' := ?_) ?_ ?_
            rotate_left
            ·show Act.put _ (some 16) _ = _
             simp only [Act.put, List.setIfInBounds_toArray, List.set_cons_zero, List.set_cons_succ, i64_w, i32_w]
             rfl
            refine pureZ HT_ 2 (some 17) (bT 18 3) ?_
            refine pureZ HT_ 3 (some 18) (bT 18 4) ?_
            refine pureZ HT_ 4 (some 19) (bT 18 5) ?_
            refine pureZ HT_ 5 (some 20) (bT 18 6) ?_
            refine pureZ HT_ 6 (some 21) (bT 18 7) ?_
            refine pureZ HT_ 7 (some 22) (bT 18 8) ?_
            refine pureZ HT_ 8 (some 23) (bT 18 9) ?_
            refine pureZ HT_ 9 (some 24) (bT 18 10) ?_
            refine pureZ HT_ 10 (some 25) (bT 18 11) ?_
            refine pureZ HT_ 11 (some 26) (bT 18 12) ?_
            refine pureZ HT_ 13 (some 28) #[true, true, true, true, true, true, true, true, true, true, true, true, false, true, false, false, false, false] ?_
            refine take_ (i := 12) (N := some 27) (v := ?_) (a' := ?_) (bT 18 14) rfl rfl (take_ofW HT_.out HW_.out Zj) (fun _ _ _ h => h) (Or.inl ⟨by rfl, ?_⟩) hHeld ?_ ?_
            rotate_left
            ·rintro w' ⟨s0, s1, s2, s3, s4, s5, s6, s7, s8, s9, s10, s11, s12, s13, s14, s15, s16, s17⟩
             go_simp
             with_reducible rfl
            rotate_left
            ·exact Zput
            refine take_ (i := 14) (N := some 29) (v := ?_) (a' := ?_) (bT 18 15) rfl rfl (take_ofW HT_.out HW_.out Zj) (fun _ _ _ h => h) (Or.inl ⟨by rfl, ?_⟩) hHeld ?_ ?_
            rotate_left
            ·rintro w' ⟨s0, s1, s2, s3, s4, s5, s6, s7, s8, s9, s10, s11, s12, s13, s14, s15, s16, s17⟩
             go_simp
             with_reducible rfl
            rotate_left
            ·exact Zput
            refine pureZ HT_ 15 (some 30) (bT 18 16) ?_
            refine pureZ HT_ 16 (some 31) (bT 18 17) ?_
            refine pureZ HT_ 17 (some 32) (bT 18 18) ?_
            refine done_ (done_of HT_.out Zj) ?_
            try go_wp2
            go_ret
            exact ⟨by first | rfl | (simp [errW_none, errW_some] <;> rfl) | (simp only [← hji9]; first | rfl | (simp [errW_none, errW_some] <;> rfl)) | (simp [*, errW_none, errW_some] <;> rfl), (have z0_ := GE301; Zf)⟩
          ·rw [if_neg c11] at H
           exact absurd H (by simp)
         ·rw [if_neg c10] at H
          exact absurd H (by simp)
        ·rw [if_neg c8] at H
         have c8b0 : decide (0 < x10_1) = false := decide_eq_false c8
         clear c8
         have H' := Aside0.mk H
         clear H
         have p300 : 0 ≤ (x10_1 : Int) := of_decide_eq_true Zp
         have q300 : x10_1 < (l0.length : Int) := of_decide_eq_true Zp
         obtain ⟨ad300, e300, hx300_0, hx300_1, hx300_2, hx300_3, hx300_4, hx300_5, hx300_6, hx300_7, hx300_8⟩ := at_T92 HR0.out x10_1 p300 q300
         cases e300
         replace hx300_0 := cbH HB hx300_0
         replace hx300_1 := cbH HB hx300_1
         replace hx300_2 := cbH HB hx300_2
         replace hx300_3 := cbH HB hx300_3
         replace hx300_4 := cbH HB hx300_4
         replace hx300_5 := cbH HB hx300_5
         replace hx300_6 := cbH HB hx300_6
         replace hx300_7 := cbH HB hx300_7
         replace hx300_8 := cbH HB hx300_8
         replace p300 := eq_true p300
         replace q300 := eq_true q300
         try go_wp2_with (first | ((with_reducible refine gate_dst (N := 4) rfl ?_); refine box_event ?hg (N := 4) ?hd (cs := #[.string (⟨#[]⟩ : ByteArray), .int .i64 0, .int .i64 0, .int .i64 0, .int .i64 0, .int .i64 0, .int .i64 0, .int .i64 0, .int .i64 0]) (t := 92) ?hr ?_; (case hd => rfl); (case hg => rfl); (case hr => first | (go_simp; done) | (go_simp; rfl)); intro gb301 hg w23 hbox hb; have n0_ := Aside0.mk (below_step Zc hb); have n1_ := Aside0.mk (hbox); have n2_ := Aside0.mk ((Zd : w.heap.size ≤ gb301)); have n3_ := Aside0.mk ((Zd : w.heap.size ≤ gb301)); clear HB; have HB := n0_; have BK301 := n1_; have GW301 := n2_; have GE301 := n3_; clear n0_ n1_ n2_ n3_; clear hb hbox hg; obtain ⟨hcz24_0, hcz24_1, hcz24_2, hcz24_3, hcz24_4, hcz24_5, hcz24_6, hcz24_7, hcz24_8, hfz24_0, hfz24_1, hfz24_2, hfz24_3, hfz24_4, hfz24_5, hfz24_6, hfz24_7, hfz24_8⟩ := cz9 BK301))
         have n0_ : Aside0 ((((((((((w23.setCell ⟨gb301, 0, none⟩ (.string ((rd_T92 l0 x10_1).f0))).setCell ⟨gb301, 1, none⟩ (.int .i64 ((rd_T92 l0 x10_1).f1))).setCell ⟨gb301, 2, none⟩ (.int .i64 ((rd_T92 l0 x10_1).f2))).setCell ⟨gb301, 3, none⟩ (.int .i64 ((rd_T92 l0 x10_1).f3))).setCell ⟨gb301, 4, none⟩ (.int .i64 ((rd_T92 l0 x10_1).f4))).setCell ⟨gb301, 5, none⟩ (.int .i64 ((rd_T92 l0 x10_1).f5))).setCell ⟨gb301, 6, none⟩ (.int .i64 ((rd_T92 l0 x10_1).f6))).setCell ⟨gb301, 7, none⟩ (.int .i64 ((rd_T92 l0 x10_1).f7))).setCell ⟨gb301, 8, none⟩ (.int .i64 ((rd_T92 l0 x10_1).f8))).heap[gb301]? = some (.cells #[.string ((rd_T92 l0 x10_1).f0), .int .i64 ((rd_T92 l0 x10_1).f1), .int .i64 ((rd_T92 l0 x10_1).f2), .int .i64 ((rd_T92 l0 x10_1).f3), .int .i64 ((rd_T92 l0 x10_1).f4), .int .i64 ((rd_T92 l0 x10_1).f5), .int .i64 ((rd_T92 l0 x10_1).f6), .int .i64 ((rd_T92 l0 x10_1).f7), .int .i64 ((rd_T92 l0 x10_1).f8)] 92 (0, 0))) := ⟨(have z0_ := BK301; Zat)⟩
         have n1_ : Aside0 (Below w.heap.size w (((((((((w23.setCell ⟨gb301, 0, none⟩ (.string ((rd_T92 l0 x10_1).f0))).setCell ⟨gb301, 1, none⟩ (.int .i64 ((rd_T92 l0 x10_1).f1))).setCell ⟨gb301, 2, none⟩ (.int .i64 ((rd_T92 l0 x10_1).f2))).setCell ⟨gb301, 3, none⟩ (.int .i64 ((rd_T92 l0 x10_1).f3))).setCell ⟨gb301, 4, none⟩ (.int .i64 ((rd_T92 l0 x10_1).f4))).setCell ⟨gb301, 5, none⟩ (.int .i64 ((rd_T92 l0 x10_1).f5))).setCell ⟨gb301, 6, none⟩ (.int .i64 ((rd_T92 l0 x10_1).f6))).setCell ⟨gb301, 7, none⟩ (.int .i64 ((rd_T92 l0 x10_1).f7))).setCell ⟨gb301, 8, none⟩ (.int .i64 ((rd_T92 l0 x10_1).f8)))) := ⟨(have z0_ := GE301; Zf)⟩
         (try clear BK301)
         (try clear HB)
         generalize (((((((((w23.setCell ⟨gb301, 0, none⟩ (.string ((rd_T92 l0 x10_1).f0))).setCell ⟨gb301, 1, none⟩ (.int .i64 ((rd_T92 l0 x10_1).f1))).setCell ⟨gb301, 2, none⟩ (.int .i64 ((rd_T92 l0 x10_1).f2))).setCell ⟨gb301, 3, none⟩ (.int .i64 ((rd_T92 l0 x10_1).f3))).setCell ⟨gb301, 4, none⟩ (.int .i64 ((rd_T92 l0 x10_1).f4))).setCell ⟨gb301, 5, none⟩ (.int .i64 ((rd_T92 l0 x10_1).f5))).setCell ⟨gb301, 6, none⟩ (.int .i64 ((rd_T92 l0 x10_1).f6))).setCell ⟨gb301, 7, none⟩ (.int .i64 ((rd_T92 l0 x10_1).f7))).setCell ⟨gb301, 8, none⟩ (.int .i64 ((rd_T92 l0 x10_1).f8))) = w25 at n0_ n1_ ⊢
         have BK301 := n0_
         have HB := n1_
         clear n0_ n1_
         have n0_ := Aside0.mk (blk_drew BK301.out)
         have n1_ := Aside0.mk (below_drew1 HB.out)
         clear BK301
         clear HB
         have BK301 := n0_
         have HB := n1_
         clear n0_ n1_
         refine start_ (n := 18) (S := fun w' => w'.cell? ⟨gb301, 0, none⟩ = some (.string ((rd_T92 l0 x10_1).f0)) ∧ w'.cell? ⟨gb301, 1, none⟩ = some (.int .i64 ((rd_T92 l0 x10_1).f1)) ∧ w'.cell? ⟨gb301, 2, none⟩ = some (.int .i64 ((rd_T92 l0 x10_1).f2)) ∧ w'.cell? ⟨gb301, 3, none⟩ = some (.int .i64 ((rd_T92 l0 x10_1).f3)) ∧ w'.cell? ⟨gb301, 4, none⟩ = some (.int .i64 ((rd_T92 l0 x10_1).f4)) ∧ w'.cell? ⟨gb301, 5, none⟩ = some (.int .i64 ((rd_T92 l0 x10_1).f5)) ∧ w'.cell? ⟨gb301, 6, none⟩ = some (.int .i64 ((rd_T92 l0 x10_1).f6)) ∧ w'.cell? ⟨gb301, 7, none⟩ = some (.int .i64 ((rd_T92 l0 x10_1).f7)) ∧ w'.cell? ⟨gb301, 8, none⟩ = some (.int .i64 ((rd_T92 l0 x10_1).f8))) (ds := []) (bT 18 0) Zj rfl rfl ⟨(blk_cell BK301.out 0).trans rfl, (blk_cell BK301.out 1).trans rfl, (blk_cell BK301.out 2).trans rfl, (blk_cell BK301.out 3).trans rfl, (blk_cell BK301.out 4).trans rfl, (blk_cell BK301.out 5).trans rfl, (blk_cell BK301.out 6).trans rfl, (blk_cell BK301.out 7).trans rfl, (blk_cell BK301.out 8).trans rfl⟩ (fun hHeld => ?_); refine with_tabW impl_AreArticles.tab6 impl_AreArticles.bits6 (fun HT_ HW_ => ?_)
         generalize w25.drew = w26 at BK301 HB hHeld ⊢
         refine take_ (i := 0) (N := some 15) (v := ?_) (a' := ?_) (bT 18 1) rfl rfl (take_ofW HT_.out HW_.out Zj) (fun _ _ _ h => h) (Or.inl ⟨by rfl, ?_⟩) hHeld ?_ ?_
         rotate_left
         ·rintro w' ⟨s0, s1, s2, s3, s4, s5, s6, s7, s8⟩
          go_simp
          with_reducible rfl
         rotate_left
         ·exact Zput
         refine one_ (i := 1) (N := some 16) (bT 18 2) rfl rfl (one_of HT_.out Zj) (by decide) (fun K hK => ?_)
         refine goes_ Try.func129 Zj rfl #[.agg #[.string ((rd_T92 l0 x10_1).f0), .int .i64 ((rd_T92 l0 x10_1).f1), .int .i64 ((rd_T92 l0 x10_1).f2), .int .i64 ((rd_T92 l0 x10_1).f3), .int .i64 ((rd_T92 l0 x10_1).f4), .int .i64 ((rd_T92 l0 x10_1).f5), .int .i64 ((rd_T92 l0 x10_1).f6), .int .i64 ((rd_T92 l0 x10_1).f7), .int .i64 ((rd_T92 l0 x10_1).f8)]] (by rfl) rfl rfl Zo ?_
         with_reducible refine (impl_IsArticle.calls k1 ((rd_T92 l0 x10_1).f0) ((rd_T92 l0 x10_1).f1) ((rd_T92 l0 x10_1).f2) ((rd_T92 l0 x10_1).f3) ((rd_T92 l0 x10_1).f4) ((rd_T92 l0 x10_1).f5) ((rd_T92 l0 x10_1).f6) ((rd_T92 l0 x10_1).f7) ((rd_T92 l0 x10_1).f8) true _ A6.out).mono ?_
         rintro e w27 ⟨rfl, hb⟩
         refine ⟨_, rfl, ?_⟩
         have n0_ := Aside0.mk (blk_below (g := gb301) (o := .cells #[.string ((rd_T92 l0 x10_1).f0), .int .i64 ((rd_T92 l0 x10_1).f1), .int .i64 ((rd_T92 l0 x10_1).f2), .int .i64 ((rd_T92 l0 x10_1).f3), .int .i64 ((rd_T92 l0 x10_1).f4), .int .i64 ((rd_T92 l0 x10_1).f5), .int .i64 ((rd_T92 l0 x10_1).f6), .int .i64 ((rd_T92 l0 x10_1).f7), .int .i64 ((rd_T92 l0 x10_1).f8)] 92 (0, 0)) (have z0_ := BK301; Ze) hb)
         have n1_ := Aside0.mk (below_step (have z0_ := GE301; Zf) hb)
         clear BK301
         clear HB
         have BK301 := n0_
         have HB := n1_
         clear n0_ n1_
         (try clear hb)
         (try clear hb2)
         (try clear hk)
         (try clear hi)
         refine hK.out _ _ ⟨(blk_cell BK301.out 0).trans rfl, (blk_cell BK301.out 1).trans rfl, (blk_cell BK301.out 2).trans rfl, (blk_cell BK301.out 3).trans rfl, (blk_cell BK301.out 4).trans rfl, (blk_cell BK301.out 5).trans rfl, (blk_cell BK301.out 6).trans rfl, (blk_cell BK301.out 7).trans rfl, (blk_cell BK301.out 8).trans rfl⟩ (fun hHeld => ?_)
         clear hK K
         refine norm_ (a' := ?_) ?_ ?_
         rotate_left
         ·show Act.put _ (some 16) _ = _
          simp only [Act.put, List.setIfInBounds_toArray, List.set_cons_zero, List.set_cons_succ, i64_w, i32_w]
          rfl
         refine pureZ HT_ 2 (some 17) (bT 18 3) ?_
         refine pureZ HT_ 3 (some 18) (bT 18 4) ?_
         refine pureZ HT_ 4 (some 19) (bT 18 5) ?_
         refine pureZ HT_ 5 (some 20) (bT 18 6) ?_
         refine pureZ HT_ 6 (some 21) (bT 18 7) ?_
         refine pure_ (i := 7) (N := some 22) (v := undef) (a' := ?_) (bT 18 8) rfl rfl (any_of HT_.out Zj) (fun _ _ _ h => h) (Or.inr ⟨by rfl, rfl⟩) ?_ ?_
         rotate_left
         ·exact Zput
         refine pure_ (i := 8) (N := some 23) (v := undef) (a' := ?_) (bT 18 9) rfl rfl (any_of HT_.out Zj) (fun _ _ _ h => h) (Or.inr ⟨by rfl, rfl⟩) ?_ ?_
         rotate_left
         ·exact Zput
         refine pure_ (i := 9) (N := some 24) (v := undef) (a' := ?_) (bT 18 10) rfl rfl (any_of HT_.out Zj) (fun _ _ _ h => h) (Or.inr ⟨by rfl, rfl⟩) ?_ ?_
         rotate_left
         ·exact Zput
         refine pure_ (i := 10) (N := some 25) (v := undef) (a' := ?_) (bT 18 11) rfl rfl (any_of HT_.out Zj) (fun _ _ _ h => h) (Or.inr ⟨by rfl, rfl⟩) ?_ ?_
         rotate_left
         ·exact Zput
         refine pure_ (i := 11) (N := some 26) (v := undef) (a' := ?_) (bT 18 12) rfl rfl (any_of HT_.out Zj) (fun _ _ _ h => h) (Or.inr ⟨by rfl, rfl⟩) ?_ ?_
         rotate_left
         ·exact Zput
         refine pure_ (i := 12) (N := some 27) (v := undef) (a' := ?_) (bT 18 13) rfl rfl (any_of HT_.out Zj) (fun _ _ _ h => h) (Or.inr ⟨by rfl, rfl⟩) ?_ ?_
         rotate_left
         ·exact Zput
         refine pure_ (i := 13) (N := some 28) (v := undef) (a' := ?_) (bT 18 14) rfl rfl (any_of HT_.out Zj) (fun _ _ _ h => h) (Or.inr ⟨by rfl, rfl⟩) ?_ ?_
         rotate_left
         ·exact Zput
         refine pure_ (i := 14) (N := some 29) (v := undef) (a' := ?_) (bT 18 15) rfl rfl (any_of HT_.out Zj) (fun _ _ _ h => h) (Or.inr ⟨by rfl, rfl⟩) ?_ ?_
         rotate_left
         ·exact Zput
         refine pure_ (i := 15) (N := some 30) (v := undef) (a' := ?_) (bT 18 16) rfl rfl (any_of HT_.out Zj) (fun _ _ _ h => h) (Or.inr ⟨by rfl, rfl⟩) ?_ ?_
         rotate_left
         ·exact Zput
         refine pureZ HT_ 16 (some 31) (bT 18 17) ?_
         refine pureZ HT_ 17 (some 32) (bT 18 18) ?_
         refine done_ (done_of HT_.out Zj) ?_
         try go_wp2
         go_roundg k1
         case measure => have := HK1.out; omega
         case rel => exact ⟨(wrap64 (x10_1 + 1)), Za, H', ⟨Zt⟩, ⟨(have z0_ := GE301; Zf)⟩⟩
       ·replace c7 := Bool.eq_false_iff.mpr c7
        subst c7
        have H1 : (some false) = some r := by rw [if_neg (show ¬ (false = true) by decide)] at H; exact H
        clear H
        have H := H1
        clear H1
        obtain rfl := Option.some.inj H
        have p300 : 0 ≤ (x10_1 : Int) := of_decide_eq_true Zp
        have q300 : x10_1 < (l0.length : Int) := of_decide_eq_true Zp
        obtain ⟨ad300, e300, hx300_0, hx300_1, hx300_2, hx300_3, hx300_4, hx300_5, hx300_6, hx300_7, hx300_8⟩ := at_T92 HR0.out x10_1 p300 q300
        cases e300
        replace hx300_0 := cbH HB hx300_0
        replace hx300_1 := cbH HB hx300_1
        replace hx300_2 := cbH HB hx300_2
        replace hx300_3 := cbH HB hx300_3
        replace hx300_4 := cbH HB hx300_4
        replace hx300_5 := cbH HB hx300_5
        replace hx300_6 := cbH HB hx300_6
        replace hx300_7 := cbH HB hx300_7
        replace hx300_8 := cbH HB hx300_8
        replace p300 := eq_true p300
        replace q300 := eq_true q300
        try go_wp2_with (first | ((with_reducible refine gate_dst (N := 4) rfl ?_); refine box_event ?hg (N := 4) ?hd (cs := #[.string (⟨#[]⟩ : ByteArray), .int .i64 0, .int .i64 0, .int .i64 0, .int .i64 0, .int .i64 0, .int .i64 0, .int .i64 0, .int .i64 0]) (t := 92) ?hr ?_; (case hd => rfl); (case hg => rfl); (case hr => first | (go_simp; done) | (go_simp; rfl)); intro gb301 hg w28 hbox hb; have n0_ := Aside0.mk (below_step Zc hb); have n1_ := Aside0.mk (hbox); have n2_ := Aside0.mk ((Zd : w.heap.size ≤ gb301)); have n3_ := Aside0.mk ((Zd : w.heap.size ≤ gb301)); clear HB; have HB := n0_; have BK301 := n1_; have GW301 := n2_; have GE301 := n3_; clear n0_ n1_ n2_ n3_; clear hb hbox hg; obtain ⟨hcz29_0, hcz29_1, hcz29_2, hcz29_3, hcz29_4, hcz29_5, hcz29_6, hcz29_7, hcz29_8, hfz29_0, hfz29_1, hfz29_2, hfz29_3, hfz29_4, hfz29_5, hfz29_6, hfz29_7, hfz29_8⟩ := cz9 BK301))
        have n0_ : Aside0 ((((((((((w28.setCell ⟨gb301, 0, none⟩ (.string ((rd_T92 l0 x10_1).f0))).setCell ⟨gb301, 1, none⟩ (.int .i64 ((rd_T92 l0 x10_1).f1))).setCell ⟨gb301, 2, none⟩ (.int .i64 ((rd_T92 l0 x10_1).f2))).setCell ⟨gb301, 3, none⟩ (.int .i64 ((rd_T92 l0 x10_1).f3))).setCell ⟨gb301, 4, none⟩ (.int .i64 ((rd_T92 l0 x10_1).f4))).setCell ⟨gb301, 5, none⟩ (.int .i64 ((rd_T92 l0 x10_1).f5))).setCell ⟨gb301, 6, none⟩ (.int .i64 ((rd_T92 l0 x10_1).f6))).setCell ⟨gb301, 7, none⟩ (.int .i64 ((rd_T92 l0 x10_1).f7))).setCell ⟨gb301, 8, none⟩ (.int .i64 ((rd_T92 l0 x10_1).f8))).heap[gb301]? = some (.cells #[.string ((rd_T92 l0 x10_1).f0), .int .i64 ((rd_T92 l0 x10_1).f1), .int .i64 ((rd_T92 l0 x10_1).f2), .int .i64 ((rd_T92 l0 x10_1).f3), .int .i64 ((rd_T92 l0 x10_1).f4), .int .i64 ((rd_T92 l0 x10_1).f5), .int .i64 ((rd_T92 l0 x10_1).f6), .int .i64 ((rd_T92 l0 x10_1).f7), .int .i64 ((rd_T92 l0 x10_1).f8)] 92 (0, 0))) := ⟨(have z0_ := BK301; Zat)⟩
        have n1_ : Aside0 (Below w.heap.size w (((((((((w28.setCell ⟨gb301, 0, none⟩ (.string ((rd_T92 l0 x10_1).f0))).setCell ⟨gb301, 1, none⟩ (.int .i64 ((rd_T92 l0 x10_1).f1))).setCell ⟨gb301, 2, none⟩ (.int .i64 ((rd_T92 l0 x10_1).f2))).setCell ⟨gb301, 3, none⟩ (.int .i64 ((rd_T92 l0 x10_1).f3))).setCell ⟨gb301, 4, none⟩ (.int .i64 ((rd_T92 l0 x10_1).f4))).setCell ⟨gb301, 5, none⟩ (.int .i64 ((rd_T92 l0 x10_1).f5))).setCell ⟨gb301, 6, none⟩ (.int .i64 ((rd_T92 l0 x10_1).f6))).setCell ⟨gb301, 7, none⟩ (.int .i64 ((rd_T92 l0 x10_1).f7))).setCell ⟨gb301, 8, none⟩ (.int .i64 ((rd_T92 l0 x10_1).f8)))) := ⟨(have z0_ := GE301; Zf)⟩
        (try clear BK301)
        (try clear HB)
        generalize (((((((((w28.setCell ⟨gb301, 0, none⟩ (.string ((rd_T92 l0 x10_1).f0))).setCell ⟨gb301, 1, none⟩ (.int .i64 ((rd_T92 l0 x10_1).f1))).setCell ⟨gb301, 2, none⟩ (.int .i64 ((rd_T92 l0 x10_1).f2))).setCell ⟨gb301, 3, none⟩ (.int .i64 ((rd_T92 l0 x10_1).f3))).setCell ⟨gb301, 4, none⟩ (.int .i64 ((rd_T92 l0 x10_1).f4))).setCell ⟨gb301, 5, none⟩ (.int .i64 ((rd_T92 l0 x10_1).f5))).setCell ⟨gb301, 6, none⟩ (.int .i64 ((rd_T92 l0 x10_1).f6))).setCell ⟨gb301, 7, none⟩ (.int .i64 ((rd_T92 l0 x10_1).f7))).setCell ⟨gb301, 8, none⟩ (.int .i64 ((rd_T92 l0 x10_1).f8))) = w30 at n0_ n1_ ⊢
        have BK301 := n0_
        have HB := n1_
        clear n0_ n1_
        have n0_ := Aside0.mk (blk_drew BK301.out)
        have n1_ := Aside0.mk (below_drew1 HB.out)
        clear BK301
        clear HB
        have BK301 := n0_
        have HB := n1_
        clear n0_ n1_
        refine start_ (n := 18) (S := fun w' => w'.cell? ⟨gb301, 0, none⟩ = some (.string ((rd_T92 l0 x10_1).f0)) ∧ w'.cell? ⟨gb301, 1, none⟩ = some (.int .i64 ((rd_T92 l0 x10_1).f1)) ∧ w'.cell? ⟨gb301, 2, none⟩ = some (.int .i64 ((rd_T92 l0 x10_1).f2)) ∧ w'.cell? ⟨gb301, 3, none⟩ = some (.int .i64 ((rd_T92 l0 x10_1).f3)) ∧ w'.cell? ⟨gb301, 4, none⟩ = some (.int .i64 ((rd_T92 l0 x10_1).f4)) ∧ w'.cell? ⟨gb301, 5, none⟩ = some (.int .i64 ((rd_T92 l0 x10_1).f5)) ∧ w'.cell? ⟨gb301, 6, none⟩ = some (.int .i64 ((rd_T92 l0 x10_1).f6)) ∧ w'.cell? ⟨gb301, 7, none⟩ = some (.int .i64 ((rd_T92 l0 x10_1).f7)) ∧ w'.cell? ⟨gb301, 8, none⟩ = some (.int .i64 ((rd_T92 l0 x10_1).f8))) (ds := []) (bT 18 0) Zj rfl rfl ⟨(blk_cell BK301.out 0).trans rfl, (blk_cell BK301.out 1).trans rfl, (blk_cell BK301.out 2).trans rfl, (blk_cell BK301.out 3).trans rfl, (blk_cell BK301.out 4).trans rfl, (blk_cell BK301.out 5).trans rfl, (blk_cell BK301.out 6).trans rfl, (blk_cell BK301.out 7).trans rfl, (blk_cell BK301.out 8).trans rfl⟩ (fun hHeld => ?_); refine with_tabW impl_AreArticles.tab6 impl_AreArticles.bits6 (fun HT_ HW_ => ?_)
        generalize w30.drew = w31 at BK301 HB hHeld ⊢
        refine take_ (i := 0) (N := some 15) (v := ?_) (a' := ?_) (bT 18 1) rfl rfl (take_ofW HT_.out HW_.out Zj) (fun _ _ _ h => h) (Or.inl ⟨by rfl, ?_⟩) hHeld ?_ ?_
        rotate_left
        ·rintro w' ⟨s0, s1, s2, s3, s4, s5, s6, s7, s8⟩
         go_simp
         with_reducible rfl
        rotate_left
        ·exact Zput
        refine one_ (i := 1) (N := some 16) (bT 18 2) rfl rfl (one_of HT_.out Zj) (by decide) (fun K hK => ?_)
        refine goes_ Try.func129 Zj rfl #[.agg #[.string ((rd_T92 l0 x10_1).f0), .int .i64 ((rd_T92 l0 x10_1).f1), .int .i64 ((rd_T92 l0 x10_1).f2), .int .i64 ((rd_T92 l0 x10_1).f3), .int .i64 ((rd_T92 l0 x10_1).f4), .int .i64 ((rd_T92 l0 x10_1).f5), .int .i64 ((rd_T92 l0 x10_1).f6), .int .i64 ((rd_T92 l0 x10_1).f7), .int .i64 ((rd_T92 l0 x10_1).f8)]] (by rfl) rfl rfl Zo ?_
        with_reducible refine (impl_IsArticle.calls k1 ((rd_T92 l0 x10_1).f0) ((rd_T92 l0 x10_1).f1) ((rd_T92 l0 x10_1).f2) ((rd_T92 l0 x10_1).f3) ((rd_T92 l0 x10_1).f4) ((rd_T92 l0 x10_1).f5) ((rd_T92 l0 x10_1).f6) ((rd_T92 l0 x10_1).f7) ((rd_T92 l0 x10_1).f8) false _ A6.out).mono ?_
        rintro e w32 ⟨rfl, hb⟩
        refine ⟨_, rfl, ?_⟩
        have n0_ := Aside0.mk (blk_below (g := gb301) (o := .cells #[.string ((rd_T92 l0 x10_1).f0), .int .i64 ((rd_T92 l0 x10_1).f1), .int .i64 ((rd_T92 l0 x10_1).f2), .int .i64 ((rd_T92 l0 x10_1).f3), .int .i64 ((rd_T92 l0 x10_1).f4), .int .i64 ((rd_T92 l0 x10_1).f5), .int .i64 ((rd_T92 l0 x10_1).f6), .int .i64 ((rd_T92 l0 x10_1).f7), .int .i64 ((rd_T92 l0 x10_1).f8)] 92 (0, 0)) (have z0_ := BK301; Ze) hb)
        have n1_ := Aside0.mk (below_step (have z0_ := GE301; Zf) hb)
        clear BK301
        clear HB
        have BK301 := n0_
        have HB := n1_
        clear n0_ n1_
        (try clear hb)
        (try clear hb2)
        (try clear hk)
        (try clear hi)
        refine hK.out _ _ ⟨(blk_cell BK301.out 0).trans rfl, (blk_cell BK301.out 1).trans rfl, (blk_cell BK301.out 2).trans rfl, (blk_cell BK301.out 3).trans rfl, (blk_cell BK301.out 4).trans rfl, (blk_cell BK301.out 5).trans rfl, (blk_cell BK301.out 6).trans rfl, (blk_cell BK301.out 7).trans rfl, (blk_cell BK301.out 8).trans rfl⟩ (fun hHeld => ?_)
        clear hK K
        refine norm_ (a' := ?_) ?_ ?_
        rotate_left
        ·show Act.put _ (some 16) _ = _
         simp only [Act.put, List.setIfInBounds_toArray, List.set_cons_zero, List.set_cons_succ, i64_w, i32_w]
         rfl
        refine pureZ HT_ 2 (some 17) (bT 18 3) ?_
        refine pureZ HT_ 3 (some 18) (bT 18 4) ?_
        refine pure_ (i := 4) (N := some 19) (v := undef) (a' := ?_) (bT 18 5) rfl rfl (any_of HT_.out Zj) (fun _ _ _ h => h) (Or.inr ⟨by rfl, rfl⟩) ?_ ?_
        rotate_left
        ·exact Zput
        refine pure_ (i := 5) (N := some 20) (v := undef) (a' := ?_) (bT 18 6) rfl rfl (any_of HT_.out Zj) (fun _ _ _ h => h) (Or.inr ⟨by rfl, rfl⟩) ?_ ?_
        rotate_left
        ·exact Zput
        refine pure_ (i := 6) (N := some 21) (v := undef) (a' := ?_) (bT 18 7) rfl rfl (any_of HT_.out Zj) (fun _ _ _ h => h) (Or.inr ⟨by rfl, rfl⟩) ?_ ?_
        rotate_left
        ·exact Zput
        refine pure_ (i := 7) (N := some 22) (v := undef) (a' := ?_) (bT 18 8) rfl rfl (any_of HT_.out Zj) (fun _ _ _ h => h) (Or.inr ⟨by rfl, rfl⟩) ?_ ?_
        rotate_left
        ·exact Zput
        refine pure_ (i := 8) (N := some 23) (v := undef) (a' := ?_) (bT 18 9) rfl rfl (any_of HT_.out Zj) (fun _ _ _ h => h) (Or.inr ⟨by rfl, rfl⟩) ?_ ?_
        rotate_left
        ·exact Zput
        refine pure_ (i := 9) (N := some 24) (v := undef) (a' := ?_) (bT 18 10) rfl rfl (any_of HT_.out Zj) (fun _ _ _ h => h) (Or.inr ⟨by rfl, rfl⟩) ?_ ?_
        rotate_left
        ·exact Zput
        refine pure_ (i := 10) (N := some 25) (v := undef) (a' := ?_) (bT 18 11) rfl rfl (any_of HT_.out Zj) (fun _ _ _ h => h) (Or.inr ⟨by rfl, rfl⟩) ?_ ?_
        rotate_left
        ·exact Zput
        refine pure_ (i := 11) (N := some 26) (v := undef) (a' := ?_) (bT 18 12) rfl rfl (any_of HT_.out Zj) (fun _ _ _ h => h) (Or.inr ⟨by rfl, rfl⟩) ?_ ?_
        rotate_left
        ·exact Zput
        refine pure_ (i := 12) (N := some 27) (v := undef) (a' := ?_) (bT 18 13) rfl rfl (any_of HT_.out Zj) (fun _ _ _ h => h) (Or.inr ⟨by rfl, rfl⟩) ?_ ?_
        rotate_left
        ·exact Zput
        refine pure_ (i := 13) (N := some 28) (v := undef) (a' := ?_) (bT 18 14) rfl rfl (any_of HT_.out Zj) (fun _ _ _ h => h) (Or.inr ⟨by rfl, rfl⟩) ?_ ?_
        rotate_left
        ·exact Zput
        refine pure_ (i := 14) (N := some 29) (v := undef) (a' := ?_) (bT 18 15) rfl rfl (any_of HT_.out Zj) (fun _ _ _ h => h) (Or.inr ⟨by rfl, rfl⟩) ?_ ?_
        rotate_left
        ·exact Zput
        refine pure_ (i := 15) (N := some 30) (v := undef) (a' := ?_) (bT 18 16) rfl rfl (any_of HT_.out Zj) (fun _ _ _ h => h) (Or.inr ⟨by rfl, rfl⟩) ?_ ?_
        rotate_left
        ·exact Zput
        refine pure_ (i := 16) (N := some 31) (v := undef) (a' := ?_) (bT 18 17) rfl rfl (any_of HT_.out Zj) (fun _ _ _ h => h) (Or.inr ⟨by rfl, rfl⟩) ?_ ?_
        rotate_left
        ·exact Zput
        refine pureZ HT_ 17 (some 32) (bT 18 18) ?_
        refine done_ (done_of HT_.out Zj) ?_
        try go_wp2
        go_ret
        exact ⟨Zk, (have z0_ := GE301; Zf)⟩
      ·rw [if_neg c5] at H
       exact absurd H (by simp)
     ·rw [if_neg c4] at H
      exact absurd H (by simp)
    ·rw [if_neg c3] at H
     have c3b0 : decide (x10_1 < (l0.length : Int)) = false := decide_eq_false c3
     clear c3
     obtain rfl := Option.some.inj H
     go_wp2
     go_ret
     exact ⟨Zk, Zc⟩
end Go.Proofs.Ytnlbaflbhicooaa.F
