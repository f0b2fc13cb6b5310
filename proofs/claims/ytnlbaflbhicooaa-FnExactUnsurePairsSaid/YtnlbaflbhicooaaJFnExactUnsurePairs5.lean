import Derived.Test.YtnlbaflbhicooaaJFnExactUnsurePairs4
import Derived.Below
import Derived.Deep.Draws
import Derived.Deep.AppendLies
import Derived.Maps.AppendAt
import Derived.OwnWalk
import Derived.Laws.BytesArg
import Derived.Laws.MakeOwn
import Derived.Laws.OwnMore
import Derived.Tactics
import Derived.Lib.ConvBytes
import Derived.Laws.Slices
import Derived.WalkKit
import Derived.KernelRfl
import Derived.RowKit3
import Derived.Deep.LoopGhost
import Derived.Deep.QuietTactic
import Derived.BigQuiet
import Derived.WideLaws
import Derived.Deep.DeepCutAuto
import Derived.Deep.CutBlock
import Derived.Deep.RegionHeld3
import Derived.Lib.AppendStr
import Derived.ArgAppend
import Derived.Laws.IdiomCopy
import Derived.RowKit
import Derived.OrdersHeld
import Derived.Laws.BitsLemmas
import Derived.Laws.StructEq
import Derived.Test.YtnlbaflbhicooaaProg
import Derived.ChangeSlices
import Derived.OpenShut
import Derived.Laws.Cover1
namespace Go.Proofs.Ytnlbaflbhicooaa.F
open Go.RowKit Go.Proofs.YtnlbaflbhicooaaW.PrintWords Go.Proofs.YtnlbaflbhicooaaW.PrintLast Go.Proofs.YtnlbaflbhicooaaW.PrintMore
attribute [local go_sem] max2_int min2_int max_two min_two max_three min_three max_four min_four
set_option linter.unusedVariables false
set_option linter.unusedSimpArgs false
def spec_AreArticles.l0 : Nat → List (S92) → Int → Option (Bool)
 | 0, _, _ => none
 | k + 1, x0, x3 => if x3 < (x0.length : Int) then (if 0 ≤ x3 then ((spec_IsArticle.f k ((rd_T92 x0 x3).f0) ((rd_T92 x0 x3).f1) ((rd_T92 x0 x3).f2) ((rd_T92 x0 x3).f3) ((rd_T92 x0 x3).f4) ((rd_T92 x0 x3).f5) ((rd_T92 x0 x3).f6) ((rd_T92 x0 x3).f7) ((rd_T92 x0 x3).f8)).bind fun t128 => (if t128 = true then (if x3 > 0 then (if 0 ≤ (wrap64 (x3 - 1)) then (if (wrap64 (x3 - 1)) < (x0.length : Int) then (if ((Op.bytesLess (((rd_T92 x0 (wrap64 (x3 - 1))).f0).toList) (((rd_T92 x0 x3).f0).toList)) = true) then (spec_AreArticles.l0 k x0 (wrap64 (x3 + 1))) else (some false)) else (none)) else (none)) else (spec_AreArticles.l0 k x0 (wrap64 (x3 + 1)))) else (some false))) else (none)) else (some (decide ((x0.length : Int) ≤ 12)))
def spec_AreArticles.f (k : Nat) (l0 : List (S92)) : Option (Bool) := spec_AreArticles.l0 k l0 0
def spec_AreArticles.T4 : Bool × List (List Nat × List Nat) := (true, [([], []), ([], []), ([0, 1], [0, 1]), ([2], [2]), ([3], [3]), ([4], [4]), ([5, 4], [5]), ([6], [6]), ([7, 6], [6, 7]), ([8, 6, 6], [6, 8]), ([9], [9]), ([9], [9]), ([11, 9], [9, 11]), ([10, 12, 9], [9, 10, 12]), ([13, 9], [9, 13]), ([14, 9], [9, 14]), ([9], [9]), ([9], [9]), ([16, 17, 9], [9, 16, 17]), ([18, 9], [9, 18]), ([19, 9], [9, 19]), ([15, 20, 9], [9, 15, 20]), ([9, 21, 6], [6, 9, 21]), ([6, 22], [6, 22])])
def spec_AreArticles.B4 : List Nat := [0, 0, 3, 7, 15, 31, 63, 127, 255, 511, 1023, 1023, 3071, 8191, 16383, 32767, 1023, 1023, 197631, 459775, 984063, 2097151, 4194303, 8388607]
theorem spec_AreArticles.tab4 : rtab .any (opsOf Try.f92 4) = spec_AreArticles.T4 := by kernel_rfl
theorem spec_AreArticles.bits4 : waitsOk spec_AreArticles.T4.2 spec_AreArticles.B4 = true := by kernel_rfl
set_option maxHeartbeats 8000000 in
set_option maxRecDepth 100000 in
theorem spec_AreArticles.calls (k : Nat) (A0 : Option Addr) (c0 : Nat) (l0 : List (S92)) (r : Bool) (w : World) (hr0 : Kd.C k92 w A0 l0.length l0) (hc0 : l0.length ≤ c0) (h : spec_AreArticles.f k l0 = some r) :
  Calls Try.prog 92 #[.slice A0 l0.length c0] w fun e w' => e = .returned (.bool r) ∧ Below w.heap.size w w' := by
 have hu92 := Try.underlying92
 have HR0 := Aside0.mk hr0
 have HC0 := Aside0.mk hc0
 clear hr0 hc0
 have HB := Aside0.mk (Below.refl w.heap.size w)
 have H : (spec_AreArticles.l0 k l0 0) = some r := h
 clear h
 have H' := Aside0.mk H
 clear H
 go_enter Try.func92, Try.ntmps92
 go_wp2
 go_loopg [3] k (fun kq v3 w' => ∃ (x3_1 : Int), v3 = .int .i64 x3_1 ∧ Aside0 (spec_AreArticles.l0 kq l0 x3_1 = some r) ∧ Aside0 (kq ≤ k) ∧ Aside0 (Below w.heap.size w w'))
 case atStart => exact ⟨(0), Za, H', ⟨Nat.le_refl _⟩, ⟨Zc⟩⟩
 case round =>
  clear H'
  obtain ⟨x3_1, rfl, HA, HK1, HB⟩ := hrel
  cases gk with
  | zero => exact absurd HA.out (by simp [spec_AreArticles.l0])
  | succ k1 =>
   have H := HA.out
   clear HA
   simp only [spec_AreArticles.l0] at H
   by_cases c2 : x3_1 < (l0.length : Int)
   ·rw [if_pos c2] at H
    have c2b0 := decide_eq_true c2
    clear c2
    by_cases c3 : 0 ≤ x3_1
    ·rw [if_pos c3] at H
     have c3b0 := decide_eq_true c3
     clear c3
     replace H := Option.bind_eq_some_iff.mp H
     obtain ⟨t128, A40, H⟩ := H
     have A4 := Aside0.mk A40
     clear A40
     by_cases c5 : t128 = true
     ·subst c5
      have H1 : (if x3_1 > 0 then (if 0 ≤ (wrap64 (x3_1 - 1)) then (if (wrap64 (x3_1 - 1)) < (l0.length : Int) then (if ((Op.bytesLess (((rd_T92 l0 (wrap64 (x3_1 - 1))).f0).toList) (((rd_T92 l0 x3_1).f0).toList)) = true) then (spec_AreArticles.l0 k1 l0 (wrap64 (x3_1 + 1))) else (some false)) else (none)) else (none)) else (spec_AreArticles.l0 k1 l0 (wrap64 (x3_1 + 1)))) = some r := by rw [if_pos rfl] at H; exact H
      clear H
      have H := H1
      clear H1
      by_cases c6 : x3_1 > 0
      ·rw [if_pos c6] at H
       have c6b0 : decide (0 < x3_1) = true := decide_eq_true c6
       clear c6
       obtain ⟨ji7, hji7⟩ : ∃ j_ : Int, (wrap64 (x3_1 - 1)) = j_ := ⟨_, rfl⟩
       replace H : (if 0 ≤ (ji7) then (if (ji7) < (l0.length : Int) then (if ((Op.bytesLess (((rd_T92 l0 (ji7)).f0).toList) (((rd_T92 l0 x3_1).f0).toList)) = true) then (spec_AreArticles.l0 k1 l0 (wrap64 (x3_1 + 1))) else (some false)) else (none)) else (none)) = some r := by first | (rw [hji7] at H; exact H) | (simp only [hji7] at H ⊢; exact H)
       (try rw [hji7] at A4)
       have hji7w : (IntKind.i64.wrap (x3_1 - 1)) = ji7 := (i64_w _).trans hji7
       by_cases c8 : 0 ≤ (ji7)
       ·rw [if_pos c8] at H
        have c8b0 := decide_eq_true c8
        clear c8
        by_cases c9 : (ji7) < (l0.length : Int)
        ·rw [if_pos c9] at H
         have c9b0 := decide_eq_true c9
         clear c9
         by_cases c10 : ((Op.bytesLess (((rd_T92 l0 (ji7)).f0).toList) (((rd_T92 l0 x3_1).f0).toList)) = true)
         ·rw [if_pos c10] at H
          have c10b0 : (Op.bytesLess (((rd_T92 l0 (ji7)).f0).toList) (((rd_T92 l0 x3_1).f0).toList)) = true := c10
          clear c10
          have H' := Aside0.mk H
          clear H
          try go_wp2
          have n0_ := Aside0.mk (below_drew1 HB.out)
          clear HB
          have HB := n0_
          clear n0_
          have p127 : 0 ≤ (x3_1 : Int) := of_decide_eq_true Zp
          have q127 : x3_1 < (l0.length : Int) := of_decide_eq_true Zp
          obtain ⟨ad127, e127, hx127_0, hx127_1, hx127_2, hx127_3, hx127_4, hx127_5, hx127_6, hx127_7, hx127_8⟩ := at_T92 HR0.out x3_1 p127 q127
          have hw127_8 := hx127_8
          have hw127_7 := hx127_7
          have hw127_6 := hx127_6
          have hw127_5 := hx127_5
          have hw127_4 := hx127_4
          have hw127_3 := hx127_3
          have hw127_2 := hx127_2
          have hw127_1 := hx127_1
          have hw127_0 := hx127_0
          cases e127
          replace hx127_0 := cbH HB hx127_0
          replace hx127_1 := cbH HB hx127_1
          replace hx127_2 := cbH HB hx127_2
          replace hx127_3 := cbH HB hx127_3
          replace hx127_4 := cbH HB hx127_4
          replace hx127_5 := cbH HB hx127_5
          replace hx127_6 := cbH HB hx127_6
          replace hx127_7 := cbH HB hx127_7
          replace hx127_8 := cbH HB hx127_8
          replace p127 := eq_true p127
          replace q127 := eq_true q127
          have p129 : 0 ≤ ((ji7) : Int) := of_decide_eq_true Zp
          have q129 : (ji7) < (l0.length : Int) := of_decide_eq_true Zp
          obtain ⟨ad129, e129, hx129_0, hx129_1, hx129_2, hx129_3, hx129_4, hx129_5, hx129_6, hx129_7, hx129_8⟩ := at_T92 HR0.out (ji7) p129 q129
          have hw129_8 := hx129_8
          have hw129_7 := hx129_7
          have hw129_6 := hx129_6
          have hw129_5 := hx129_5
          have hw129_4 := hx129_4
          have hw129_3 := hx129_3
          have hw129_2 := hx129_2
          have hw129_1 := hx129_1
          have hw129_0 := hx129_0
          obtain rfl : ad127 = ad129 := (by injection e129)
          replace hx129_0 := cbH HB hx129_0
          replace hx129_1 := cbH HB hx129_1
          replace hx129_2 := cbH HB hx129_2
          replace hx129_3 := cbH HB hx129_3
          replace hx129_4 := cbH HB hx129_4
          replace hx129_5 := cbH HB hx129_5
          replace hx129_6 := cbH HB hx129_6
          replace hx129_7 := cbH HB hx129_7
          replace hx129_8 := cbH HB hx129_8
          replace p129 := eq_true p129
          replace q129 := eq_true q129
          have p130 : 0 ≤ (x3_1 : Int) := of_decide_eq_true Zp
          have q130 : x3_1 < (l0.length : Int) := of_decide_eq_true Zp
          obtain ⟨ad130, e130, hx130_0, hx130_1, hx130_2, hx130_3, hx130_4, hx130_5, hx130_6, hx130_7, hx130_8⟩ := at_T92 HR0.out x3_1 p130 q130
          have hw130_8 := hx130_8
          have hw130_7 := hx130_7
          have hw130_6 := hx130_6
          have hw130_5 := hx130_5
          have hw130_4 := hx130_4
          have hw130_3 := hx130_3
          have hw130_2 := hx130_2
          have hw130_1 := hx130_1
          have hw130_0 := hx130_0
          obtain rfl : ad127 = ad130 := (by injection e130)
          replace hx130_0 := cbH HB hx130_0
          replace hx130_1 := cbH HB hx130_1
          replace hx130_2 := cbH HB hx130_2
          replace hx130_3 := cbH HB hx130_3
          replace hx130_4 := cbH HB hx130_4
          replace hx130_5 := cbH HB hx130_5
          replace hx130_6 := cbH HB hx130_6
          replace hx130_7 := cbH HB hx130_7
          replace hx130_8 := cbH HB hx130_8
          replace p130 := eq_true p130
          replace q130 := eq_true q130
          refine start_ (n := 24) (S := fun w' => w'.cell? (ad127.add ((x3_1).toNat * 9)) = some (.string ((rd_T92 l0 x3_1).f0)) ∧ w'.cell? ⟨(ad127.add ((x3_1).toNat * 9)).block, (ad127.add ((x3_1).toNat * 9)).off + 1, none⟩ = some (.int .i64 ((rd_T92 l0 x3_1).f1)) ∧ w'.cell? ⟨(ad127.add ((x3_1).toNat * 9)).block, (ad127.add ((x3_1).toNat * 9)).off + 2, none⟩ = some (.int .i64 ((rd_T92 l0 x3_1).f2)) ∧ w'.cell? ⟨(ad127.add ((x3_1).toNat * 9)).block, (ad127.add ((x3_1).toNat * 9)).off + 3, none⟩ = some (.int .i64 ((rd_T92 l0 x3_1).f3)) ∧ w'.cell? ⟨(ad127.add ((x3_1).toNat * 9)).block, (ad127.add ((x3_1).toNat * 9)).off + 4, none⟩ = some (.int .i64 ((rd_T92 l0 x3_1).f4)) ∧ w'.cell? ⟨(ad127.add ((x3_1).toNat * 9)).block, (ad127.add ((x3_1).toNat * 9)).off + 5, none⟩ = some (.int .i64 ((rd_T92 l0 x3_1).f5)) ∧ w'.cell? ⟨(ad127.add ((x3_1).toNat * 9)).block, (ad127.add ((x3_1).toNat * 9)).off + 6, none⟩ = some (.int .i64 ((rd_T92 l0 x3_1).f6)) ∧ w'.cell? ⟨(ad127.add ((x3_1).toNat * 9)).block, (ad127.add ((x3_1).toNat * 9)).off + 7, none⟩ = some (.int .i64 ((rd_T92 l0 x3_1).f7)) ∧ w'.cell? ⟨(ad127.add ((x3_1).toNat * 9)).block, (ad127.add ((x3_1).toNat * 9)).off + 8, none⟩ = some (.int .i64 ((rd_T92 l0 x3_1).f8)) ∧ w'.cell? (ad127.add (((ji7)).toNat * 9)) = some (.string ((rd_T92 l0 (ji7)).f0)) ∧ w'.cell? ⟨(ad127.add (((ji7)).toNat * 9)).block, (ad127.add (((ji7)).toNat * 9)).off + 1, none⟩ = some (.int .i64 ((rd_T92 l0 (ji7)).f1)) ∧ w'.cell? ⟨(ad127.add (((ji7)).toNat * 9)).block, (ad127.add (((ji7)).toNat * 9)).off + 2, none⟩ = some (.int .i64 ((rd_T92 l0 (ji7)).f2)) ∧ w'.cell? ⟨(ad127.add (((ji7)).toNat * 9)).block, (ad127.add (((ji7)).toNat * 9)).off + 3, none⟩ = some (.int .i64 ((rd_T92 l0 (ji7)).f3)) ∧ w'.cell? ⟨(ad127.add (((ji7)).toNat * 9)).block, (ad127.add (((ji7)).toNat * 9)).off + 4, none⟩ = some (.int .i64 ((rd_T92 l0 (ji7)).f4)) ∧ w'.cell? ⟨(ad127.add (((ji7)).toNat * 9)).block, (ad127.add (((ji7)).toNat * 9)).off + 5, none⟩ = some (.int .i64 ((rd_T92 l0 (ji7)).f5)) ∧ w'.cell? ⟨(ad127.add (((ji7)).toNat * 9)).block, (ad127.add (((ji7)).toNat * 9)).off + 6, none⟩ = some (.int .i64 ((rd_T92 l0 (ji7)).f6)) ∧ w'.cell? ⟨(ad127.add (((ji7)).toNat * 9)).block, (ad127.add (((ji7)).toNat * 9)).off + 7, none⟩ = some (.int .i64 ((rd_T92 l0 (ji7)).f7)) ∧ w'.cell? ⟨(ad127.add (((ji7)).toNat * 9)).block, (ad127.add (((ji7)).toNat * 9)).off + 8, none⟩ = some (.int .i64 ((rd_T92 l0 (ji7)).f8)) ∧ w'.cell? (ad127.add ((x3_1).toNat * 9)) = some (.string ((rd_T92 l0 x3_1).f0)) ∧ w'.cell? ⟨(ad127.add ((x3_1).toNat * 9)).block, (ad127.add ((x3_1).toNat * 9)).off + 1, none⟩ = some (.int .i64 ((rd_T92 l0 x3_1).f1)) ∧ w'.cell? ⟨(ad127.add ((x3_1).toNat * 9)).block, (ad127.add ((x3_1).toNat * 9)).off + 2, none⟩ = some (.int .i64 ((rd_T92 l0 x3_1).f2)) ∧ w'.cell? ⟨(ad127.add ((x3_1).toNat * 9)).block, (ad127.add ((x3_1).toNat * 9)).off + 3, none⟩ = some (.int .i64 ((rd_T92 l0 x3_1).f3)) ∧ w'.cell? ⟨(ad127.add ((x3_1).toNat * 9)).block, (ad127.add ((x3_1).toNat * 9)).off + 4, none⟩ = some (.int .i64 ((rd_T92 l0 x3_1).f4)) ∧ w'.cell? ⟨(ad127.add ((x3_1).toNat * 9)).block, (ad127.add ((x3_1).toNat * 9)).off + 5, none⟩ = some (.int .i64 ((rd_T92 l0 x3_1).f5)) ∧ w'.cell? ⟨(ad127.add ((x3_1).toNat * 9)).block, (ad127.add ((x3_1).toNat * 9)).off + 6, none⟩ = some (.int .i64 ((rd_T92 l0 x3_1).f6)) ∧ w'.cell? ⟨(ad127.add ((x3_1).toNat * 9)).block, (ad127.add ((x3_1).toNat * 9)).off + 7, none⟩ = some (.int .i64 ((rd_T92 l0 x3_1).f7)) ∧ w'.cell? ⟨(ad127.add ((x3_1).toNat * 9)).block, (ad127.add ((x3_1).toNat * 9)).off + 8, none⟩ = some (.int .i64 ((rd_T92 l0 x3_1).f8))) (ds := []) (bT 24 0) Zj rfl rfl ⟨(cbH HB hw127_0 :), (cbH HB hw127_1 :), (cbH HB hw127_2 :), (cbH HB hw127_3 :), (cbH HB hw127_4 :), (cbH HB hw127_5 :), (cbH HB hw127_6 :), (cbH HB hw127_7 :), (cbH HB hw127_8 :), (cbH HB hw129_0 :), (cbH HB hw129_1 :), (cbH HB hw129_2 :), (cbH HB hw129_3 :), (cbH HB hw129_4 :), (cbH HB hw129_5 :), (cbH HB hw129_6 :), (cbH HB hw129_7 :), (cbH HB hw129_8 :), (cbH HB hw130_0 :), (cbH HB hw130_1 :), (cbH HB hw130_2 :), (cbH HB hw130_3 :), (cbH HB hw130_4 :), (cbH HB hw130_5 :), (cbH HB hw130_6 :), (cbH HB hw130_7 :), (cbH HB hw130_8 :)⟩ (fun hHeld => ?_); refine with_tabW spec_AreArticles.tab4 spec_AreArticles.bits4 (fun HT_ HW_ => ?_)
          generalize wr.drew = w11 at HB hx127_0 hx127_1 hx127_2 hx127_3 hx127_4 hx127_5 hx127_6 hx127_7 hx127_8 hx129_0 hx129_1 hx129_2 hx129_3 hx129_4 hx129_5 hx129_6 hx129_7 hx129_8 hx130_0 hx130_1 hx130_2 hx130_3 hx130_4 hx130_5 hx130_6 hx130_7 hx130_8 hHeld ⊢
          refine pureZ HT_ 0 (some 10) (bT 24 1) ?_
          refine pureZ HT_ 1 (some 11) (bT 24 2) ?_
          refine pureZ HT_ 2 (some 12) (bT 24 3) ?_
          refine take_ (i := 3) (N := some 13) (v := ?_) (a' := ?_) (bT 24 4) rfl rfl (take_ofW HT_.out HW_.out Zj) (fun _ _ _ h => h) (Or.inl ⟨by rfl, ?_⟩) hHeld ?_ ?_
          rotate_left
          ·rintro w' ⟨s0, s1, s2, s3, s4, s5, s6, s7, s8, s9, s10, s11, s12, s13, s14, s15, s16, s17, s18, s19, s20, s21, s22, s23, s24, s25, s26⟩
           go_simp
           with_reducible rfl
          rotate_left
          ·exact Zput
          refine one_ (i := 4) (N := some 14) (bT 24 5) rfl rfl (one_of HT_.out Zj) (by decide) (fun K hK => ?_)
          refine goes_ Try.func127 Zj rfl #[.agg #[.string ((rd_T92 l0 x3_1).f0), .int .i64 ((rd_T92 l0 x3_1).f1), .int .i64 ((rd_T92 l0 x3_1).f2), .int .i64 ((rd_T92 l0 x3_1).f3), .int .i64 ((rd_T92 l0 x3_1).f4), .int .i64 ((rd_T92 l0 x3_1).f5), .int .i64 ((rd_T92 l0 x3_1).f6), .int .i64 ((rd_T92 l0 x3_1).f7), .int .i64 ((rd_T92 l0 x3_1).f8)]] (by rfl) rfl rfl Zo ?_
          with_reducible refine (spec_IsArticle.calls k1 ((rd_T92 l0 x3_1).f0) ((rd_T92 l0 x3_1).f1) ((rd_T92 l0 x3_1).f2) ((rd_T92 l0 x3_1).f3) ((rd_T92 l0 x3_1).f4) ((rd_T92 l0 x3_1).f5) ((rd_T92 l0 x3_1).f6) ((rd_T92 l0 x3_1).f7) ((rd_T92 l0 x3_1).f8) true _ A4.out).mono ?_
          rintro e w12 ⟨rfl, hb⟩
          refine ⟨_, rfl, ?_⟩
          have n0_ := Aside0.mk (below_step Zc hb)
          clear HB
          have HB := n0_
          clear n0_
          (try clear hb)
          (try clear hb2)
          (try clear hk)
          (try clear hi)
          refine hK.out _ _ ⟨(cbH HB hw127_0 :), (cbH HB hw127_1 :), (cbH HB hw127_2 :), (cbH HB hw127_3 :), (cbH HB hw127_4 :), (cbH HB hw127_5 :), (cbH HB hw127_6 :), (cbH HB hw127_7 :), (cbH HB hw127_8 :), (cbH HB hw129_0 :), (cbH HB hw129_1 :), (cbH HB hw129_2 :), (cbH HB hw129_3 :), (cbH HB hw129_4 :), (cbH HB hw129_5 :), (cbH HB hw129_6 :), (cbH HB hw129_7 :), (cbH HB hw129_8 :), (cbH HB hw130_0 :), (cbH HB hw130_1 :), (cbH HB hw130_2 :), (cbH HB hw130_3 :), (cbH HB hw130_4 :), (cbH HB hw130_5 :), (cbH HB hw130_6 :), (cbH HB hw130_7 :), (cbH HB hw130_8 :)⟩ (fun hHeld => ?_)
          clear hK K
          refine norm_ (a' := ?_) ?_ ?_
          rotate_left
          ·show Act.put _ (some 14) _ = _
           simp only [Act.put, List.setIfInBounds_toArray, List.set_cons_zero, List.set_cons_succ, i64_w, i32_w]
           rfl
          refine pureZ HT_ 5 (some 15) (bT 24 6) ?_
          refine pureZ HT_ 6 (some 16) (bT 24 7) ?_
          refine pureZ HT_ 7 (some 17) (bT 24 8) ?_
          refine pureZ HT_ 8 (some 18) (bT 24 9) ?_
          refine pureZ HT_ 9 (some 19) (bT 24 10) ?_
          refine pureZ HT_ 10 (some 20) (bT 24 11) ?_
          refine pureZ HT_ 11 (some 21) (bT 24 12) ?_
          refine pureZ HT_ 12 (some 22) (bT 24 13) ?_
          refine pureZ HT_ 13 (some 23) (bT 24 14) ?_
          refine pureZ HT_ 14 (some 24) (bT 24 15) ?_
          refine pureZ HT_ 16 (some 26) #[true, true, true, true, true, true, true, true, true, true, true, true, true, true, true, false, true, false, false, false, false, false, false, false] ?_
          refine pureZ HT_ 17 (some 27) #[true, true, true, true, true, true, true, true, true, true, true, true, true, true, true, false, true, true, false, false, false, false, false, false] ?_
          refine pureZ HT_ 18 (some 28) #[true, true, true, true, true, true, true, true, true, true, true, true, true, true, true, false, true, true, true, false, false, false, false, false] ?_
          refine pureZ HT_ 19 (some 29) #[true, true, true, true, true, true, true, true, true, true, true, true, true, true, true, false, true, true, true, true, false, false, false, false] ?_
          refine take_ (i := 15) (N := some 25) (v := ?_) (a' := ?_) (bT 24 20) rfl rfl (take_ofW HT_.out HW_.out Zj) (fun _ _ _ h => h) (Or.inl ⟨by rfl, ?_⟩) hHeld ?_ ?_
          rotate_left
          ·rintro w' ⟨s0, s1, s2, s3, s4, s5, s6, s7, s8, s9, s10, s11, s12, s13, s14, s15, s16, s17, s18, s19, s20, s21, s22, s23, s24, s25, s26⟩
           go_simp
           with_reducible rfl
          rotate_left
          ·exact Zput
          refine take_ (i := 20) (N := some 30) (v := ?_) (a' := ?_) (bT 24 21) rfl rfl (take_ofW HT_.out HW_.out Zj) (fun _ _ _ h => h) (Or.inl ⟨by rfl, ?_⟩) hHeld ?_ ?_
          rotate_left
          ·rintro w' ⟨s0, s1, s2, s3, s4, s5, s6, s7, s8, s9, s10, s11, s12, s13, s14, s15, s16, s17, s18, s19, s20, s21, s22, s23, s24, s25, s26⟩
           go_simp
           with_reducible rfl
          rotate_left
          ·exact Zput
          refine pureZ HT_ 21 (some 31) (bT 24 22) ?_
          refine pureZ HT_ 22 (some 32) (bT 24 23) ?_
          refine pureZ HT_ 23 (some 33) (bT 24 24) ?_
          refine done_ (done_of HT_.out Zj) ?_
          try go_wp2
          go_roundg k1
          case measure => have := HK1.out; omega
          case rel => exact ⟨(wrap64 (x3_1 + 1)), Za, H', ⟨Zt⟩, ⟨Zc⟩⟩
         ·rw [if_neg c10] at H
          have c10b0 : (Op.bytesLess (((rd_T92 l0 (ji7)).f0).toList) (((rd_T92 l0 x3_1).f0).toList)) = false := by simpa using c10
          clear c10
          obtain rfl := Option.some.inj H
          try go_wp2
          have n0_ := Aside0.mk (below_drew1 HB.out)
          clear HB
          have HB := n0_
          clear n0_
          have p127 : 0 ≤ (x3_1 : Int) := of_decide_eq_true Zp
          have q127 : x3_1 < (l0.length : Int) := of_decide_eq_true Zp
          obtain ⟨ad127, e127, hx127_0, hx127_1, hx127_2, hx127_3, hx127_4, hx127_5, hx127_6, hx127_7, hx127_8⟩ := at_T92 HR0.out x3_1 p127 q127
          have hw127_8 := hx127_8
          have hw127_7 := hx127_7
          have hw127_6 := hx127_6
          have hw127_5 := hx127_5
          have hw127_4 := hx127_4
          have hw127_3 := hx127_3
          have hw127_2 := hx127_2
          have hw127_1 := hx127_1
          have hw127_0 := hx127_0
          cases e127
          replace hx127_0 := cbH HB hx127_0
          replace hx127_1 := cbH HB hx127_1
          replace hx127_2 := cbH HB hx127_2
          replace hx127_3 := cbH HB hx127_3
          replace hx127_4 := cbH HB hx127_4
          replace hx127_5 := cbH HB hx127_5
          replace hx127_6 := cbH HB hx127_6
          replace hx127_7 := cbH HB hx127_7
          replace hx127_8 := cbH HB hx127_8
          replace p127 := eq_true p127
          replace q127 := eq_true q127
          have p129 : 0 ≤ ((ji7) : Int) := of_decide_eq_true Zp
          have q129 : (ji7) < (l0.length : Int) := of_decide_eq_true Zp
          obtain ⟨ad129, e129, hx129_0, hx129_1, hx129_2, hx129_3, hx129_4, hx129_5, hx129_6, hx129_7, hx129_8⟩ := at_T92 HR0.out (ji7) p129 q129
          have hw129_8 := hx129_8
          have hw129_7 := hx129_7
          have hw129_6 := hx129_6
          have hw129_5 := hx129_5
          have hw129_4 := hx129_4
          have hw129_3 := hx129_3
          have hw129_2 := hx129_2
          have hw129_1 := hx129_1
          have hw129_0 := hx129_0
          obtain rfl : ad127 = ad129 := (by injection e129)
          replace hx129_0 := cbH HB hx129_0
          replace hx129_1 := cbH HB hx129_1
          replace hx129_2 := cbH HB hx129_2
          replace hx129_3 := cbH HB hx129_3
          replace hx129_4 := cbH HB hx129_4
          replace hx129_5 := cbH HB hx129_5
          replace hx129_6 := cbH HB hx129_6
          replace hx129_7 := cbH HB hx129_7
          replace hx129_8 := cbH HB hx129_8
          replace p129 := eq_true p129
          replace q129 := eq_true q129
          have p130 : 0 ≤ (x3_1 : Int) := of_decide_eq_true Zp
          have q130 : x3_1 < (l0.length : Int) := of_decide_eq_true Zp
          obtain ⟨ad130, e130, hx130_0, hx130_1, hx130_2, hx130_3, hx130_4, hx130_5, hx130_6, hx130_7, hx130_8⟩ := at_T92 HR0.out x3_1 p130 q130
          have hw130_8 := hx130_8
          have hw130_7 := hx130_7
          have hw130_6 := hx130_6
          have hw130_5 := hx130_5
          have hw130_4 := hx130_4
          have hw130_3 := hx130_3
          have hw130_2 := hx130_2
          have hw130_1 := hx130_1
          have hw130_0 := hx130_0
          obtain rfl : ad127 = ad130 := (by injection e130)
          replace hx130_0 := cbH HB hx130_0
          replace hx130_1 := cbH HB hx130_1
          replace hx130_2 := cbH HB hx130_2
          replace hx130_3 := cbH HB hx130_3
          replace hx130_4 := cbH HB hx130_4
          replace hx130_5 := cbH HB hx130_5
          replace hx130_6 := cbH HB hx130_6
          replace hx130_7 := cbH HB hx130_7
          replace hx130_8 := cbH HB hx130_8
          replace p130 := eq_true p130
          replace q130 := eq_true q130
          refine start_ (n := 24) (S := fun w' => w'.cell? (ad127.add ((x3_1).toNat * 9)) = some (.string ((rd_T92 l0 x3_1).f0)) ∧ w'.cell? ⟨(ad127.add ((x3_1).toNat * 9)).block, (ad127.add ((x3_1).toNat * 9)).off + 1, none⟩ = some (.int .i64 ((rd_T92 l0 x3_1).f1)) ∧ w'.cell? ⟨(ad127.add ((x3_1).toNat * 9)).block, (ad127.add ((x3_1).toNat * 9)).off + 2, none⟩ = some (.int .i64 ((rd_T92 l0 x3_1).f2)) ∧ w'.cell? ⟨(ad127.add ((x3_1).toNat * 9)).block, (ad127.add ((x3_1).toNat * 9)).off + 3, none⟩ = some (.int .i64 ((rd_T92 l0 x3_1).f3)) ∧ w'.cell? ⟨(ad127.add ((x3_1).toNat * 9)).block, (ad127.add ((x3_1).toNat * 9)).off + 4, none⟩ = some (.int .i64 ((rd_T92 l0 x3_1).f4)) ∧ w'.cell? ⟨(ad127.add ((x3_1).toNat * 9)).block, (ad127.add ((x3_1).toNat * 9)).off + 5, none⟩ = some (.int .i64 ((rd_T92 l0 x3_1).f5)) ∧ w'.cell? ⟨(ad127.add ((x3_1).toNat * 9)).block, (ad127.add ((x3_1).toNat * 9)).off + 6, none⟩ = some (.int .i64 ((rd_T92 l0 x3_1).f6)) ∧ w'.cell? ⟨(ad127.add ((x3_1).toNat * 9)).block, (ad127.add ((x3_1).toNat * 9)).off + 7, none⟩ = some (.int .i64 ((rd_T92 l0 x3_1).f7)) ∧ w'.cell? ⟨(ad127.add ((x3_1).toNat * 9)).block, (ad127.add ((x3_1).toNat * 9)).off + 8, none⟩ = some (.int .i64 ((rd_T92 l0 x3_1).f8)) ∧ w'.cell? (ad127.add (((ji7)).toNat * 9)) = some (.string ((rd_T92 l0 (ji7)).f0)) ∧ w'.cell? ⟨(ad127.add (((ji7)).toNat * 9)).block, (ad127.add (((ji7)).toNat * 9)).off + 1, none⟩ = some (.int .i64 ((rd_T92 l0 (ji7)).f1)) ∧ w'.cell? ⟨(ad127.add (((ji7)).toNat * 9)).block, (ad127.add (((ji7)).toNat * 9)).off + 2, none⟩ = some (.int .i64 ((rd_T92 l0 (ji7)).f2)) ∧ w'.cell? ⟨(ad127.add (((ji7)).toNat * 9)).block, (ad127.add (((ji7)).toNat * 9)).off + 3, none⟩ = some (.int .i64 ((rd_T92 l0 (ji7)).f3)) ∧ w'.cell? ⟨(ad127.add (((ji7)).toNat * 9)).block, (ad127.add (((ji7)).toNat * 9)).off + 4, none⟩ = some (.int .i64 ((rd_T92 l0 (ji7)).f4)) ∧ w'.cell? ⟨(ad127.add (((ji7)).toNat * 9)).block, (ad127.add (((ji7)).toNat * 9)).off + 5, none⟩ = some (.int .i64 ((rd_T92 l0 (ji7)).f5)) ∧ w'.cell? ⟨(ad127.add (((ji7)).toNat * 9)).block, (ad127.add (((ji7)).toNat * 9)).off + 6, none⟩ = some (.int .i64 ((rd_T92 l0 (ji7)).f6)) ∧ w'.cell? ⟨(ad127.add (((ji7)).toNat * 9)).block, (ad127.add (((ji7)).toNat * 9)).off + 7, none⟩ = some (.int .i64 ((rd_T92 l0 (ji7)).f7)) ∧ w'.cell? ⟨(ad127.add (((ji7)).toNat * 9)).block, (ad127.add (((ji7)).toNat * 9)).off + 8, none⟩ = some (.int .i64 ((rd_T92 l0 (ji7)).f8)) ∧ w'.cell? (ad127.add ((x3_1).toNat * 9)) = some (.string ((rd_T92 l0 x3_1).f0)) ∧ w'.cell? ⟨(ad127.add ((x3_1).toNat * 9)).block, (ad127.add ((x3_1).toNat * 9)).off + 1, none⟩ = some (.int .i64 ((rd_T92 l0 x3_1).f1)) ∧ w'.cell? ⟨(ad127.add ((x3_1).toNat * 9)).block, (ad127.add ((x3_1).toNat * 9)).off + 2, none⟩ = some (.int .i64 ((rd_T92 l0 x3_1).f2)) ∧ w'.cell? ⟨(ad127.add ((x3_1).toNat * 9)).block, (ad127.add ((x3_1).toNat * 9)).off + 3, none⟩ = some (.int .i64 ((rd_T92 l0 x3_1).f3)) ∧ w'.cell? ⟨(ad127.add ((x3_1).toNat * 9)).block, (ad127.add ((x3_1).toNat * 9)).off + 4, none⟩ = some (.int .i64 ((rd_T92 l0 x3_1).f4)) ∧ w'.cell? ⟨(ad127.add ((x3_1).toNat * 9)).block, (ad127.add ((x3_1).toNat * 9)).off + 5, none⟩ = some (.int .i64 ((rd_T92 l0 x3_1).f5)) ∧ w'.cell? ⟨(ad127.add ((x3_1).toNat * 9)).block, (ad127.add ((x3_1).toNat * 9)).off + 6, none⟩ = some (.int .i64 ((rd_T92 l0 x3_1).f6)) ∧ w'.cell? ⟨(ad127.add ((x3_1).toNat * 9)).block, (ad127.add ((x3_1).toNat * 9)).off + 7, none⟩ = some (.int .i64 ((rd_T92 l0 x3_1).f7)) ∧ w'.cell? ⟨(ad127.add ((x3_1).toNat * 9)).block, (ad127.add ((x3_1).toNat * 9)).off + 8, none⟩ = some (.int .i64 ((rd_T92 l0 x3_1).f8))) (ds := []) (bT 24 0) Zj rfl rfl ⟨(cbH HB hw127_0 :), (cbH HB hw127_1 :), (cbH HB hw127_2 :), (cbH HB hw127_3 :), (cbH HB hw127_4 :), (cbH HB hw127_5 :), (cbH HB hw127_6 :), (cbH HB hw127_7 :), (cbH HB hw127_8 :), (cbH HB hw129_0 :), (cbH HB hw129_1 :), (cbH HB hw129_2 :), (cbH HB hw129_3 :), (cbH HB hw129_4 :), (cbH HB hw129_5 :), (cbH HB hw129_6 :), (cbH HB hw129_7 :), (cbH HB hw129_8 :), (cbH HB hw130_0 :), (cbH HB hw130_1 :), (cbH HB hw130_2 :), (cbH HB hw130_3 :), (cbH HB hw130_4 :), (cbH HB hw130_5 :), (cbH HB hw130_6 :), (cbH HB hw130_7 :), (cbH HB hw130_8 :)⟩ (fun hHeld => ?_); refine with_tabW spec_AreArticles.tab4 spec_AreArticles.bits4 (fun HT_ HW_ => ?_)
          generalize wr.drew = w13 at HB hx127_0 hx127_1 hx127_2 hx127_3 hx127_4 hx127_5 hx127_6 hx127_7 hx127_8 hx129_0 hx129_1 hx129_2 hx129_3 hx129_4 hx129_5 hx129_6 hx129_7 hx129_8 hx130_0 hx130_1 hx130_2 hx130_3 hx130_4 hx130_5 hx130_6 hx130_7 hx130_8 hHeld ⊢
          refine pureZ HT_ 0 (some 10) (bT 24 1) ?_
          refine pureZ HT_ 1 (some 11) (bT 24 2) ?_
          refine pureZ HT_ 2 (some 12) (bT 24 3) ?_
          refine take_ (i := 3) (N := some 13) (v := ?_) (a' := ?_) (bT 24 4) rfl rfl (take_ofW HT_.out HW_.out Zj) (fun _ _ _ h => h) (Or.inl ⟨by rfl, ?_⟩) hHeld ?_ ?_
          rotate_left
          ·rintro w' ⟨s0, s1, s2, s3, s4, s5, s6, s7, s8, s9, s10, s11, s12, s13, s14, s15, s16, s17, s18, s19, s20, s21, s22, s23, s24, s25, s26⟩
           go_simp
           with_reducible rfl
          rotate_left
          ·exact Zput
          refine one_ (i := 4) (N := some 14) (bT 24 5) rfl rfl (one_of HT_.out Zj) (by decide) (fun K hK => ?_)
          refine goes_ Try.func127 Zj rfl #[.agg #[.string ((rd_T92 l0 x3_1).f0), .int .i64 ((rd_T92 l0 x3_1).f1), .int .i64 ((rd_T92 l0 x3_1).f2), .int .i64 ((rd_T92 l0 x3_1).f3), .int .i64 ((rd_T92 l0 x3_1).f4), .int .i64 ((rd_T92 l0 x3_1).f5), .int .i64 ((rd_T92 l0 x3_1).f6), .int .i64 ((rd_T92 l0 x3_1).f7), .int .i64 ((rd_T92 l0 x3_1).f8)]] (by rfl) rfl rfl Zo ?_
          with_reducible refine (spec_IsArticle.calls k1 ((rd_T92 l0 x3_1).f0) ((rd_T92 l0 x3_1).f1) ((rd_T92 l0 x3_1).f2) ((rd_T92 l0 x3_1).f3) ((rd_T92 l0 x3_1).f4) ((rd_T92 l0 x3_1).f5) ((rd_T92 l0 x3_1).f6) ((rd_T92 l0 x3_1).f7) ((rd_T92 l0 x3_1).f8) true _ A4.out).mono ?_
          rintro e w14 ⟨rfl, hb⟩
          refine ⟨_, rfl, ?_⟩
          have n0_ := Aside0.mk (below_step Zc hb)
          clear HB
          have HB := n0_
          clear n0_
          (try clear hb)
          (try clear hb2)
          (try clear hk)
          (try clear hi)
          refine hK.out _ _ ⟨(cbH HB hw127_0 :), (cbH HB hw127_1 :), (cbH HB hw127_2 :), (cbH HB hw127_3 :), (cbH HB hw127_4 :), (cbH HB hw127_5 :), (cbH HB hw127_6 :), (cbH HB hw127_7 :), (cbH HB hw127_8 :), (cbH HB hw129_0 :), (cbH HB hw129_1 :), (cbH HB hw129_2 :), (cbH HB hw129_3 :), (cbH HB hw129_4 :), (cbH HB hw129_5 :), (cbH HB hw129_6 :), (cbH HB hw129_7 :), (cbH HB hw129_8 :), (cbH HB hw130_0 :), (cbH HB hw130_1 :), (cbH HB hw130_2 :), (cbH HB hw130_3 :), (cbH HB hw130_4 :), (cbH HB hw130_5 :), (cbH HB hw130_6 :), (cbH HB hw130_7 :), (cbH HB hw130_8 :)⟩ (fun hHeld => ?_)
          clear hK K
          refine norm_ (a' := ?_) ?_ ?_
          rotate_left
          ·show Act.put _ (some 14) _ = _
           simp only [Act.put, List.setIfInBounds_toArray, List.set_cons_zero, List.set_cons_succ, i64_w, i32_w]
           rfl
          refine pureZ HT_ 5 (some 15) (bT 24 6) ?_
          refine pureZ HT_ 6 (some 16) (bT 24 7) ?_
          refine pureZ HT_ 7 (some 17) (bT 24 8) ?_
          refine pureZ HT_ 8 (some 18) (bT 24 9) ?_
          refine pureZ HT_ 9 (some 19) (bT 24 10) ?_
          refine pureZ HT_ 10 (some 20) (bT 24 11) ?_
          refine pureZ HT_ 11 (some 21) (bT 24 12) ?_
          refine pureZ HT_ 12 (some 22) (bT 24 13) ?_
          refine pureZ HT_ 13 (some 23) (bT 24 14) ?_
          refine pureZ HT_ 14 (some 24) (bT 24 15) ?_
          refine pureZ HT_ 16 (some 26) #[true, true, true, true, true, true, true, true, true, true, true, true, true, true, true, false, true, false, false, false, false, false, false, false] ?_
          refine pureZ HT_ 17 (some 27) #[true, true, true, true, true, true, true, true, true, true, true, true, true, true, true, false, true, true, false, false, false, false, false, false] ?_
          refine pureZ HT_ 18 (some 28) #[true, true, true, true, true, true, true, true, true, true, true, true, true, true, true, false, true, true, true, false, false, false, false, false] ?_
          refine pureZ HT_ 19 (some 29) #[true, true, true, true, true, true, true, true, true, true, true, true, true, true, true, false, true, true, true, true, false, false, false, false] ?_
          refine take_ (i := 15) (N := some 25) (v := ?_) (a' := ?_) (bT 24 20) rfl rfl (take_ofW HT_.out HW_.out Zj) (fun _ _ _ h => h) (Or.inl ⟨by rfl, ?_⟩) hHeld ?_ ?_
          rotate_left
          ·rintro w' ⟨s0, s1, s2, s3, s4, s5, s6, s7, s8, s9, s10, s11, s12, s13, s14, s15, s16, s17, s18, s19, s20, s21, s22, s23, s24, s25, s26⟩
           go_simp
           with_reducible rfl
          rotate_left
          ·exact Zput
          refine take_ (i := 20) (N := some 30) (v := ?_) (a' := ?_) (bT 24 21) rfl rfl (take_ofW HT_.out HW_.out Zj) (fun _ _ _ h => h) (Or.inl ⟨by rfl, ?_⟩) hHeld ?_ ?_
          rotate_left
          ·rintro w' ⟨s0, s1, s2, s3, s4, s5, s6, s7, s8, s9, s10, s11, s12, s13, s14, s15, s16, s17, s18, s19, s20, s21, s22, s23, s24, s25, s26⟩
           go_simp
           with_reducible rfl
          rotate_left
          ·exact Zput
          refine pureZ HT_ 21 (some 31) (bT 24 22) ?_
          refine pureZ HT_ 22 (some 32) (bT 24 23) ?_
          refine pureZ HT_ 23 (some 33) (bT 24 24) ?_
          refine done_ (done_of HT_.out Zj) ?_
          try go_wp2
          go_ret
          exact ⟨Zs, Zc⟩
        ·rw [if_neg c9] at H
         exact absurd H (by simp)
       ·rw [if_neg c8] at H
        exact absurd H (by simp)
      ·rw [if_neg c6] at H
       have c6b0 : decide (0 < x3_1) = false := decide_eq_false c6
       clear c6
       have H' := Aside0.mk H
       clear H
       try go_wp2
       have n0_ := Aside0.mk (below_drew1 HB.out)
       clear HB
       have HB := n0_
       clear n0_
       have p127 : 0 ≤ (x3_1 : Int) := of_decide_eq_true Zp
       have q127 : x3_1 < (l0.length : Int) := of_decide_eq_true Zp
       obtain ⟨ad127, e127, hx127_0, hx127_1, hx127_2, hx127_3, hx127_4, hx127_5, hx127_6, hx127_7, hx127_8⟩ := at_T92 HR0.out x3_1 p127 q127
       have hw127_8 := hx127_8
       have hw127_7 := hx127_7
       have hw127_6 := hx127_6
       have hw127_5 := hx127_5
       have hw127_4 := hx127_4
       have hw127_3 := hx127_3
       have hw127_2 := hx127_2
       have hw127_1 := hx127_1
       have hw127_0 := hx127_0
       cases e127
       replace hx127_0 := cbH HB hx127_0
       replace hx127_1 := cbH HB hx127_1
       replace hx127_2 := cbH HB hx127_2
       replace hx127_3 := cbH HB hx127_3
       replace hx127_4 := cbH HB hx127_4
       replace hx127_5 := cbH HB hx127_5
       replace hx127_6 := cbH HB hx127_6
       replace hx127_7 := cbH HB hx127_7
       replace hx127_8 := cbH HB hx127_8
       replace p127 := eq_true p127
       replace q127 := eq_true q127
       refine start_ (n := 24) (S := fun w' => w'.cell? (ad127.add ((x3_1).toNat * 9)) = some (.string ((rd_T92 l0 x3_1).f0)) ∧ w'.cell? ⟨(ad127.add ((x3_1).toNat * 9)).block, (ad127.add ((x3_1).toNat * 9)).off + 1, none⟩ = some (.int .i64 ((rd_T92 l0 x3_1).f1)) ∧ w'.cell? ⟨(ad127.add ((x3_1).toNat * 9)).block, (ad127.add ((x3_1).toNat * 9)).off + 2, none⟩ = some (.int .i64 ((rd_T92 l0 x3_1).f2)) ∧ w'.cell? ⟨(ad127.add ((x3_1).toNat * 9)).block, (ad127.add ((x3_1).toNat * 9)).off + 3, none⟩ = some (.int .i64 ((rd_T92 l0 x3_1).f3)) ∧ w'.cell? ⟨(ad127.add ((x3_1).toNat * 9)).block, (ad127.add ((x3_1).toNat * 9)).off + 4, none⟩ = some (.int .i64 ((rd_T92 l0 x3_1).f4)) ∧ w'.cell? ⟨(ad127.add ((x3_1).toNat * 9)).block, (ad127.add ((x3_1).toNat * 9)).off + 5, none⟩ = some (.int .i64 ((rd_T92 l0 x3_1).f5)) ∧ w'.cell? ⟨(ad127.add ((x3_1).toNat * 9)).block, (ad127.add ((x3_1).toNat * 9)).off + 6, none⟩ = some (.int .i64 ((rd_T92 l0 x3_1).f6)) ∧ w'.cell? ⟨(ad127.add ((x3_1).toNat * 9)).block, (ad127.add ((x3_1).toNat * 9)).off + 7, none⟩ = some (.int .i64 ((rd_T92 l0 x3_1).f7)) ∧ w'.cell? ⟨(ad127.add ((x3_1).toNat * 9)).block, (ad127.add ((x3_1).toNat * 9)).off + 8, none⟩ = some (.int .i64 ((rd_T92 l0 x3_1).f8))) (ds := []) (bT 24 0) Zj rfl rfl ⟨(cbH HB hw127_0 :), (cbH HB hw127_1 :), (cbH HB hw127_2 :), (cbH HB hw127_3 :), (cbH HB hw127_4 :), (cbH HB hw127_5 :), (cbH HB hw127_6 :), (cbH HB hw127_7 :), (cbH HB hw127_8 :)⟩ (fun hHeld => ?_); refine with_tabW spec_AreArticles.tab4 spec_AreArticles.bits4 (fun HT_ HW_ => ?_)
       generalize wr.drew = w15 at HB hx127_0 hx127_1 hx127_2 hx127_3 hx127_4 hx127_5 hx127_6 hx127_7 hx127_8 hHeld ⊢
       refine pureZ HT_ 0 (some 10) (bT 24 1) ?_
       refine pureZ HT_ 1 (some 11) (bT 24 2) ?_
       refine pureZ HT_ 2 (some 12) (bT 24 3) ?_
       refine take_ (i := 3) (N := some 13) (v := ?_) (a' := ?_) (bT 24 4) rfl rfl (take_ofW HT_.out HW_.out Zj) (fun _ _ _ h => h) (Or.inl ⟨by rfl, ?_⟩) hHeld ?_ ?_
       rotate_left
       ·rintro w' ⟨s0, s1, s2, s3, s4, s5, s6, s7, s8⟩
        go_simp
        with_reducible rfl
       rotate_left
       ·exact Zput
       refine one_ (i := 4) (N := some 14) (bT 24 5) rfl rfl (one_of HT_.out Zj) (by decide) (fun K hK => ?_)
       refine goes_ Try.func127 Zj rfl #[.agg #[.string ((rd_T92 l0 x3_1).f0), .int .i64 ((rd_T92 l0 x3_1).f1), .int .i64 ((rd_T92 l0 x3_1).f2), .int .i64 ((rd_T92 l0 x3_1).f3), .int .i64 ((rd_T92 l0 x3_1).f4), .int .i64 ((rd_T92 l0 x3_1).f5), .int .i64 ((rd_T92 l0 x3_1).f6), .int .i64 ((rd_T92 l0 x3_1).f7), .int .i64 ((rd_T92 l0 x3_1).f8)]] (by rfl) rfl rfl Zo ?_
       with_reducible refine (spec_IsArticle.calls k1 ((rd_T92 l0 x3_1).f0) ((rd_T92 l0 x3_1).f1) ((rd_T92 l0 x3_1).f2) ((rd_T92 l0 x3_1).f3) ((rd_T92 l0 x3_1).f4) ((rd_T92 l0 x3_1).f5) ((rd_T92 l0 x3_1).f6) ((rd_T92 l0 x3_1).f7) ((rd_T92 l0 x3_1).f8) true _ A4.out).mono ?_
       rintro e w16 ⟨rfl, hb⟩
       refine ⟨_, rfl, ?_⟩
       have n0_ := Aside0.mk (below_step Zc hb)
       clear HB
       have HB := n0_
       clear n0_
       (try clear hb)
       (try clear hb2)
       (try clear hk)
       (try clear hi)
       refine hK.out _ _ ⟨(cbH HB hw127_0 :), (cbH HB hw127_1 :), (cbH HB hw127_2 :), (cbH HB hw127_3 :), (cbH HB hw127_4 :), (cbH HB hw127_5 :), (cbH HB hw127_6 :), (cbH HB hw127_7 :), (cbH HB hw127_8 :)⟩ (fun hHeld => ?_)
       clear hK K
       refine norm_ (a' := ?_) ?_ ?_
       rotate_left
       ·show Act.put _ (some 14) _ = _
        simp only [Act.put, List.setIfInBounds_toArray, List.set_cons_zero, List.set_cons_succ, i64_w, i32_w]
        rfl
       refine pureZ HT_ 5 (some 15) (bT 24 6) ?_
       refine pureZ HT_ 6 (some 16) (bT 24 7) ?_
       refine pureZ HT_ 7 (some 17) (bT 24 8) ?_
       refine pureZ HT_ 8 (some 18) (bT 24 9) ?_
       refine pureZ HT_ 9 (some 19) (bT 24 10) ?_
       refine pure_ (i := 10) (N := some 20) (v := undef) (a' := ?_) (bT 24 11) rfl rfl (any_of HT_.out Zj) (fun _ _ _ h => h) (Or.inr ⟨by rfl, rfl⟩) ?_ ?_
       rotate_left
       ·exact Zput
       refine pure_ (i := 11) (N := some 21) (v := undef) (a' := ?_) (bT 24 12) rfl rfl (any_of HT_.out Zj) (fun _ _ _ h => h) (Or.inr ⟨by rfl, rfl⟩) ?_ ?_
       rotate_left
       ·exact Zput
       refine pure_ (i := 12) (N := some 22) (v := undef) (a' := ?_) (bT 24 13) rfl rfl (any_of HT_.out Zj) (fun _ _ _ h => h) (Or.inr ⟨by rfl, rfl⟩) ?_ ?_
       rotate_left
       ·exact Zput
       refine pure_ (i := 13) (N := some 23) (v := undef) (a' := ?_) (bT 24 14) rfl rfl (any_of HT_.out Zj) (fun _ _ _ h => h) (Or.inr ⟨by rfl, rfl⟩) ?_ ?_
       rotate_left
       ·exact Zput
       refine pure_ (i := 14) (N := some 24) (v := undef) (a' := ?_) (bT 24 15) rfl rfl (any_of HT_.out Zj) (fun _ _ _ h => h) (Or.inr ⟨by rfl, rfl⟩) ?_ ?_
       rotate_left
       ·exact Zput
       refine pure_ (i := 15) (N := some 25) (v := undef) (a' := ?_) (bT 24 16) rfl rfl (any_of HT_.out Zj) (fun _ _ _ h => h) (Or.inr ⟨by rfl, rfl⟩) ?_ ?_
       rotate_left
       ·exact Zput
       refine pure_ (i := 16) (N := some 26) (v := undef) (a' := ?_) (bT 24 17) rfl rfl (any_of HT_.out Zj) (fun _ _ _ h => h) (Or.inr ⟨by rfl, rfl⟩) ?_ ?_
       rotate_left
       ·exact Zput
       refine pure_ (i := 17) (N := some 27) (v := undef) (a' := ?_) (bT 24 18) rfl rfl (any_of HT_.out Zj) (fun _ _ _ h => h) (Or.inr ⟨by rfl, rfl⟩) ?_ ?_
       rotate_left
       ·exact Zput
       refine pure_ (i := 18) (N := some 28) (v := undef) (a' := ?_) (bT 24 19) rfl rfl (any_of HT_.out Zj) (fun _ _ _ h => h) (Or.inr ⟨by rfl, rfl⟩) ?_ ?_
       rotate_left
       ·exact Zput
       refine pure_ (i := 19) (N := some 29) (v := undef) (a' := ?_) (bT 24 20) rfl rfl (any_of HT_.out Zj) (fun _ _ _ h => h) (Or.inr ⟨by rfl, rfl⟩) ?_ ?_
       rotate_left
       ·exact Zput
       refine pure_ (i := 20) (N := some 30) (v := undef) (a' := ?_) (bT 24 21) rfl rfl (any_of HT_.out Zj) (fun _ _ _ h => h) (Or.inr ⟨by rfl, rfl⟩) ?_ ?_
       rotate_left
       ·exact Zput
       refine pure_ (i := 21) (N := some 31) (v := undef) (a' := ?_) (bT 24 22) rfl rfl (any_of HT_.out Zj) (fun _ _ _ h => h) (Or.inr ⟨by rfl, rfl⟩) ?_ ?_
       rotate_left
       ·exact Zput
       refine pureZ HT_ 22 (some 32) (bT 24 23) ?_
       refine pureZ HT_ 23 (some 33) (bT 24 24) ?_
       refine done_ (done_of HT_.out Zj) ?_
       try go_wp2
       go_roundg k1
       case measure => have := HK1.out; omega
       case rel => exact ⟨(wrap64 (x3_1 + 1)), Za, H', ⟨Zt⟩, ⟨Zc⟩⟩
     ·replace c5 := Bool.eq_false_iff.mpr c5
      subst c5
      have H1 : (some false) = some r := by rw [if_neg (show ¬ (false = true) by decide)] at H; exact H
      clear H
      have H := H1
      clear H1
      obtain rfl := Option.some.inj H
      try go_wp2
      have n0_ := Aside0.mk (below_drew1 HB.out)
      clear HB
      have HB := n0_
      clear n0_
      have p127 : 0 ≤ (x3_1 : Int) := of_decide_eq_true Zp
      have q127 : x3_1 < (l0.length : Int) := of_decide_eq_true Zp
      obtain ⟨ad127, e127, hx127_0, hx127_1, hx127_2, hx127_3, hx127_4, hx127_5, hx127_6, hx127_7, hx127_8⟩ := at_T92 HR0.out x3_1 p127 q127
      have hw127_8 := hx127_8
      have hw127_7 := hx127_7
      have hw127_6 := hx127_6
      have hw127_5 := hx127_5
      have hw127_4 := hx127_4
      have hw127_3 := hx127_3
      have hw127_2 := hx127_2
      have hw127_1 := hx127_1
      have hw127_0 := hx127_0
      cases e127
      replace hx127_0 := cbH HB hx127_0
      replace hx127_1 := cbH HB hx127_1
      replace hx127_2 := cbH HB hx127_2
      replace hx127_3 := cbH HB hx127_3
      replace hx127_4 := cbH HB hx127_4
      replace hx127_5 := cbH HB hx127_5
      replace hx127_6 := cbH HB hx127_6
      replace hx127_7 := cbH HB hx127_7
      replace hx127_8 := cbH HB hx127_8
      replace p127 := eq_true p127
      replace q127 := eq_true q127
      refine start_ (n := 24) (S := fun w' => w'.cell? (ad127.add ((x3_1).toNat * 9)) = some (.string ((rd_T92 l0 x3_1).f0)) ∧ w'.cell? ⟨(ad127.add ((x3_1).toNat * 9)).block, (ad127.add ((x3_1).toNat * 9)).off + 1, none⟩ = some (.int .i64 ((rd_T92 l0 x3_1).f1)) ∧ w'.cell? ⟨(ad127.add ((x3_1).toNat * 9)).block, (ad127.add ((x3_1).toNat * 9)).off + 2, none⟩ = some (.int .i64 ((rd_T92 l0 x3_1).f2)) ∧ w'.cell? ⟨(ad127.add ((x3_1).toNat * 9)).block, (ad127.add ((x3_1).toNat * 9)).off + 3, none⟩ = some (.int .i64 ((rd_T92 l0 x3_1).f3)) ∧ w'.cell? ⟨(ad127.add ((x3_1).toNat * 9)).block, (ad127.add ((x3_1).toNat * 9)).off + 4, none⟩ = some (.int .i64 ((rd_T92 l0 x3_1).f4)) ∧ w'.cell? ⟨(ad127.add ((x3_1).toNat * 9)).block, (ad127.add ((x3_1).toNat * 9)).off + 5, none⟩ = some (.int .i64 ((rd_T92 l0 x3_1).f5)) ∧ w'.cell? ⟨(ad127.add ((x3_1).toNat * 9)).block, (ad127.add ((x3_1).toNat * 9)).off + 6, none⟩ = some (.int .i64 ((rd_T92 l0 x3_1).f6)) ∧ w'.cell? ⟨(ad127.add ((x3_1).toNat * 9)).block, (ad127.add ((x3_1).toNat * 9)).off + 7, none⟩ = some (.int .i64 ((rd_T92 l0 x3_1).f7)) ∧ w'.cell? ⟨(ad127.add ((x3_1).toNat * 9)).block, (ad127.add ((x3_1).toNat * 9)).off + 8, none⟩ = some (.int .i64 ((rd_T92 l0 x3_1).f8))) (ds := []) (bT 24 0) Zj rfl rfl ⟨(cbH HB hw127_0 :), (cbH HB hw127_1 :), (cbH HB hw127_2 :), (cbH HB hw127_3 :), (cbH HB hw127_4 :), (cbH HB hw127_5 :), (cbH HB hw127_6 :), (cbH HB hw127_7 :), (cbH HB hw127_8 :)⟩ (fun hHeld => ?_); refine with_tabW spec_AreArticles.tab4 spec_AreArticles.bits4 (fun HT_ HW_ => ?_)
      generalize wr.drew = w17 at HB hx127_0 hx127_1 hx127_2 hx127_3 hx127_4 hx127_5 hx127_6 hx127_7 hx127_8 hHeld ⊢
      refine pureZ HT_ 0 (some 10) (bT 24 1) ?_
      refine pureZ HT_ 1 (some 11) (bT 24 2) ?_
      refine pureZ HT_ 2 (some 12) (bT 24 3) ?_
      refine take_ (i := 3) (N := some 13) (v := ?_) (a' := ?_) (bT 24 4) rfl rfl (take_ofW HT_.out HW_.out Zj) (fun _ _ _ h => h) (Or.inl ⟨by rfl, ?_⟩) hHeld ?_ ?_
      rotate_left
      ·rintro w' ⟨s0, s1, s2, s3, s4, s5, s6, s7, s8⟩
       go_simp
       with_reducible rfl
      rotate_left
      ·exact Zput
      refine one_ (i := 4) (N := some 14) (bT 24 5) rfl rfl (one_of HT_.out Zj) (by decide) (fun K hK => ?_)
      refine goes_ Try.func127 Zj rfl #[.agg #[.string ((rd_T92 l0 x3_1).f0), .int .i64 ((rd_T92 l0 x3_1).f1), .int .i64 ((rd_T92 l0 x3_1).f2), .int .i64 ((rd_T92 l0 x3_1).f3), .int .i64 ((rd_T92 l0 x3_1).f4), .int .i64 ((rd_T92 l0 x3_1).f5), .int .i64 ((rd_T92 l0 x3_1).f6), .int .i64 ((rd_T92 l0 x3_1).f7), .int .i64 ((rd_T92 l0 x3_1).f8)]] (by rfl) rfl rfl Zo ?_
      with_reducible refine (spec_IsArticle.calls k1 ((rd_T92 l0 x3_1).f0) ((rd_T92 l0 x3_1).f1) ((rd_T92 l0 x3_1).f2) ((rd_T92 l0 x3_1).f3) ((rd_T92 l0 x3_1).f4) ((rd_T92 l0 x3_1).f5) ((rd_T92 l0 x3_1).f6) ((rd_T92 l0 x3_1).f7) ((rd_T92 l0 x3_1).f8) false _ A4.out).mono ?_
      rintro e w18 ⟨rfl, hb⟩
      refine ⟨_, rfl, ?_⟩
      have n0_ := Aside0.mk (below_step Zc hb)
      clear HB
      have HB := n0_
      clear n0_
      (try clear hb)
      (try clear hb2)
      (try clear hk)
      (try clear hi)
      refine hK.out _ _ ⟨(cbH HB hw127_0 :), (cbH HB hw127_1 :), (cbH HB hw127_2 :), (cbH HB hw127_3 :), (cbH HB hw127_4 :), (cbH HB hw127_5 :), (cbH HB hw127_6 :), (cbH HB hw127_7 :), (cbH HB hw127_8 :)⟩ (fun hHeld => ?_)
      clear hK K
      refine norm_ (a' := ?_) ?_ ?_
      rotate_left
      ·show Act.put _ (some 14) _ = _
       simp only [Act.put, List.setIfInBounds_toArray, List.set_cons_zero, List.set_cons_succ, i64_w, i32_w]
       rfl
      refine pureZ HT_ 5 (some 15) (bT 24 6) ?_
      refine pureZ HT_ 6 (some 16) (bT 24 7) ?_
      refine pure_ (i := 7) (N := some 17) (v := undef) (a' := ?_) (bT 24 8) rfl rfl (any_of HT_.out Zj) (fun _ _ _ h => h) (Or.inr ⟨by rfl, rfl⟩) ?_ ?_
      rotate_left
      ·exact Zput
      refine pure_ (i := 8) (N := some 18) (v := undef) (a' := ?_) (bT 24 9) rfl rfl (any_of HT_.out Zj) (fun _ _ _ h => h) (Or.inr ⟨by rfl, rfl⟩) ?_ ?_
      rotate_left
      ·exact Zput
      refine pure_ (i := 9) (N := some 19) (v := undef) (a' := ?_) (bT 24 10) rfl rfl (any_of HT_.out Zj) (fun _ _ _ h => h) (Or.inr ⟨by rfl, rfl⟩) ?_ ?_
      rotate_left
      ·exact Zput
      refine pure_ (i := 10) (N := some 20) (v := undef) (a' := ?_) (bT 24 11) rfl rfl (any_of HT_.out Zj) (fun _ _ _ h => h) (Or.inr ⟨by rfl, rfl⟩) ?_ ?_
      rotate_left
      ·exact Zput
      refine pure_ (i := 11) (N := some 21) (v := undef) (a' := ?_) (bT 24 12) rfl rfl (any_of HT_.out Zj) (fun _ _ _ h => h) (Or.inr ⟨by rfl, rfl⟩) ?_ ?_
      rotate_left
      ·exact Zput
      refine pure_ (i := 12) (N := some 22) (v := undef) (a' := ?_) (bT 24 13) rfl rfl (any_of HT_.out Zj) (fun _ _ _ h => h) (Or.inr ⟨by rfl, rfl⟩) ?_ ?_
      rotate_left
      ·exact Zput
      refine pure_ (i := 13) (N := some 23) (v := undef) (a' := ?_) (bT 24 14) rfl rfl (any_of HT_.out Zj) (fun _ _ _ h => h) (Or.inr ⟨by rfl, rfl⟩) ?_ ?_
      rotate_left
      ·exact Zput
      refine pure_ (i := 14) (N := some 24) (v := undef) (a' := ?_) (bT 24 15) rfl rfl (any_of HT_.out Zj) (fun _ _ _ h => h) (Or.inr ⟨by rfl, rfl⟩) ?_ ?_
      rotate_left
      ·exact Zput
      refine pure_ (i := 15) (N := some 25) (v := undef) (a' := ?_) (bT 24 16) rfl rfl (any_of HT_.out Zj) (fun _ _ _ h => h) (Or.inr ⟨by rfl, rfl⟩) ?_ ?_
      rotate_left
      ·exact Zput
      refine pure_ (i := 16) (N := some 26) (v := undef) (a' := ?_) (bT 24 17) rfl rfl (any_of HT_.out Zj) (fun _ _ _ h => h) (Or.inr ⟨by rfl, rfl⟩) ?_ ?_
      rotate_left
      ·exact Zput
      refine pure_ (i := 17) (N := some 27) (v := undef) (a' := ?_) (bT 24 18) rfl rfl (any_of HT_.out Zj) (fun _ _ _ h => h) (Or.inr ⟨by rfl, rfl⟩) ?_ ?_
      rotate_left
      ·exact Zput
      refine pure_ (i := 18) (N := some 28) (v := undef) (a' := ?_) (bT 24 19) rfl rfl (any_of HT_.out Zj) (fun _ _ _ h => h) (Or.inr ⟨by rfl, rfl⟩) ?_ ?_
      rotate_left
      ·exact Zput
      refine pure_ (i := 19) (N := some 29) (v := undef) (a' := ?_) (bT 24 20) rfl rfl (any_of HT_.out Zj) (fun _ _ _ h => h) (Or.inr ⟨by rfl, rfl⟩) ?_ ?_
      rotate_left
      ·exact Zput
      refine pure_ (i := 20) (N := some 30) (v := undef) (a' := ?_) (bT 24 21) rfl rfl (any_of HT_.out Zj) (fun _ _ _ h => h) (Or.inr ⟨by rfl, rfl⟩) ?_ ?_
      rotate_left
      ·exact Zput
      refine pure_ (i := 21) (N := some 31) (v := undef) (a' := ?_) (bT 24 22) rfl rfl (any_of HT_.out Zj) (fun _ _ _ h => h) (Or.inr ⟨by rfl, rfl⟩) ?_ ?_
      rotate_left
      ·exact Zput
      refine pure_ (i := 22) (N := some 32) (v := undef) (a' := ?_) (bT 24 23) rfl rfl (any_of HT_.out Zj) (fun _ _ _ h => h) (Or.inr ⟨by rfl, rfl⟩) ?_ ?_
      rotate_left
      ·exact Zput
      refine pureZ HT_ 23 (some 33) (bT 24 24) ?_
      refine done_ (done_of HT_.out Zj) ?_
      try go_wp2
      go_ret
      exact ⟨Zk, Zc⟩
    ·rw [if_neg c3] at H
     exact absurd H (by simp)
   ·rw [if_neg c2] at H
    have c2b0 := decide_eq_false c2
    clear c2
    obtain rfl := Option.some.inj H
    go_wp2
    go_ret
    exact ⟨Zk, Zc⟩
def spec_l07Has.f (l0 : List (S108)) (a1 : Int) (a2 : Int) : Option (Bool) := (spec_l01In.f a1 0 (wrap64 ((l0.length : Int) - 1))).bind fun t131 => (if t131 = true then (if 0 ≤ a1 then (if a1 < (l0.length : Int) then ((spec_l01In.f a2 0 (wrap64 (((rd_T108 l0 a1).f0) - 1))).bind fun t133 => (some t133)) else (none)) else (none)) else (some false))
set_option maxHeartbeats 8000000 in
set_option maxRecDepth 100000 in
theorem spec_l07Has.calls (A0 : Option Addr) (c0 : Nat) (l0 : List (S108)) (a1 : Int) (a2 : Int) (r : Bool) (w : World) (hr0 : Kd.C k108 w A0 l0.length l0) (hc0 : l0.length ≤ c0) (h : spec_l07Has.f l0 a1 a2 = some r) :
  Calls Try.prog 93 #[.slice A0 l0.length c0, .int .i64 a1, .int .i64 a2] w fun e w' => e = .returned (.bool r) ∧ Drawn0 w w' := by
 have HR0 := Aside0.mk hr0
 have HC0 := Aside0.mk hc0
 clear hr0 hc0
 have H : ((spec_l01In.f a1 0 (wrap64 ((l0.length : Int) - 1))).bind fun t131 => (if t131 = true then (if 0 ≤ a1 then (if a1 < (l0.length : Int) then ((spec_l01In.f a2 0 (wrap64 (((rd_T108 l0 a1).f0) - 1))).bind fun t133 => (some t133)) else (none)) else (none)) else (some false))) = some r := h
 clear h
 replace H := Option.bind_eq_some_iff.mp H
 obtain ⟨t131, A40, H⟩ := H
 have A4 := Aside0.mk A40
 clear A40
 by_cases c5 : t131 = true
 ·subst c5
  have H1 : (if 0 ≤ a1 then (if a1 < (l0.length : Int) then ((spec_l01In.f a2 0 (wrap64 (((rd_T108 l0 a1).f0) - 1))).bind fun t133 => (some t133)) else (none)) else (none)) = some r := by rw [if_pos rfl] at H; exact H
  clear H
  have H := H1
  clear H1
  by_cases c6 : 0 ≤ a1
  ·rw [if_pos c6] at H
   have c6b0 := decide_eq_true c6
   clear c6
   by_cases c7 : a1 < (l0.length : Int)
   ·rw [if_pos c7] at H
    have c7b0 := decide_eq_true c7
    clear c7
    replace H := Option.bind_eq_some_iff.mp H
    obtain ⟨t133, A80, H⟩ := H
    have A8 := Aside0.mk A80
    clear A80
    obtain rfl := Option.some.inj H
    go_enter Try.func93, Try.ntmps93
    go_wp2_with (first | ((with_reducible refine gate_callee (f := 68) rfl ?_); refine goesL_ (some 11) rfl rfl Try.func68 Zj rfl #[.int .i64 a1, .int .i64 0, .int .i64 (wrap64 ((l0.length : Int) - 1))] rfl Zo ?_; (with_reducible refine (spec_l01In.calls a1 0 (wrap64 ((l0.length : Int) - 1)) true _ A4.out).mono ?_); rintro e w' ⟨rfl, ⟨nd, rfl⟩⟩; refine ⟨_, rfl, ?_⟩; have p132 : 0 ≤ (a1 : Int) := of_decide_eq_true Zp; have q132 : a1 < (l0.length : Int) := of_decide_eq_true Zp; obtain ⟨ad132, e132, hx132_0, hx132_1⟩ := at_T108 HR0.out a1 p132 q132; cases e132; replace p132 := eq_true p132; replace q132 := eq_true q132) | (go_at_call 68; (with_reducible refine (spec_l01In.calls a2 0 (wrap64 (((rd_T108 l0 a1).f0) - 1)) t133 _ A8.out).mono ?_); rintro e w' ⟨rfl, ⟨nd, rfl⟩⟩))
    go_ret
    exact ⟨Za, Zb⟩
   ·rw [if_neg c7] at H
    exact absurd H (by simp)
  ·rw [if_neg c6] at H
   exact absurd H (by simp)
 ·replace c5 := Bool.eq_false_iff.mpr c5
  subst c5
  have H1 : (some false) = some r := by rw [if_neg (show ¬ (false = true) by decide)] at H; exact H
  clear H
  have H := H1
  clear H1
  obtain rfl := Option.some.inj H
  go_enter Try.func93, Try.ntmps93
  go_wp2_with (first | ((with_reducible refine gate_callee (f := 68) rfl ?_); refine goesL_ (some 11) rfl rfl Try.func68 Zj rfl #[.int .i64 a1, .int .i64 0, .int .i64 (wrap64 ((l0.length : Int) - 1))] rfl Zo ?_; (with_reducible refine (spec_l01In.calls a1 0 (wrap64 ((l0.length : Int) - 1)) false _ A4.out).mono ?_); rintro e w' ⟨rfl, ⟨nd, rfl⟩⟩; refine ⟨_, rfl, ?_⟩))
  go_ret
  exact ⟨Za, Zb⟩
def spec_l03Find.l0 : Nat → List (S92) → ByteArray → Int → Option (Int)
 | 0, _, _, _ => none
 | k + 1, x0, x1, x5 => if x5 < (x0.length : Int) then (if 0 ≤ x5 then (if ((rd_T92 x0 x5).f0).toList = x1.toList then (some x5) else (spec_l03Find.l0 k x0 x1 (wrap64 (x5 + 1)))) else (none)) else (some (-1))
def spec_l03Find.f (k : Nat) (l0 : List (S92)) (a1 : ByteArray) : Option (Int) := spec_l03Find.l0 k l0 a1 0
set_option maxHeartbeats 8000000 in
set_option maxRecDepth 100000 in
theorem spec_l03Find.calls (k : Nat) (A0 : Option Addr) (c0 : Nat) (l0 : List (S92)) (a1 : ByteArray) (r : Int) (w : World) (hr0 : Kd.C k92 w A0 l0.length l0) (hc0 : l0.length ≤ c0) (h : spec_l03Find.f k l0 a1 = some r) :
  Calls Try.prog 94 #[.slice A0 l0.length c0, .string a1] w fun e w' => e = .returned (.int .i64 r) ∧ Drawn0 w w' := by
 have HR0 := Aside0.mk hr0
 have HC0 := Aside0.mk hc0
 clear hr0 hc0
 have H : (spec_l03Find.l0 k l0 a1 0) = some r := h
 clear h
 have H' := Aside0.mk H
 clear H
 go_enter Try.func94, Try.ntmps94
 go_wp2
 go_loopg [5] k (fun kq v5 w' => ∃ (x5_1 : Int), v5 = .int .i64 x5_1 ∧ Aside0 (spec_l03Find.l0 kq l0 a1 x5_1 = some r) ∧ Aside0 (kq ≤ k) ∧ Drawn0 w w')
 case atStart => exact ⟨(0), Za, H', ⟨Nat.le_refl _⟩, Zb⟩
 case round =>
  clear H'
  try clear p2
  obtain ⟨x5_1, rfl, HA, HK1, ⟨m1, rfl⟩⟩ := hrel
  cases gk with
  | zero => exact absurd HA.out (by simp [spec_l03Find.l0])
  | succ k1 =>
   have H := HA.out
   clear HA
   simp only [spec_l03Find.l0] at H
   by_cases c3 : x5_1 < (l0.length : Int)
   ·rw [if_pos c3] at H
    have c3b0 := decide_eq_true c3
    clear c3
    by_cases c4 : 0 ≤ x5_1
    ·rw [if_pos c4] at H
     have c4b0 := decide_eq_true c4
     clear c4
     by_cases c5 : ((rd_T92 l0 x5_1).f0).toList = a1.toList
     ·rw [if_pos c5] at H
      have c5b0 : (((rd_T92 l0 x5_1).f0).toList == a1.toList) = true := beq_iff_eq.mpr c5
      have c5b1 : (((rd_T92 l0 x5_1).f0).toList != a1.toList) = false := bne_eq_false_iff_eq.mpr c5
      clear c5
      obtain rfl := Option.some.inj H
      have p134 : 0 ≤ (x5_1 : Int) := of_decide_eq_true Zp
      have q134 : x5_1 < (l0.length : Int) := of_decide_eq_true Zp
      obtain ⟨ad134, e134, hx134_0, hx134_1, hx134_2, hx134_3, hx134_4, hx134_5, hx134_6, hx134_7, hx134_8⟩ := at_T92 HR0.out x5_1 p134 q134
      cases e134
      replace p134 := eq_true p134
      replace q134 := eq_true q134
      go_wp2
      go_ret
      exact ⟨Za, Zb⟩
     ·rw [if_neg c5] at H
      have c5b0 : (((rd_T92 l0 x5_1).f0).toList == a1.toList) = false := beq_eq_false_iff_ne.mpr c5
      have c5b1 : (((rd_T92 l0 x5_1).f0).toList != a1.toList) = true := bne_iff_ne.mpr c5
      have H' := Aside0.mk H
      clear H
      have p134 : 0 ≤ (x5_1 : Int) := of_decide_eq_true Zp
      have q134 : x5_1 < (l0.length : Int) := of_decide_eq_true Zp
      obtain ⟨ad134, e134, hx134_0, hx134_1, hx134_2, hx134_3, hx134_4, hx134_5, hx134_6, hx134_7, hx134_8⟩ := at_T92 HR0.out x5_1 p134 q134
      cases e134
      replace p134 := eq_true p134
      replace q134 := eq_true q134
      go_wp2
      go_roundg k1
      case measure => have := HK1.out; omega
      case rel => exact ⟨(wrap64 (x5_1 + 1)), Za, H', ⟨Zt⟩, Zb⟩
    ·rw [if_neg c4] at H
     exact absurd H (by simp)
   ·rw [if_neg c3] at H
    have c3b0 := decide_eq_false c3
    clear c3
    obtain rfl := Option.some.inj H
    go_wp2
    go_ret
    exact ⟨Za, Zb⟩
def spec_l07Time.l0 : Nat → List (S108) → Int → Int → Int → Int → Option (Int)
 | 0, _, _, _, _, _ => none
 | k + 1, x0, x1, x2, x7, x8 => if x8 < x1 then (if 0 ≤ x8 then (if x8 < (x0.length : Int) then (spec_l07Time.l0 k x0 x1 x2 (wrap64 (x7 + (wrap64 (((rd_T108 x0 x8).f0) * ((rd_T108 x0 x8).f1))))) (wrap64 (x8 + 1))) else (none)) else (none)) else (if 0 ≤ x1 then (if x1 < (x0.length : Int) then (some (wrap64 (x7 + (wrap64 (x2 * ((rd_T108 x0 x1).f1)))))) else (none)) else (none))
def spec_l07Time.f (k : Nat) (l0 : List (S108)) (a1 : Int) (a2 : Int) : Option (Int) := spec_l07Time.l0 k l0 a1 a2 0 0
set_option maxHeartbeats 8000000 in
set_option maxRecDepth 100000 in
theorem spec_l07Time.calls (k : Nat) (A0 : Option Addr) (c0 : Nat) (l0 : List (S108)) (a1 : Int) (a2 : Int) (r : Int) (w : World) (hr0 : Kd.C k108 w A0 l0.length l0) (hc0 : l0.length ≤ c0) (h : spec_l07Time.f k l0 a1 a2 = some r) :
  Calls Try.prog 128 #[.slice A0 l0.length c0, .int .i64 a1, .int .i64 a2] w fun e w' => e = .returned (.int .i64 r) ∧ Drawn0 w w' := by
 have HR0 := Aside0.mk hr0
 have HC0 := Aside0.mk hc0
 clear hr0 hc0
 have H : (spec_l07Time.l0 k l0 a1 a2 0 0) = some r := h
 clear h
 have H' := Aside0.mk H
 clear H
 go_enter Try.func128, Try.ntmps128
 go_wp2
 repeat (go_quiet (fail); try go_wp2)
 go_loopg [7, 8] k (fun kq v7 v8 w' => ∃ (x7_1 : Int) (x8_1 : Int), v7 = .int .i64 x7_1 ∧ v8 = .int .i64 x8_1 ∧ Aside0 (spec_l07Time.l0 kq l0 a1 a2 x7_1 x8_1 = some r) ∧ Aside0 (kq ≤ k) ∧ Drawn0 w w')
 case atStart => exact ⟨(0), (0), Za, Za, H', ⟨Nat.le_refl _⟩, Zb⟩
 case round =>
  clear H'
  try clear c1
  try clear p2
  obtain ⟨x7_1, x8_1, rfl, rfl, HA, HK1, ⟨m1, rfl⟩⟩ := hrel
  cases gk with
  | zero => exact absurd HA.out (by simp [spec_l07Time.l0])
  | succ k1 =>
   have H := HA.out
   clear HA
   simp only [spec_l07Time.l0] at H
   by_cases c4 : x8_1 < a1
   ·rw [if_pos c4] at H
    have c4b0 := decide_eq_true c4
    clear c4
    by_cases c5 : 0 ≤ x8_1
    ·rw [if_pos c5] at H
     have c5b0 := decide_eq_true c5
     clear c5
     by_cases c6 : x8_1 < (l0.length : Int)
     ·rw [if_pos c6] at H
      have c6b0 := decide_eq_true c6
      clear c6
      have H' := Aside0.mk H
      clear H
      have p135 : 0 ≤ (x8_1 : Int) := of_decide_eq_true Zp
      have q135 : x8_1 < (l0.length : Int) := of_decide_eq_true Zp
      obtain ⟨ad135, e135, hx135_0, hx135_1⟩ := at_T108 HR0.out x8_1 p135 q135
      cases e135
      replace p135 := eq_true p135
      replace q135 := eq_true q135
      have p136 : 0 ≤ (x8_1 : Int) := of_decide_eq_true Zp
      have q136 : x8_1 < (l0.length : Int) := of_decide_eq_true Zp
      obtain ⟨ad136, e136, hx136_0, hx136_1⟩ := at_T108 HR0.out x8_1 p136 q136
      obtain rfl : ad135 = ad136 := (by injection e136)
      replace p136 := eq_true p136
      replace q136 := eq_true q136
      go_wp2
      repeat (go_quiet (fail); try go_wp2)
      go_roundg k1
      case measure => have := HK1.out; omega
      case rel => exact ⟨(wrap64 (x7_1 + (wrap64 (((rd_T108 l0 x8_1).f0) * ((rd_T108 l0 x8_1).f1))))), (wrap64 (x8_1 + 1)), Za, Za, H', ⟨Zt⟩, Zb⟩
     ·rw [if_neg c6] at H
      exact absurd H (by simp)
    ·rw [if_neg c5] at H
     exact absurd H (by simp)
   ·rw [if_neg c4] at H
    have c4b0 := decide_eq_false c4
    clear c4
    by_cases c7 : 0 ≤ a1
    ·rw [if_pos c7] at H
     have c7b0 := decide_eq_true c7
     clear c7
     by_cases c8 : a1 < (l0.length : Int)
     ·rw [if_pos c8] at H
      have c8b0 := decide_eq_true c8
      clear c8
      obtain rfl := Option.some.inj H
      have p137 : 0 ≤ (a1 : Int) := of_decide_eq_true Zp
      have q137 : a1 < (l0.length : Int) := of_decide_eq_true Zp
      obtain ⟨ad137, e137, hx137_0, hx137_1⟩ := at_T108 HR0.out a1 p137 q137
      cases e137
      replace p137 := eq_true p137
      replace q137 := eq_true q137
      go_wp2
      repeat (go_quiet (fail); try go_wp2)
      go_ret
      exact ⟨Za, Zb⟩
     ·rw [if_neg c8] at H
      exact absurd H (by simp)
    ·rw [if_neg c7] at H
     exact absurd H (by simp)
def spec_l08Time.f (k : Nat) (l0_0 : List (S108)) (l0_1 : List (S92)) (l0_2 : List (S43)) (a1_0 : Int) (a1_1 : Int) (a1_2 : ByteArray) (a1_3 : Int) : Option (Int) := (spec_l07Time.f k l0_0 a1_0 a1_1).bind fun t140 => ((spec_l03Find.f k l0_1 a1_2).bind fun t141 => (if 0 ≤ t141 then (if t141 < (l0_1.length : Int) then (some (wrap64 (t140 - ((rd_T92 l0_1 t141).f3)))) else (none)) else (none)))
set_option maxHeartbeats 8000000 in
set_option maxRecDepth 100000 in
theorem spec_l08Time.calls (k : Nat) (A0_0 : Option Addr) (c0_0 : Nat) (l0_0 : List (S108)) (A0_1 : Option Addr) (c0_1 : Nat) (l0_1 : List (S92)) (A0_2 : Option Addr) (c0_2 : Nat) (l0_2 : List (S43)) (a1_0 : Int) (a1_1 : Int) (a1_2 : ByteArray) (a1_3 : Int) (r : Int) (w : World) (hr0_0 : Kd.C k108 w A0_0 l0_0.length l0_0) (hc0_0 : l0_0.length ≤ c0_0) (hr0_1 : Kd.C k92 w A0_1 l0_1.length l0_1) (hc0_1 : l0_1.length ≤ c0_1) (hr0_2 : Kd.C k43 w A0_2 l0_2.length l0_2) (hc0_2 : l0_2.length ≤ c0_2) (h : spec_l08Time.f k l0_0 l0_1 l0_2 a1_0 a1_1 a1_2 a1_3 = some r) :
  Calls Try.prog 95 #[.agg #[.slice A0_0 l0_0.length c0_0, .slice A0_1 l0_1.length c0_1, .slice A0_2 l0_2.length c0_2], .agg #[.int .i64 a1_0, .int .i64 a1_1, .string a1_2, .int .i64 a1_3]] w fun e w' => e = .returned (.int .i64 r) ∧ Below w.heap.size w w' := by
 have hu32 := Try.underlying32
 have hu43 := Try.underlying43
 have HR0_0 := Aside0.mk hr0_0
 have HC0_0 := Aside0.mk hc0_0
 clear hr0_0 hc0_0
 have HR0_1 := Aside0.mk hr0_1
 have HC0_1 := Aside0.mk hc0_1
 clear hr0_1 hc0_1
 have HR0_2 := Aside0.mk hr0_2
 have HC0_2 := Aside0.mk hc0_2
 clear hr0_2 hc0_2
 have HB := Aside0.mk (Below.refl w.heap.size w)
 have H : ((spec_l07Time.f k l0_0 a1_0 a1_1).bind fun t140 => ((spec_l03Find.f k l0_1 a1_2).bind fun t141 => (if 0 ≤ t141 then (if t141 < (l0_1.length : Int) then (some (wrap64 (t140 - ((rd_T92 l0_1 t141).f3)))) else (none)) else (none)))) = some r := h
 clear h
 replace H := Option.bind_eq_some_iff.mp H
 obtain ⟨t140, A30, H⟩ := H
 have A3 := Aside0.mk A30
 clear A30
 replace H := Option.bind_eq_some_iff.mp H
 obtain ⟨t141, A40, H⟩ := H
 have A4 := Aside0.mk A40
 clear A40
 by_cases c5 : 0 ≤ t141
 ·rw [if_pos c5] at H
  have c5b0 := decide_eq_true c5
  clear c5
  by_cases c6 : t141 < (l0_1.length : Int)
  ·rw [if_pos c6] at H
   have c6b0 := decide_eq_true c6
   clear c6
   obtain rfl := Option.some.inj H
   go_enter Try.func95, Try.ntmps95
   go_wp2_with (first | ((with_reducible refine gate_dst (N := 2) rfl ?_); refine boxZ 2 #[.slice A0_0 l0_0.length c0_0, .slice A0_1 l0_1.length c0_1, .slice A0_2 l0_2.length c0_2] 32 ?_; intro gb138 hg w7 hbox hb; have n0_ := Aside0.mk (below_step Zc hb); have n1_ := Aside0.mk (hbox); have n2_ := Aside0.mk ((Zd : w.heap.size ≤ gb138)); have n3_ := Aside0.mk ((Zd : w.heap.size ≤ gb138)); clear HB; have HB := n0_; have BK138 := n1_; have GW138 := n2_; have GE138 := n3_; clear n0_ n1_ n2_ n3_; clear hb hbox hg) | ((with_reducible refine gate_dst (N := 3) rfl ?_); refine boxZ 3 #[.int .i64 a1_0, .int .i64 a1_1, .string a1_2, .int .i64 a1_3] 43 ?_; intro gb139 hg w8 hbox hb; have n0_ := Aside0.mk (blk_below (g := gb138) (o := .cells #[.slice A0_0 l0_0.length c0_0, .slice A0_1 l0_1.length c0_1, .slice A0_2 l0_2.length c0_2] 32 (0, 0)) (have z0_ := BK138; Ze) hb); have n1_ := Aside0.mk (below_step (have z0_ := GE138; Zf) hb); have n2_ := Aside0.mk (hbox); have n3_ := Aside0.mk (((have z0_ := GE138; Zg) : w.heap.size ≤ gb139)); have n4_ := Aside0.mk (((have z0_ := GE138; Zg) : w.heap.size ≤ gb139)); have n5_ := Aside0.mk (((have z0_ := BK138; Zao) : gb138 ≠ gb139)); have n6_ := Aside0.mk (((have z0_ := BK138; Zap) : gb139 ≠ gb138)); clear BK138; clear HB; have BK138 := n0_; have HB := n1_; have BK139 := n2_; have GW139 := n3_; have GE139 := n4_; have NB138_139 := n5_; have NB139_138 := n6_; clear n0_ n1_ n2_ n3_ n4_ n5_ n6_; clear hb hbox hg; have hnb9 := NB138_139.out; have hnc9 := NB139_138.out; obtain ⟨hcz10_0, hcz10_1, hcz10_2, hfz10_0, hfz10_1, hfz10_2⟩ := cz3 BK138; obtain ⟨hcz11_0, hcz11_1, hcz11_2, hcz11_3, hfz11_0, hfz11_1, hfz11_2, hfz11_3⟩ := cz4 BK139) | (go_at_call 128; (with_reducible refine (spec_l07Time.calls k _ _ l0_0 a1_0 a1_1 t140 _ ?side1 ?side2 A3.out).mono ?_); (case side1 => exact (have z0_ := HR0_0; Zad)); (case side2 => exact HC0_0.out); rintro e w' ⟨rfl, ⟨nd, rfl⟩⟩; (try first | exact ⟨rfl, _, World.drewN_drewN _ _ _⟩ | exact ⟨rfl, _, Eq.trans (World.drewN_drewN _ _ _) (congrArg (World.drewN _) (Nat.add_assoc _ _ _))⟩)) | (go_at_call 94; (with_reducible refine (spec_l03Find.calls k _ _ l0_1 a1_2 t141 _ ?side1 ?side2 A4.out).mono ?_); (case side1 => repeat (first | exact (Kd.C_below HR0_1.out (have z0_ := GE138; have z1_ := GE139; Zh)) | (with_reducible refine Kd.C_alloc ?_ _) | (with_reducible refine Kd.C_drewN ?_ _) | (with_reducible refine Kd.C_drew ?_))); (case side2 => exact HC0_1.out); rintro e w' ⟨rfl, ⟨nd, rfl⟩⟩; (try first | exact ⟨rfl, _, World.drewN_drewN _ _ _⟩ | exact ⟨rfl, _, Eq.trans (World.drewN_drewN _ _ _) (congrArg (World.drewN _) (Nat.add_assoc _ _ _))⟩); have p142 : 0 ≤ (t141 : Int) := of_decide_eq_true Zp; have q142 : t141 < (l0_1.length : Int) := of_decide_eq_true Zp; obtain ⟨ad142, e142, hx142_0, hx142_1, hx142_2, hx142_3, hx142_4, hx142_5, hx142_6, hx142_7, hx142_8⟩ := at_T92 HR0_1.out t141 p142 q142; cases e142; replace hx142_0 := cbH HB hx142_0; replace hx142_1 := cbH HB hx142_1; replace hx142_2 := cbH HB hx142_2; replace hx142_3 := cbH HB hx142_3; replace hx142_4 := cbH HB hx142_4; replace hx142_5 := cbH HB hx142_5; replace hx142_6 := cbH HB hx142_6; replace hx142_7 := cbH HB hx142_7; replace hx142_8 := cbH HB hx142_8; replace p142 := eq_true p142; replace q142 := eq_true q142))
   repeat (go_quiet (first | ((with_reducible refine gate_dst (N := 2) rfl ?_); refine boxZ 2 #[.slice A0_0 l0_0.length c0_0, .slice A0_1 l0_1.length c0_1, .slice A0_2 l0_2.length c0_2] 32 ?_; intro gb138 hg w7 hbox hb; have n0_ := Aside0.mk (below_step Zc hb); have n1_ := Aside0.mk (hbox); have n2_ := Aside0.mk ((Zd : w.heap.size ≤ gb138)); have n3_ := Aside0.mk ((Zd : w.heap.size ≤ gb138)); clear HB; have HB := n0_; have BK138 := n1_; have GW138 := n2_; have GE138 := n3_; clear n0_ n1_ n2_ n3_; clear hb hbox hg) | ((with_reducible refine gate_dst (N := 3) rfl ?_); refine boxZ 3 #[.int .i64 a1_0, .int .i64 a1_1, .string a1_2, .int .i64 a1_3] 43 ?_; intro gb139 hg w8 hbox hb; have n0_ := Aside0.mk (blk_below (g := gb138) (o := .cells #[.slice A0_0 l0_0.length c0_0, .slice A0_1 l0_1.length c0_1, .slice A0_2 l0_2.length c0_2] 32 (0, 0)) (have z0_ := BK138; Ze) hb); have n1_ := Aside0.mk (below_step (have z0_ := GE138; Zf) hb); have n2_ := Aside0.mk (hbox); have n3_ := Aside0.mk (((have z0_ := GE138; Zg) : w.heap.size ≤ gb139)); have n4_ := Aside0.mk (((have z0_ := GE138; Zg) : w.heap.size ≤ gb139)); have n5_ := Aside0.mk (((have z0_ := BK138; Zao) : gb138 ≠ gb139)); have n6_ := Aside0.mk (((have z0_ := BK138; Zap) : gb139 ≠ gb138)); clear BK138; clear HB; have BK138 := n0_; have HB := n1_; have BK139 := n2_; have GW139 := n3_; have GE139 := n4_; have NB138_139 := n5_; have NB139_138 := n6_; clear n0_ n1_ n2_ n3_ n4_ n5_ n6_; clear hb hbox hg; have hnb9 := NB138_139.out; have hnc9 := NB139_138.out; obtain ⟨hcz10_0, hcz10_1, hcz10_2, hfz10_0, hfz10_1, hfz10_2⟩ := cz3 BK138; obtain ⟨hcz11_0, hcz11_1, hcz11_2, hcz11_3, hfz11_0, hfz11_1, hfz11_2, hfz11_3⟩ := cz4 BK139) | (go_at_call 128; (with_reducible refine (spec_l07Time.calls k _ _ l0_0 a1_0 a1_1 t140 _ ?side1 ?side2 A3.out).mono ?_); (case side1 => exact (have z0_ := HR0_0; Zad)); (case side2 => exact HC0_0.out); rintro e w' ⟨rfl, ⟨nd, rfl⟩⟩; (try first | exact ⟨rfl, _, World.drewN_drewN _ _ _⟩ | exact ⟨rfl, _, Eq.trans (World.drewN_drewN _ _ _) (congrArg (World.drewN _) (Nat.add_assoc _ _ _))⟩)) | (go_at_call 94; (with_reducible refine (spec_l03Find.calls k _ _ l0_1 a1_2 t141 _ ?side1 ?side2 A4.out).mono ?_); (case side1 => repeat (first | exact (Kd.C_below HR0_1.out (have z0_ := GE138; have z1_ := GE139; Zh)) | (with_reducible refine Kd.C_alloc ?_ _) | (with_reducible refine Kd.C_drewN ?_ _) | (with_reducible refine Kd.C_drew ?_))); (case side2 => exact HC0_1.out); rintro e w' ⟨rfl, ⟨nd, rfl⟩⟩; (try first | exact ⟨rfl, _, World.drewN_drewN _ _ _⟩ | exact ⟨rfl, _, Eq.trans (World.drewN_drewN _ _ _) (congrArg (World.drewN _) (Nat.add_assoc _ _ _))⟩); have p142 : 0 ≤ (t141 : Int) := of_decide_eq_true Zp; have q142 : t141 < (l0_1.length : Int) := of_decide_eq_true Zp; obtain ⟨ad142, e142, hx142_0, hx142_1, hx142_2, hx142_3, hx142_4, hx142_5, hx142_6, hx142_7, hx142_8⟩ := at_T92 HR0_1.out t141 p142 q142; cases e142; replace hx142_0 := cbH HB hx142_0; replace hx142_1 := cbH HB hx142_1; replace hx142_2 := cbH HB hx142_2; replace hx142_3 := cbH HB hx142_3; replace hx142_4 := cbH HB hx142_4; replace hx142_5 := cbH HB hx142_5; replace hx142_6 := cbH HB hx142_6; replace hx142_7 := cbH HB hx142_7; replace hx142_8 := cbH HB hx142_8; replace p142 := eq_true p142; replace q142 := eq_true q142)); try go_wp2_with (first | ((with_reducible refine gate_dst (N := 2) rfl ?_); refine boxZ 2 #[.slice A0_0 l0_0.length c0_0, .slice A0_1 l0_1.length c0_1, .slice A0_2 l0_2.length c0_2] 32 ?_; intro gb138 hg w7 hbox hb; have n0_ := Aside0.mk (below_step Zc hb); have n1_ := Aside0.mk (hbox); have n2_ := Aside0.mk ((Zd : w.heap.size ≤ gb138)); have n3_ := Aside0.mk ((Zd : w.heap.size ≤ gb138)); clear HB; have HB := n0_; have BK138 := n1_; have GW138 := n2_; have GE138 := n3_; clear n0_ n1_ n2_ n3_; clear hb hbox hg) | ((with_reducible refine gate_dst (N := 3) rfl ?_); refine boxZ 3 #[.int .i64 a1_0, .int .i64 a1_1, .string a1_2, .int .i64 a1_3] 43 ?_; intro gb139 hg w8 hbox hb; have n0_ := Aside0.mk (blk_below (g := gb138) (o := .cells #[.slice A0_0 l0_0.length c0_0, .slice A0_1 l0_1.length c0_1, .slice A0_2 l0_2.length c0_2] 32 (0, 0)) (have z0_ := BK138; Ze) hb); have n1_ := Aside0.mk (below_step (have z0_ := GE138; Zf) hb); have n2_ := Aside0.mk (hbox); have n3_ := Aside0.mk (((have z0_ := GE138; Zg) : w.heap.size ≤ gb139)); have n4_ := Aside0.mk (((have z0_ := GE138; Zg) : w.heap.size ≤ gb139)); have n5_ := Aside0.mk (((have z0_ := BK138; Zao) : gb138 ≠ gb139)); have n6_ := Aside0.mk (((have z0_ := BK138; Zap) : gb139 ≠ gb138)); clear BK138; clear HB; have BK138 := n0_; have HB := n1_; have BK139 := n2_; have GW139 := n3_; have GE139 := n4_; have NB138_139 := n5_; have NB139_138 := n6_; clear n0_ n1_ n2_ n3_ n4_ n5_ n6_; clear hb hbox hg; have hnb9 := NB138_139.out; have hnc9 := NB139_138.out; obtain ⟨hcz10_0, hcz10_1, hcz10_2, hfz10_0, hfz10_1, hfz10_2⟩ := cz3 BK138; obtain ⟨hcz11_0, hcz11_1, hcz11_2, hcz11_3, hfz11_0, hfz11_1, hfz11_2, hfz11_3⟩ := cz4 BK139) | (go_at_call 128; (with_reducible refine (spec_l07Time.calls k _ _ l0_0 a1_0 a1_1 t140 _ ?side1 ?side2 A3.out).mono ?_); (case side1 => exact (have z0_ := HR0_0; Zad)); (case side2 => exact HC0_0.out); rintro e w' ⟨rfl, ⟨nd, rfl⟩⟩; (try first | exact ⟨rfl, _, World.drewN_drewN _ _ _⟩ | exact ⟨rfl, _, Eq.trans (World.drewN_drewN _ _ _) (congrArg (World.drewN _) (Nat.add_assoc _ _ _))⟩)) | (go_at_call 94; (with_reducible refine (spec_l03Find.calls k _ _ l0_1 a1_2 t141 _ ?side1 ?side2 A4.out).mono ?_); (case side1 => repeat (first | exact (Kd.C_below HR0_1.out (have z0_ := GE138; have z1_ := GE139; Zh)) | (with_reducible refine Kd.C_alloc ?_ _) | (with_reducible refine Kd.C_drewN ?_ _) | (with_reducible refine Kd.C_drew ?_))); (case side2 => exact HC0_1.out); rintro e w' ⟨rfl, ⟨nd, rfl⟩⟩; (try first | exact ⟨rfl, _, World.drewN_drewN _ _ _⟩ | exact ⟨rfl, _, Eq.trans (World.drewN_drewN _ _ _) (congrArg (World.drewN _) (Nat.add_assoc _ _ _))⟩); have p142 : 0 ≤ (t141 : Int) := of_decide_eq_true Zp; have q142 : t141 < (l0_1.length : Int) := of_decide_eq_true Zp; obtain ⟨ad142, e142, hx142_0, hx142_1, hx142_2, hx142_3, hx142_4, hx142_5, hx142_6, hx142_7, hx142_8⟩ := at_T92 HR0_1.out t141 p142 q142; cases e142; replace hx142_0 := cbH HB hx142_0; replace hx142_1 := cbH HB hx142_1; replace hx142_2 := cbH HB hx142_2; replace hx142_3 := cbH HB hx142_3; replace hx142_4 := cbH HB hx142_4; replace hx142_5 := cbH HB hx142_5; replace hx142_6 := cbH HB hx142_6; replace hx142_7 := cbH HB hx142_7; replace hx142_8 := cbH HB hx142_8; replace p142 := eq_true p142; replace q142 := eq_true q142)))
   go_ret
   exact ⟨by first | rfl | (simp only [i64_w]; done) | (simp only [i64_w]; rfl) | (simp [errW_none, errW_some] <;> rfl) | (simp [*, errW_none, errW_some] <;> rfl), (have z0_ := GE138; have z1_ := GE139; Zh)⟩
  ·rw [if_neg c6] at H
   exact absurd H (by simp)
 ·rw [if_neg c5] at H
  exact absurd H (by simp)
mutual
def spec_IsShow.j0 : Nat → Bool → List (S108) → List (S92) → List (S43) → Option (Bool)
 | 0, _, _, _, _ => none
 | k + 1, x20, x144000, x144001, x144002 => if x20 = true then (some false) else (spec_IsShow.l0 k 0 x144000 x144001 x144002)
def spec_IsShow.l0 : Nat → Int → List (S108) → List (S92) → List (S43) → Option (Bool)
 | 0, _, _, _, _ => none
 | k + 1, x3, x144000, x144001, x144002 => if x3 < (x144002.length : Int) then (if 0 ≤ x3 then ((spec_l07Has.f x144000 ((rd_T43 x144002 x3).f0) ((rd_T43 x144002 x3).f1)).bind fun t148 => (if t148 = true then ((spec_l03Find.f k x144001 ((rd_T43 x144002 x3).f2)).bind fun t149 => (if t149 < 0 then (some false) else ((spec_l01In.f ((rd_T43 x144002 x3).f3) 0 11).bind fun t150 => (if t150 = true then ((spec_l08Time.f k x144000 x144001 x144002 ((rd_T43 x144002 x3).f0) ((rd_T43 x144002 x3).f1) ((rd_T43 x144002 x3).f2) ((rd_T43 x144002 x3).f3)).bind fun t151 => (if t151 < 0 then (some false) else (spec_IsShow.l0 k (wrap64 (x3 + 1)) x144000 x144001 x144002))) else (some false))))) else (some false))) else (none)) else (some true)
end
def spec_IsShow.f (k : Nat) (l0_0 : List (S108)) (l0_1 : List (S92)) (l0_2 : List (S43)) : Option (Bool) := (spec_IsScore.f k l0_0).bind fun t144 => (if t144 = true then ((spec_AreArticles.f k l0_1).bind fun t145 => (if t145 = true then (spec_IsShow.j0 k (decide ((l0_2.length : Int) > 20)) l0_0 l0_1 l0_2) else (spec_IsShow.j0 k true l0_0 l0_1 l0_2))) else (spec_IsShow.j0 k true l0_0 l0_1 l0_2))
set_option maxHeartbeats 8000000 in
set_option maxRecDepth 100000 in
theorem spec_IsShow.calls (k : Nat) (A0_0 : Option Addr) (c0_0 : Nat) (l0_0 : List (S108)) (A0_1 : Option Addr) (c0_1 : Nat) (l0_1 : List (S92)) (A0_2 : Option Addr) (c0_2 : Nat) (l0_2 : List (S43)) (r : Bool) (w : World) (hr0_0 : Kd.C k108 w A0_0 l0_0.length l0_0) (hc0_0 : l0_0.length ≤ c0_0) (hr0_1 : Kd.C k92 w A0_1 l0_1.length l0_1) (hc0_1 : l0_1.length ≤ c0_1) (hr0_2 : Kd.C k43 w A0_2 l0_2.length l0_2) (hc0_2 : l0_2.length ≤ c0_2) (h : spec_IsShow.f k l0_0 l0_1 l0_2 = some r) :
  Calls Try.prog 36 #[.agg #[.slice A0_0 l0_0.length c0_0, .slice A0_1 l0_1.length c0_1, .slice A0_2 l0_2.length c0_2]] w fun e w' => e = .returned (.bool r) ∧ Below w.heap.size w w' := by
 have hu32 := Try.underlying32
 have hu43 := Try.underlying43
 have HR0_0 := Aside0.mk hr0_0
 have HC0_0 := Aside0.mk hc0_0
 clear hr0_0 hc0_0
 have HR0_1 := Aside0.mk hr0_1
 have HC0_1 := Aside0.mk hc0_1
 clear hr0_1 hc0_1
 have HR0_2 := Aside0.mk hr0_2
 have HC0_2 := Aside0.mk hc0_2
 clear hr0_2 hc0_2
 have HB := Aside0.mk (Below.refl w.heap.size w)
 have H : ((spec_IsScore.f k l0_0).bind fun t144 => (if t144 = true then ((spec_AreArticles.f k l0_1).bind fun t145 => (if t145 = true then (spec_IsShow.j0 k (decide ((l0_2.length : Int) > 20)) l0_0 l0_1 l0_2) else (spec_IsShow.j0 k true l0_0 l0_1 l0_2))) else (spec_IsShow.j0 k true l0_0 l0_1 l0_2))) = some r := h
 clear h
 have HC2 := Aside0.mk H
 clear H
 go_enter Try.func36, Try.ntmps36
 go_upto_region 1 with (first | ((with_reducible refine gate_dst (N := 1) rfl ?_); (try (refine gate_guard (by rfl) ?_; dsimp only)); refine boxZ 1 #[.slice A0_0 l0_0.length c0_0, .slice A0_1 l0_1.length c0_1, .slice A0_2 l0_2.length c0_2] 32 ?_; intro gb143 hg w3 hbox hb; have n0_ := Aside0.mk (below_step Zc hb); have n1_ := Aside0.mk (hbox); have n2_ := Aside0.mk ((Zd : w.heap.size ≤ gb143)); have n3_ := Aside0.mk ((Zd : w.heap.size ≤ gb143)); clear HB; have HB := n0_; have BK143 := n1_; have GW143 := n2_; have GE143 := n3_; clear n0_ n1_ n2_ n3_; clear hb hbox hg))
 (try simp only [Act.put, List.setIfInBounds_toArray, List.set_cons_zero, List.set_cons_succ])
 go_cut [20] (fun v20 wc => ∃ (kq : Nat) (x20_1 : Bool), v20 = .bool x20_1 ∧ Aside0 (spec_IsShow.j0 kq x20_1 l0_0 l0_1 l0_2 = some r) ∧ Aside0 (kq ≤ k) ∧ Aside0 (wc.heap[gb143]? = some (.cells #[(.slice A0_0 l0_0.length c0_0), (.slice A0_1 l0_1.length c0_1), (.slice A0_2 l0_2.length c0_2)] 32 (0, 0))) ∧ Aside0 (Below w.heap.size w wc))
 case first =>
  have H := HC2.out
  clear HC2
  replace H := Option.bind_eq_some_iff.mp H
  obtain ⟨t144, A40, H⟩ := H
  have A4 := Aside0.mk A40
  clear A40
  by_cases c5 : t144 = true
  ·subst c5
   have H1 : ((spec_AreArticles.f k l0_1).bind fun t145 => (if t145 = true then (spec_IsShow.j0 k (decide ((l0_2.length : Int) > 20)) l0_0 l0_1 l0_2) else (spec_IsShow.j0 k true l0_0 l0_1 l0_2))) = some r := by rw [if_pos rfl] at H; exact H
   clear H
   have H := H1
   clear H1
   replace H := Option.bind_eq_some_iff.mp H
   obtain ⟨t145, A60, H⟩ := H
   have A6 := Aside0.mk A60
   clear A60
   by_cases c7 : t145 = true
   ·subst c7
    have H1 : (spec_IsShow.j0 k (decide ((l0_2.length : Int) > 20)) l0_0 l0_1 l0_2) = some r := by rw [if_pos rfl] at H; exact H
    clear H
    have H := H1
    clear H1
    have H' := Aside0.mk H
    clear H
    obtain ⟨hcz8_0, hcz8_1, hcz8_2, hfz8_0, hfz8_1, hfz8_2⟩ := cz3 BK143
    go_wp2_with (first | ((with_reducible refine gate_callee (f := 91) rfl ?_); refine goesL_ (some 7) rfl rfl Try.func91 Zj rfl #[.slice A0_0 l0_0.length c0_0] rfl Zo ?_; (with_reducible refine (spec_IsScore.calls k _ _ l0_0 true _ ?side1 ?side2 A4.out).mono ?_); (case side1 => exact (have z0_ := HR0_0; Zad)); (case side2 => exact HC0_0.out); rintro e w' ⟨rfl, ⟨nd, rfl⟩⟩; refine ⟨_, rfl, ?_⟩) | (go_at_call 92; (with_reducible refine (spec_AreArticles.calls k _ _ l0_1 true _ ?side1 ?side2 A6.out).mono ?_); (case side1 => repeat (first | exact (Kd.C_below HR0_1.out (have z0_ := GE143; Zf)) | (with_reducible refine Kd.C_alloc ?_ _) | (with_reducible refine Kd.C_drewN ?_ _) | (with_reducible refine Kd.C_drew ?_))); (case side2 => exact HC0_1.out); rintro e w9 ⟨rfl, hb⟩; have n0_ := Aside0.mk (blk_below (g := gb143) (o := .cells #[.slice A0_0 l0_0.length c0_0, .slice A0_1 l0_1.length c0_1, .slice A0_2 l0_2.length c0_2] 32 (0, 0)) (have z0_ := BK143; Ze) hb); have n1_ := Aside0.mk (below_step (have z0_ := GE143; Zf) hb); clear BK143; clear HB; have BK143 := n0_; have HB := n1_; clear n0_ n1_; (try clear hb); (try clear hb2); (try clear hk); (try clear hi); obtain ⟨hcz10_0, hcz10_1, hcz10_2, hfz10_0, hfz10_1, hfz10_2⟩ := cz3 BK143))
    go_meet
    case rel => exact ⟨_, (decide ((l0_2.length : Int) > 20)), Za, H', ⟨Zm⟩, ⟨(have z0_ := BK143; Ze)⟩, ⟨(have z0_ := GE143; Zf)⟩⟩
   ·replace c7 := Bool.eq_false_iff.mpr c7
    subst c7
    have H1 : (spec_IsShow.j0 k true l0_0 l0_1 l0_2) = some r := by rw [if_neg (show ¬ (false = true) by decide)] at H; exact H
    clear H
    have H := H1
    clear H1
    have H' := Aside0.mk H
    clear H
    obtain ⟨hcz11_0, hcz11_1, hcz11_2, hfz11_0, hfz11_1, hfz11_2⟩ := cz3 BK143
    go_wp2_with (first | ((with_reducible refine gate_callee (f := 91) rfl ?_); refine goesL_ (some 7) rfl rfl Try.func91 Zj rfl #[.slice A0_0 l0_0.length c0_0] rfl Zo ?_; (with_reducible refine (spec_IsScore.calls k _ _ l0_0 true _ ?side1 ?side2 A4.out).mono ?_); (case side1 => exact (have z0_ := HR0_0; Zad)); (case side2 => exact HC0_0.out); rintro e w' ⟨rfl, ⟨nd, rfl⟩⟩; refine ⟨_, rfl, ?_⟩) | (go_at_call 92; (with_reducible refine (spec_AreArticles.calls k _ _ l0_1 false _ ?side1 ?side2 A6.out).mono ?_); (case side1 => repeat (first | exact (Kd.C_below HR0_1.out (have z0_ := GE143; Zf)) | (with_reducible refine Kd.C_alloc ?_ _) | (with_reducible refine Kd.C_drewN ?_ _) | (with_reducible refine Kd.C_drew ?_))); (case side2 => exact HC0_1.out); rintro e w12 ⟨rfl, hb⟩; have n0_ := Aside0.mk (blk_below (g := gb143) (o := .cells #[.slice A0_0 l0_0.length c0_0, .slice A0_1 l0_1.length c0_1, .slice A0_2 l0_2.length c0_2] 32 (0, 0)) (have z0_ := BK143; Ze) hb); have n1_ := Aside0.mk (below_step (have z0_ := GE143; Zf) hb); clear BK143; clear HB; have BK143 := n0_; have HB := n1_; clear n0_ n1_; (try clear hb); (try clear hb2); (try clear hk); (try clear hi)))
    go_meet
    case rel => exact ⟨_, (true), Za, H', ⟨Zm⟩, ⟨(have z0_ := BK143; Ze)⟩, ⟨(have z0_ := GE143; Zf)⟩⟩
  ·replace c5 := Bool.eq_false_iff.mpr c5
   subst c5
   have H1 : (spec_IsShow.j0 k true l0_0 l0_1 l0_2) = some r := by rw [if_neg (show ¬ (false = true) by decide)] at H; exact H
   clear H
   have H := H1
   clear H1
   have H' := Aside0.mk H
   clear H
   obtain ⟨hcz13_0, hcz13_1, hcz13_2, hfz13_0, hfz13_1, hfz13_2⟩ := cz3 BK143
   go_wp2_with (first | ((with_reducible refine gate_callee (f := 91) rfl ?_); refine goesL_ (some 7) rfl rfl Try.func91 Zj rfl #[.slice A0_0 l0_0.length c0_0] rfl Zo ?_; (with_reducible refine (spec_IsScore.calls k _ _ l0_0 false _ ?side1 ?side2 A4.out).mono ?_); (case side1 => exact (have z0_ := HR0_0; Zad)); (case side2 => exact HC0_0.out); rintro e w' ⟨rfl, ⟨nd, rfl⟩⟩; refine ⟨_, rfl, ?_⟩))
   go_meet
   case rel => exact ⟨_, (true), Za, H', ⟨Zm⟩, ⟨(have z0_ := BK143; Ze)⟩, ⟨(have z0_ := GE143; Zf)⟩⟩
 case rest =>
  clear HC2
  try clear p2
  try clear c3
  try clear c5
  try clear c7
  try clear c9
  try clear hcz10_0
  try clear hcz10_1
  try clear hcz10_2
  try clear hcz11_0
  try clear hcz11_1
  try clear hcz11_2
  try clear hcz13_0
  try clear hcz13_1
  try clear hcz13_2
  try clear hcz8_0
  try clear hcz8_1
  try clear hcz8_2
  try clear hfz10_0
  try clear hfz10_1
  try clear hfz10_2
  try clear hfz11_0
  try clear hfz11_1
  try clear hfz11_2
  try clear hfz13_0
  try clear hfz13_1
  try clear hfz13_2
  try clear hfz8_0
  try clear hfz8_1
  try clear hfz8_2
  obtain ⟨kq, x20_1, rfl, HA, HJ1, BK143, HB⟩ := hcut
  cases kq with
  | zero => exact absurd HA.out (by simp [spec_IsShow.j0])
  | succ kj1 =>
   have H := HA.out
   clear HA
   simp only [spec_IsShow.j0] at H
   by_cases c14 : x20_1 = true
   ·subst c14
    have H1 : (some false) = some r := by rw [if_pos rfl] at H; exact H
    clear H
    have H := H1
    clear H1
    obtain rfl := Option.some.inj H
    go_wp2
    go_ret
    exact ⟨Zk, (have z0_ := GE143; Zf)⟩
   ·replace c14 := Bool.eq_false_iff.mpr c14
    subst c14
    have H1 : (spec_IsShow.l0 kj1 0 l0_0 l0_1 l0_2) = some r := by rw [if_neg (show ¬ (false = true) by decide)] at H; exact H
    clear H
    have H := H1
    clear H1
    have H' := Aside0.mk H
    clear H
    go_wp2
    go_loopg [3] kj1 (fun kq v3 w' => ∃ (x3_2 : Int), v3 = .int .i64 x3_2 ∧ Aside0 (spec_IsShow.l0 kq x3_2 l0_0 l0_1 l0_2 = some r) ∧ Aside0 (kq ≤ kj1) ∧ Aside0 (w'.heap[gb143]? = some (.cells #[(.slice A0_0 l0_0.length c0_0), (.slice A0_1 l0_1.length c0_1), (.slice A0_2 l0_2.length c0_2)] 32 (0, 0))) ∧ Aside0 (Below w.heap.size w w'))
    case atStart => exact ⟨(0), Za, H', ⟨Nat.le_refl _⟩, ⟨(have z0_ := BK143; Ze)⟩, ⟨(have z0_ := GE143; Zf)⟩⟩
    case round =>
     clear H'
     try clear c1
     try clear p2
     try clear c3
     try clear c5
     try clear c7
     try clear c9
     try clear c14
     try clear hcz10_0
     try clear hcz10_1
     try clear hcz10_2
     try clear hcz11_0
     try clear hcz11_1
     try clear hcz11_2
     try clear hcz13_0
     try clear hcz13_1
     try clear hcz13_2
     try clear hcz8_0
     try clear hcz8_1
     try clear hcz8_2
     try clear hfz10_0
     try clear hfz10_1
     try clear hfz10_2
     try clear hfz11_0
     try clear hfz11_1
     try clear hfz11_2
     try clear hfz13_0
     try clear hfz13_1
     try clear hfz13_2
     try clear hfz8_0
     try clear hfz8_1
     try clear hfz8_2
     try clear p2
     obtain ⟨x3_2, rfl, HA, HK2, BK143, HB⟩ := hrel
     cases gk with
     | zero => exact absurd HA.out (by simp [spec_IsShow.l0])
     | succ k2 =>
      have H := HA.out
      clear HA
      simp only [spec_IsShow.l0] at H
      by_cases c15 : x3_2 < (l0_2.length : Int)
      ·rw [if_pos c15] at H
       have c15b0 := decide_eq_true c15
       clear c15
       by_cases c16 : 0 ≤ x3_2
       ·rw [if_pos c16] at H
        have c16b0 := decide_eq_true c16
        clear c16
        replace H := Option.bind_eq_some_iff.mp H
        obtain ⟨t148, A170, H⟩ := H
        have A17 := Aside0.mk A170
        clear A170
        by_cases c18 : t148 = true
        ·subst c18
         have H1 : ((spec_l03Find.f k2 l0_1 ((rd_T43 l0_2 x3_2).f2)).bind fun t149 => (if t149 < 0 then (some false) else ((spec_l01In.f ((rd_T43 l0_2 x3_2).f3) 0 11).bind fun t150 => (if t150 = true then ((spec_l08Time.f k2 l0_0 l0_1 l0_2 ((rd_T43 l0_2 x3_2).f0) ((rd_T43 l0_2 x3_2).f1) ((rd_T43 l0_2 x3_2).f2) ((rd_T43 l0_2 x3_2).f3)).bind fun t151 => (if t151 < 0 then (some false) else (spec_IsShow.l0 k2 (wrap64 (x3_2 + 1)) l0_0 l0_1 l0_2))) else (some false))))) = some r := by rw [if_pos rfl] at H; exact H
         clear H
         have H := H1
         clear H1
         replace H := Option.bind_eq_some_iff.mp H
         obtain ⟨t149, A190, H⟩ := H
         have A19 := Aside0.mk A190
         clear A190
         by_cases c20 : t149 < 0
         ·rw [if_pos c20] at H
          have c20b0 := decide_eq_true c20
          clear c20
          obtain rfl := Option.some.inj H
          obtain ⟨hcz21_0, hcz21_1, hcz21_2, hfz21_0, hfz21_1, hfz21_2⟩ := cz3 BK143
          have p146 : 0 ≤ (x3_2 : Int) := of_decide_eq_true Zp
          have q146 : x3_2 < (l0_2.length : Int) := of_decide_eq_true Zp
          obtain ⟨ad146, e146, hx146_0, hx146_1, hx146_2, hx146_3⟩ := at_T43 HR0_2.out x3_2 p146 q146
          cases e146
          replace hx146_0 := cbH HB hx146_0
          replace hx146_1 := cbH HB hx146_1
          replace hx146_2 := cbH HB hx146_2
          replace hx146_3 := cbH HB hx146_3
          replace p146 := eq_true p146
          replace q146 := eq_true q146
          go_wp2_with (first | ((with_reducible refine gate_dst (N := 4) rfl ?_); (try (refine gate_guard (by rfl) ?_; dsimp only)); refine boxZ 4 #[.int .i64 0, .int .i64 0, .string (⟨#[]⟩ : ByteArray), .int .i64 0] 43 ?_; intro gb147 hg w22 hbox hb; have n0_ := Aside0.mk (blk_below (g := gb143) (o := .cells #[.slice A0_0 l0_0.length c0_0, .slice A0_1 l0_1.length c0_1, .slice (some ad146) l0_2.length c0_2] 32 (0, 0)) (have z0_ := BK143; Ze) hb); have n1_ := Aside0.mk (below_step (have z0_ := GE143; Zf) hb); have n2_ := Aside0.mk (hbox); have n3_ := Aside0.mk (((have z0_ := GE143; Zg) : w.heap.size ≤ gb147)); have n4_ := Aside0.mk (((have z0_ := GE143; Zg) : w.heap.size ≤ gb147)); have n5_ := Aside0.mk (((have z0_ := BK143; Zaq) : gb143 ≠ gb147)); have n6_ := Aside0.mk (((have z0_ := BK143; Zar) : gb147 ≠ gb143)); clear BK143; clear HB; have BK143 := n0_; have HB := n1_; have BK147 := n2_; have GW147 := n3_; have GE147 := n4_; have NB143_147 := n5_; have NB147_143 := n6_; clear n0_ n1_ n2_ n3_ n4_ n5_ n6_; clear hb hbox hg; have hnb23 := NB147_143.out; have hnc23 := NB143_147.out; obtain ⟨hcz24_0, hcz24_1, hcz24_2, hcz24_3, hfz24_0, hfz24_1, hfz24_2, hfz24_3⟩ := cz4 BK147; obtain ⟨hcz25_0, hcz25_1, hcz25_2, hfz25_0, hfz25_1, hfz25_2⟩ := cz3 BK143) | ((with_reducible refine gate_callee (f := 93) rfl ?_); refine goesL_ (some 39) rfl rfl Try.func93 Zj rfl #[.slice A0_0 l0_0.length c0_0, .int .i64 ((rd_T43 l0_2 x3_2).f0), .int .i64 ((rd_T43 l0_2 x3_2).f1)] rfl Zo ?_; (with_reducible refine (spec_l07Has.calls _ _ l0_0 ((rd_T43 l0_2 x3_2).f0) ((rd_T43 l0_2 x3_2).f1) true _ ?side1 ?side2 A17.out).mono ?_); (case side1 => exact Kd.C_below HR0_0.out (have z0_ := GE143; have z1_ := GE147; Zh)); (case side2 => exact HC0_0.out); rintro e w' ⟨rfl, ⟨nd, rfl⟩⟩; refine ⟨_, rfl, ?_⟩) | (go_at_call 94; (with_reducible refine (spec_l03Find.calls k2 _ _ l0_1 ((rd_T43 l0_2 x3_2).f2) t149 _ ?side1 ?side2 A19.out).mono ?_); (case side1 => exact Kd.C_below HR0_1.out (have z0_ := GE143; have z1_ := GE147; Zh)); (case side2 => exact HC0_1.out); rintro e w' ⟨rfl, ⟨nd, rfl⟩⟩))
          go_ret
          exact ⟨Zk, (have z0_ := GE143; have z1_ := GE147; Zh)⟩
         ·rw [if_neg c20] at H
          have c20b0 := decide_eq_false c20
          clear c20
          replace H := Option.bind_eq_some_iff.mp H
          obtain ⟨t150, A260, H⟩ := H
          have A26 := Aside0.mk A260
          clear A260
          by_cases c27 : t150 = true
          ·subst c27
           have H1 : ((spec_l08Time.f k2 l0_0 l0_1 l0_2 ((rd_T43 l0_2 x3_2).f0) ((rd_T43 l0_2 x3_2).f1) ((rd_T43 l0_2 x3_2).f2) ((rd_T43 l0_2 x3_2).f3)).bind fun t151 => (if t151 < 0 then (some false) else (spec_IsShow.l0 k2 (wrap64 (x3_2 + 1)) l0_0 l0_1 l0_2))) = some r := by rw [if_pos rfl] at H; exact H
           clear H
           have H := H1
           clear H1
           replace H := Option.bind_eq_some_iff.mp H
           obtain ⟨t151, A280, H⟩ := H
           have A28 := Aside0.mk A280
           clear A280
           by_cases c29 : t151 < 0
           ·rw [if_pos c29] at H
            have c29b0 := decide_eq_true c29
            clear c29
            obtain rfl := Option.some.inj H
            obtain ⟨hcz30_0, hcz30_1, hcz30_2, hfz30_0, hfz30_1, hfz30_2⟩ := cz3 BK143
            have p146 : 0 ≤ (x3_2 : Int) := of_decide_eq_true Zp
            have q146 : x3_2 < (l0_2.length : Int) := of_decide_eq_true Zp
            obtain ⟨ad146, e146, hx146_0, hx146_1, hx146_2, hx146_3⟩ := at_T43 HR0_2.out x3_2 p146 q146
            cases e146
            replace hx146_0 := cbH HB hx146_0
            replace hx146_1 := cbH HB hx146_1
            replace hx146_2 := cbH HB hx146_2
            replace hx146_3 := cbH HB hx146_3
            replace p146 := eq_true p146
            replace q146 := eq_true q146
            go_wp2_with (first | ((with_reducible refine gate_dst (N := 4) rfl ?_); (try (refine gate_guard (by rfl) ?_; dsimp only)); refine boxZ 4 #[.int .i64 0, .int .i64 0, .string (⟨#[]⟩ : ByteArray), .int .i64 0] 43 ?_; intro gb147 hg w31 hbox hb; have n0_ := Aside0.mk (blk_below (g := gb143) (o := .cells #[.slice A0_0 l0_0.length c0_0, .slice A0_1 l0_1.length c0_1, .slice (some ad146) l0_2.length c0_2] 32 (0, 0)) (have z0_ := BK143; Ze) hb); have n1_ := Aside0.mk (below_step (have z0_ := GE143; Zf) hb); have n2_ := Aside0.mk (hbox); have n3_ := Aside0.mk (((have z0_ := GE143; Zg) : w.heap.size ≤ gb147)); have n4_ := Aside0.mk (((have z0_ := GE143; Zg) : w.heap.size ≤ gb147)); have n5_ := Aside0.mk (((have z0_ := BK143; Zaq) : gb143 ≠ gb147)); have n6_ := Aside0.mk (((have z0_ := BK143; Zar) : gb147 ≠ gb143)); clear BK143; clear HB; have BK143 := n0_; have HB := n1_; have BK147 := n2_; have GW147 := n3_; have GE147 := n4_; have NB143_147 := n5_; have NB147_143 := n6_; clear n0_ n1_ n2_ n3_ n4_ n5_ n6_; clear hb hbox hg; have hnb32 := NB147_143.out; have hnc32 := NB143_147.out; obtain ⟨hcz33_0, hcz33_1, hcz33_2, hcz33_3, hfz33_0, hfz33_1, hfz33_2, hfz33_3⟩ := cz4 BK147; obtain ⟨hcz34_0, hcz34_1, hcz34_2, hfz34_0, hfz34_1, hfz34_2⟩ := cz3 BK143) | ((with_reducible refine gate_callee (f := 93) rfl ?_); refine goesL_ (some 39) rfl rfl Try.func93 Zj rfl #[.slice A0_0 l0_0.length c0_0, .int .i64 ((rd_T43 l0_2 x3_2).f0), .int .i64 ((rd_T43 l0_2 x3_2).f1)] rfl Zo ?_; (with_reducible refine (spec_l07Has.calls _ _ l0_0 ((rd_T43 l0_2 x3_2).f0) ((rd_T43 l0_2 x3_2).f1) true _ ?side1 ?side2 A17.out).mono ?_); (case side1 => exact Kd.C_below HR0_0.out (have z0_ := GE143; have z1_ := GE147; Zh)); (case side2 => exact HC0_0.out); rintro e w' ⟨rfl, ⟨nd, rfl⟩⟩; refine ⟨_, rfl, ?_⟩) | (go_at_call 94; (with_reducible refine (spec_l03Find.calls k2 _ _ l0_1 ((rd_T43 l0_2 x3_2).f2) t149 _ ?side1 ?side2 A19.out).mono ?_); (case side1 => exact Kd.C_below HR0_1.out (have z0_ := GE143; have z1_ := GE147; Zh)); (case side2 => exact HC0_1.out); rintro e w' ⟨rfl, ⟨nd, rfl⟩⟩) | (go_at_call 68; (with_reducible refine (spec_l01In.calls ((rd_T43 l0_2 x3_2).f3) 0 11 true _ A26.out).mono ?_); rintro e w' ⟨rfl, ⟨nd, rfl⟩⟩) | (go_at_call 95; (with_reducible refine (spec_l08Time.calls k2 _ _ l0_0 _ _ l0_1 _ _ l0_2 ((rd_T43 l0_2 x3_2).f0) ((rd_T43 l0_2 x3_2).f1) ((rd_T43 l0_2 x3_2).f2) ((rd_T43 l0_2 x3_2).f3) t151 _ ?side1 ?side2 ?side3 ?side4 ?side5 ?side6 A28.out).mono ?_); (case side1 => exact Kd.C_below HR0_0.out (have z0_ := GE143; have z1_ := GE147; Zh)); (case side2 => exact HC0_0.out); (case side3 => exact Kd.C_below HR0_1.out (have z0_ := GE143; have z1_ := GE147; Zh)); (case side4 => exact HC0_1.out); (case side5 => exact Kd.C_below HR0_2.out (have z0_ := GE143; have z1_ := GE147; Zh)); (case side6 => exact HC0_2.out); rintro e w35 ⟨rfl, hb⟩; have n0_ := Aside0.mk (blk_below (g := gb143) (o := .cells #[.slice A0_0 l0_0.length c0_0, .slice A0_1 l0_1.length c0_1, .slice (some ad146) l0_2.length c0_2] 32 (0, 0)) (have z0_ := NB143_147; have z1_ := BK143; Zas) hb); have n1_ := Aside0.mk (blk_below (g := gb147) (o := .cells #[.int .i64 ((rd_T43 l0_2 x3_2).f0), .int .i64 ((rd_T43 l0_2 x3_2).f1), .string ((rd_T43 l0_2 x3_2).f2), .int .i64 ((rd_T43 l0_2 x3_2).f3)] 43 (0, 0)) (have z0_ := BK147; Zat) hb); have n2_ := Aside0.mk (below_step (have z0_ := GE143; have z1_ := GE147; Zh) hb); clear BK143; clear BK147; clear HB; have BK143 := n0_; have BK147 := n1_; have HB := n2_; clear n0_ n1_ n2_; (try clear hb); (try clear hb2); (try clear hk); (try clear hi)))
            go_ret
            exact ⟨Zk, (have z0_ := GE143; have z1_ := GE147; Zh)⟩
           ·rw [if_neg c29] at H
            have c29b0 := decide_eq_false c29
            clear c29
            have H' := Aside0.mk H
            clear H
            obtain ⟨hcz36_0, hcz36_1, hcz36_2, hfz36_0, hfz36_1, hfz36_2⟩ := cz3 BK143
            have p146 : 0 ≤ (x3_2 : Int) := of_decide_eq_true Zp
            have q146 : x3_2 < (l0_2.length : Int) := of_decide_eq_true Zp
            obtain ⟨ad146, e146, hx146_0, hx146_1, hx146_2, hx146_3⟩ := at_T43 HR0_2.out x3_2 p146 q146
            cases e146
            replace hx146_0 := cbH HB hx146_0
            replace hx146_1 := cbH HB hx146_1
            replace hx146_2 := cbH HB hx146_2
            replace hx146_3 := cbH HB hx146_3
            replace p146 := eq_true p146
            replace q146 := eq_true q146
            go_wp2_with (first | ((with_reducible refine gate_dst (N := 4) rfl ?_); (try (refine gate_guard (by rfl) ?_; dsimp only)); refine boxZ 4 #[.int .i64 0, .int .i64 0, .string (⟨#[]⟩ : ByteArray), .int .i64 0] 43 ?_; intro gb147 hg w37 hbox hb; have n0_ := Aside0.mk (blk_below (g := gb143) (o := .cells #[.slice A0_0 l0_0.length c0_0, .slice A0_1 l0_1.length c0_1, .slice (some ad146) l0_2.length c0_2] 32 (0, 0)) (have z0_ := BK143; Ze) hb); have n1_ := Aside0.mk (below_step (have z0_ := GE143; Zf) hb); have n2_ := Aside0.mk (hbox); have n3_ := Aside0.mk (((have z0_ := GE143; Zg) : w.heap.size ≤ gb147)); have n4_ := Aside0.mk (((have z0_ := GE143; Zg) : w.heap.size ≤ gb147)); have n5_ := Aside0.mk (((have z0_ := BK143; Zaq) : gb143 ≠ gb147)); have n6_ := Aside0.mk (((have z0_ := BK143; Zar) : gb147 ≠ gb143)); clear BK143; clear HB; have BK143 := n0_; have HB := n1_; have BK147 := n2_; have GW147 := n3_; have GE147 := n4_; have NB143_147 := n5_; have NB147_143 := n6_; clear n0_ n1_ n2_ n3_ n4_ n5_ n6_; clear hb hbox hg; have hnb38 := NB147_143.out; have hnc38 := NB143_147.out; obtain ⟨hcz39_0, hcz39_1, hcz39_2, hcz39_3, hfz39_0, hfz39_1, hfz39_2, hfz39_3⟩ := cz4 BK147; obtain ⟨hcz40_0, hcz40_1, hcz40_2, hfz40_0, hfz40_1, hfz40_2⟩ := cz3 BK143) | ((with_reducible refine gate_callee (f := 93) rfl ?_); refine goesL_ (some 39) rfl rfl Try.func93 Zj rfl #[.slice A0_0 l0_0.length c0_0, .int .i64 ((rd_T43 l0_2 x3_2).f0), .int .i64 ((rd_T43 l0_2 x3_2).f1)] rfl Zo ?_; (with_reducible refine (spec_l07Has.calls _ _ l0_0 ((rd_T43 l0_2 x3_2).f0) ((rd_T43 l0_2 x3_2).f1) true _ ?side1 ?side2 A17.out).mono ?_); (case side1 => exact Kd.C_below HR0_0.out (have z0_ := GE143; have z1_ := GE147; Zh)); (case side2 => exact HC0_0.out); rintro e w' ⟨rfl, ⟨nd, rfl⟩⟩; refine ⟨_, rfl, ?_⟩) | (go_at_call 94; (with_reducible refine (spec_l03Find.calls k2 _ _ l0_1 ((rd_T43 l0_2 x3_2).f2) t149 _ ?side1 ?side2 A19.out).mono ?_); (case side1 => exact Kd.C_below HR0_1.out (have z0_ := GE143; have z1_ := GE147; Zh)); (case side2 => exact HC0_1.out); rintro e w' ⟨rfl, ⟨nd, rfl⟩⟩) | (go_at_call 68; (with_reducible refine (spec_l01In.calls ((rd_T43 l0_2 x3_2).f3) 0 11 true _ A26.out).mono ?_); rintro e w' ⟨rfl, ⟨nd, rfl⟩⟩) | (go_at_call 95; (with_reducible refine (spec_l08Time.calls k2 _ _ l0_0 _ _ l0_1 _ _ l0_2 ((rd_T43 l0_2 x3_2).f0) ((rd_T43 l0_2 x3_2).f1) ((rd_T43 l0_2 x3_2).f2) ((rd_T43 l0_2 x3_2).f3) t151 _ ?side1 ?side2 ?side3 ?side4 ?side5 ?side6 A28.out).mono ?_); (case side1 => exact Kd.C_below HR0_0.out (have z0_ := GE143; have z1_ := GE147; Zh)); (case side2 => exact HC0_0.out); (case side3 => exact Kd.C_below HR0_1.out (have z0_ := GE143; have z1_ := GE147; Zh)); (case side4 => exact HC0_1.out); (case side5 => exact Kd.C_below HR0_2.out (have z0_ := GE143; have z1_ := GE147; Zh)); (case side6 => exact HC0_2.out); rintro e w41 ⟨rfl, hb⟩; have n0_ := Aside0.mk (blk_below (g := gb143) (o := .cells #[.slice A0_0 l0_0.length c0_0, .slice A0_1 l0_1.length c0_1, .slice (some ad146) l0_2.length c0_2] 32 (0, 0)) (have z0_ := NB143_147; have z1_ := BK143; Zas) hb); have n1_ := Aside0.mk (blk_below (g := gb147) (o := .cells #[.int .i64 ((rd_T43 l0_2 x3_2).f0), .int .i64 ((rd_T43 l0_2 x3_2).f1), .string ((rd_T43 l0_2 x3_2).f2), .int .i64 ((rd_T43 l0_2 x3_2).f3)] 43 (0, 0)) (have z0_ := BK147; Zat) hb); have n2_ := Aside0.mk (below_step (have z0_ := GE143; have z1_ := GE147; Zh) hb); clear BK143; clear BK147; clear HB; have BK143 := n0_; have BK147 := n1_; have HB := n2_; clear n0_ n1_ n2_; (try clear hb); (try clear hb2); (try clear hk); (try clear hi)))
            go_roundg k2
            case measure => have := HJ1.out; have := HK2.out; omega
            case rel => exact ⟨(wrap64 (x3_2 + 1)), Za, H', ⟨by have := HJ1.out; have := HK2.out; omega⟩, ⟨(have z0_ := BK143; Ze)⟩, ⟨(have z0_ := GE143; have z1_ := GE147; Zh)⟩⟩
          ·replace c27 := Bool.eq_false_iff.mpr c27
           subst c27
           have H1 : (some false) = some r := by rw [if_neg (show ¬ (false = true) by decide)] at H; exact H
           clear H
           have H := H1
           clear H1
           obtain rfl := Option.some.inj H
           obtain ⟨hcz42_0, hcz42_1, hcz42_2, hfz42_0, hfz42_1, hfz42_2⟩ := cz3 BK143
           have p146 : 0 ≤ (x3_2 : Int) := of_decide_eq_true Zp
           have q146 : x3_2 < (l0_2.length : Int) := of_decide_eq_true Zp
           obtain ⟨ad146, e146, hx146_0, hx146_1, hx146_2, hx146_3⟩ := at_T43 HR0_2.out x3_2 p146 q146
           cases e146
           replace hx146_0 := cbH HB hx146_0
           replace hx146_1 := cbH HB hx146_1
           replace hx146_2 := cbH HB hx146_2
           replace hx146_3 := cbH HB hx146_3
           replace p146 := eq_true p146
           replace q146 := eq_true q146
           go_wp2_with (first | ((with_reducible refine gate_dst (N := 4) rfl ?_); (try (refine gate_guard (by rfl) ?_; dsimp only)); refine boxZ 4 #[.int .i64 0, .int .i64 0, .string (⟨#[]⟩ : ByteArray), .int .i64 0] 43 ?_; intro gb147 hg w43 hbox hb; have n0_ := Aside0.mk (blk_below (g := gb143) (o := .cells #[.slice A0_0 l0_0.length c0_0, .slice A0_1 l0_1.length c0_1, .slice (some ad146) l0_2.length c0_2] 32 (0, 0)) (have z0_ := BK143; Ze) hb); have n1_ := Aside0.mk (below_step (have z0_ := GE143; Zf) hb); have n2_ := Aside0.mk (hbox); have n3_ := Aside0.mk (((have z0_ := GE143; Zg) : w.heap.size ≤ gb147)); have n4_ := Aside0.mk (((have z0_ := GE143; Zg) : w.heap.size ≤ gb147)); have n5_ := Aside0.mk (((have z0_ := BK143; Zaq) : gb143 ≠ gb147)); have n6_ := Aside0.mk (((have z0_ := BK143; Zar) : gb147 ≠ gb143)); clear BK143; clear HB; have BK143 := n0_; have HB := n1_; have BK147 := n2_; have GW147 := n3_; have GE147 := n4_; have NB143_147 := n5_; have NB147_143 := n6_; clear n0_ n1_ n2_ n3_ n4_ n5_ n6_; clear hb hbox hg; have hnb44 := NB147_143.out; have hnc44 := NB143_147.out; obtain ⟨hcz45_0, hcz45_1, hcz45_2, hcz45_3, hfz45_0, hfz45_1, hfz45_2, hfz45_3⟩ := cz4 BK147; obtain ⟨hcz46_0, hcz46_1, hcz46_2, hfz46_0, hfz46_1, hfz46_2⟩ := cz3 BK143) | ((with_reducible refine gate_callee (f := 93) rfl ?_); refine goesL_ (some 39) rfl rfl Try.func93 Zj rfl #[.slice A0_0 l0_0.length c0_0, .int .i64 ((rd_T43 l0_2 x3_2).f0), .int .i64 ((rd_T43 l0_2 x3_2).f1)] rfl Zo ?_; (with_reducible refine (spec_l07Has.calls _ _ l0_0 ((rd_T43 l0_2 x3_2).f0) ((rd_T43 l0_2 x3_2).f1) true _ ?side1 ?side2 A17.out).mono ?_); (case side1 => exact Kd.C_below HR0_0.out (have z0_ := GE143; have z1_ := GE147; Zh)); (case side2 => exact HC0_0.out); rintro e w' ⟨rfl, ⟨nd, rfl⟩⟩; refine ⟨_, rfl, ?_⟩) | (go_at_call 94; (with_reducible refine (spec_l03Find.calls k2 _ _ l0_1 ((rd_T43 l0_2 x3_2).f2) t149 _ ?side1 ?side2 A19.out).mono ?_); (case side1 => exact Kd.C_below HR0_1.out (have z0_ := GE143; have z1_ := GE147; Zh)); (case side2 => exact HC0_1.out); rintro e w' ⟨rfl, ⟨nd, rfl⟩⟩) | (go_at_call 68; (with_reducible refine (spec_l01In.calls ((rd_T43 l0_2 x3_2).f3) 0 11 false _ A26.out).mono ?_); rintro e w' ⟨rfl, ⟨nd, rfl⟩⟩))
           go_ret
           exact ⟨Zk, (have z0_ := GE143; have z1_ := GE147; Zh)⟩
        ·replace c18 := Bool.eq_false_iff.mpr c18
         subst c18
         have H1 : (some false) = some r := by rw [if_neg (show ¬ (false = true) by decide)] at H; exact H
         clear H
         have H := H1
         clear H1
         obtain rfl := Option.some.inj H
         obtain ⟨hcz47_0, hcz47_1, hcz47_2, hfz47_0, hfz47_1, hfz47_2⟩ := cz3 BK143
         have p146 : 0 ≤ (x3_2 : Int) := of_decide_eq_true Zp
         have q146 : x3_2 < (l0_2.length : Int) := of_decide_eq_true Zp
         obtain ⟨ad146, e146, hx146_0, hx146_1, hx146_2, hx146_3⟩ := at_T43 HR0_2.out x3_2 p146 q146
         cases e146
         replace hx146_0 := cbH HB hx146_0
         replace hx146_1 := cbH HB hx146_1
         replace hx146_2 := cbH HB hx146_2
         replace hx146_3 := cbH HB hx146_3
         replace p146 := eq_true p146
         replace q146 := eq_true q146
         go_wp2_with (first | ((with_reducible refine gate_dst (N := 4) rfl ?_); (try (refine gate_guard (by rfl) ?_; dsimp only)); refine boxZ 4 #[.int .i64 0, .int .i64 0, .string (⟨#[]⟩ : ByteArray), .int .i64 0] 43 ?_; intro gb147 hg w48 hbox hb; have n0_ := Aside0.mk (blk_below (g := gb143) (o := .cells #[.slice A0_0 l0_0.length c0_0, .slice A0_1 l0_1.length c0_1, .slice (some ad146) l0_2.length c0_2] 32 (0, 0)) (have z0_ := BK143; Ze) hb); have n1_ := Aside0.mk (below_step (have z0_ := GE143; Zf) hb); have n2_ := Aside0.mk (hbox); have n3_ := Aside0.mk (((have z0_ := GE143; Zg) : w.heap.size ≤ gb147)); have n4_ := Aside0.mk (((have z0_ := GE143; Zg) : w.heap.size ≤ gb147)); have n5_ := Aside0.mk (((have z0_ := BK143; Zaq) : gb143 ≠ gb147)); have n6_ := Aside0.mk (((have z0_ := BK143; Zar) : gb147 ≠ gb143)); clear BK143; clear HB; have BK143 := n0_; have HB := n1_; have BK147 := n2_; have GW147 := n3_; have GE147 := n4_; have NB143_147 := n5_; have NB147_143 := n6_; clear n0_ n1_ n2_ n3_ n4_ n5_ n6_; clear hb hbox hg; have hnb49 := NB147_143.out; have hnc49 := NB143_147.out; obtain ⟨hcz50_0, hcz50_1, hcz50_2, hcz50_3, hfz50_0, hfz50_1, hfz50_2, hfz50_3⟩ := cz4 BK147; obtain ⟨hcz51_0, hcz51_1, hcz51_2, hfz51_0, hfz51_1, hfz51_2⟩ := cz3 BK143) | ((with_reducible refine gate_callee (f := 93) rfl ?_); refine goesL_ (some 39) rfl rfl Try.func93 Zj rfl #[.slice A0_0 l0_0.length c0_0, .int .i64 ((rd_T43 l0_2 x3_2).f0), .int .i64 ((rd_T43 l0_2 x3_2).f1)] rfl Zo ?_; (with_reducible refine (spec_l07Has.calls _ _ l0_0 ((rd_T43 l0_2 x3_2).f0) ((rd_T43 l0_2 x3_2).f1) false _ ?side1 ?side2 A17.out).mono ?_); (case side1 => exact Kd.C_below HR0_0.out (have z0_ := GE143; have z1_ := GE147; Zh)); (case side2 => exact HC0_0.out); rintro e w' ⟨rfl, ⟨nd, rfl⟩⟩; refine ⟨_, rfl, ?_⟩))
         go_ret
         exact ⟨Zk, (have z0_ := GE143; have z1_ := GE147; Zh)⟩
       ·rw [if_neg c16] at H
        exact absurd H (by simp)
      ·rw [if_neg c15] at H
       have c15b0 := decide_eq_false c15
       clear c15
       obtain rfl := Option.some.inj H
       obtain ⟨hcz52_0, hcz52_1, hcz52_2, hfz52_0, hfz52_1, hfz52_2⟩ := cz3 BK143
       go_wp2
       go_ret
       exact ⟨Zk, (have z0_ := GE143; Zf)⟩
def spec_l03Window.f (a0_0 : ByteArray) (a0_1 : Int) (a0_2 : Int) (a0_3 : Int) (a0_4 : Int) (a0_5 : Int) (a0_6 : Int) (a0_7 : Int) (a0_8 : Int) (a1 : Int) (a2 : Int) : Option (List Int) := some (([wrap64 ((wrap64 ((wrap64 (a1 + a0_3)) + (wrap64 (a2 * a0_6)))) - a0_4), wrap64 ((wrap64 ((wrap64 (a1 + a0_3)) + (wrap64 (a2 * a0_6)))) + a0_4)] : List Int))
set_option maxHeartbeats 8000000 in
set_option maxRecDepth 100000 in
theorem spec_l03Window.calls (a0_0 : ByteArray) (a0_1 : Int) (a0_2 : Int) (a0_3 : Int) (a0_4 : Int) (a0_5 : Int) (a0_6 : Int) (a0_7 : Int) (a0_8 : Int) (a1 : Int) (a2 : Int) (r : List Int) (w : World) (h : spec_l03Window.f a0_0 a0_1 a0_2 a0_3 a0_4 a0_5 a0_6 a0_7 a0_8 a1 a2 = some r) :
  Calls Try.prog 99 #[.agg #[.string a0_0, .int .i64 a0_1, .int .i64 a0_2, .int .i64 a0_3, .int .i64 a0_4, .int .i64 a0_5, .int .i64 a0_6, .int .i64 a0_7, .int .i64 a0_8], .int .i64 a1, .int .i64 a2] w fun e w' => ∃ v0_ : Value, e = .returned (v0_) ∧ Kd.R (Kd.int .i64) 2 w' w.heap.size (fun _ => True) v0_ r ∧ Below w.heap.size w w' := by
 have hu92 := Try.underlying92
 have HB := Aside0.mk (Below.refl w.heap.size w)
 have H : (some (([wrap64 ((wrap64 ((wrap64 (a1 + a0_3)) + (wrap64 (a2 * a0_6)))) - a0_4), wrap64 ((wrap64 ((wrap64 (a1 + a0_3)) + (wrap64 (a2 * a0_6)))) + a0_4)] : List Int))) = some r := h
 clear h
 obtain ⟨y710, hy710⟩ : ∃ y_ : List Int, y_ = (([wrap64 ((wrap64 ((wrap64 (a1 + a0_3)) + (wrap64 (a2 * a0_6)))) - a0_4), wrap64 ((wrap64 ((wrap64 (a1 + a0_3)) + (wrap64 (a2 * a0_6)))) + a0_4)] : List Int)) := ⟨_, rfl⟩
 replace H : (some y710) = some r := by (try rw [hy710]); first | with_reducible exact H | with_reducible exact (Option.bind_some _ _).symm.trans H | exact H
 have Ny710 := Aside0.mk hy710
 clear hy710
 obtain rfl := Option.some.inj H
 go_enter Try.func99, Try.ntmps99
 go_wp2_with (first | ((with_reducible refine gate_dst (N := 3) rfl ?_); refine boxZ 3 #[.string a0_0, .int .i64 a0_1, .int .i64 a0_2, .int .i64 a0_3, .int .i64 a0_4, .int .i64 a0_5, .int .i64 a0_6, .int .i64 a0_7, .int .i64 a0_8] 92 ?_; intro gb709 hg w4 hbox hb; have n0_ := Aside0.mk (below_step Zc hb); have n1_ := Aside0.mk (hbox); have n2_ := Aside0.mk ((Zd : w.heap.size ≤ gb709)); have n3_ := Aside0.mk ((Zd : w.heap.size ≤ gb709)); clear HB; have HB := n0_; have BK709 := n1_; have GW709 := n2_; have GE709 := n3_; clear n0_ n1_ n2_ n3_; clear hb hbox hg; obtain ⟨hcz5_0, hcz5_1, hcz5_2, hcz5_3, hcz5_4, hcz5_5, hcz5_6, hcz5_7, hcz5_8, hfz5_0, hfz5_1, hfz5_2, hfz5_3, hfz5_4, hfz5_5, hfz5_6, hfz5_7, hfz5_8⟩ := cz9 BK709) | ((with_reducible refine gate_dst (N := 25) rfl ?_); refine Kd.R_lit (Kd.int .i64) _ 2 ?hg (N := 25) ?hd (xs := ([wrap64 ((wrap64 ((wrap64 (a1 + a0_3)) + (wrap64 (a2 * a0_6)))) - a0_4), wrap64 ((wrap64 ((wrap64 (a1 + a0_3)) + (wrap64 (a2 * a0_6)))) + a0_4)] : List Int)) (inner := [.int .i64 (wrap64 ((wrap64 ((wrap64 (a1 + a0_3)) + (wrap64 (a2 * a0_6)))) - a0_4)), .int .i64 (wrap64 ((wrap64 ((wrap64 (a1 + a0_3)) + (wrap64 (a2 * a0_6)))) + a0_4))]) (ok := fun _ => True) (okp := fun _ => True) ?hr ?hp (fun _ hk => hk) trivial (Below.refl _ _) (Nat.le_refl _) (by simp) ?_; (case hd => rfl); (case hg => rfl); (case hr => first | (go_simp; done) | (go_simp; rfl)); (case hp => exact (Reps.one (show Kd.M (Kd.int .i64) _ _ _ (wrap64 ((wrap64 ((wrap64 (a1 + a0_3)) + (wrap64 (a2 * a0_6)))) - a0_4)) [.int .i64 (wrap64 ((wrap64 ((wrap64 (a1 + a0_3)) + (wrap64 (a2 * a0_6)))) - a0_4))] from rfl) (Reps.one (show Kd.M (Kd.int .i64) _ _ _ (wrap64 ((wrap64 ((wrap64 (a1 + a0_3)) + (wrap64 (a2 * a0_6)))) + a0_4)) [.int .i64 (wrap64 ((wrap64 ((wrap64 (a1 + a0_3)) + (wrap64 (a2 * a0_6)))) + a0_4))] from rfl) (Reps.none _ _)))); intro v711 w6 ho7 hb hg_ hnew_; clear hg_ hnew_; (first | rw [← Ny710.out] at ho7 | (simp only [Int.reduceToNat] at ho7; rw [← Ny710.out] at ho7)); have n0_ := Aside0.mk (Kd.R_lower ho7 (below_size (have z0_ := GE709; Zf))); have n1_ := Aside0.mk (blk_below (g := gb709) (o := .cells #[.string a0_0, .int .i64 a0_1, .int .i64 a0_2, .int .i64 a0_3, .int .i64 a0_4, .int .i64 a0_5, .int .i64 a0_6, .int .i64 a0_7, .int .i64 a0_8] 92 (0, 0)) (have z0_ := BK709; Ze) hb); have n2_ := Aside0.mk (below_step (have z0_ := GE709; Zf) hb); clear BK709; clear HB; have HO712 := n0_; have BK709 := n1_; have HB := n2_; clear n0_ n1_ n2_; clear hb ho7))
 go_ret
 exact ⟨_, Zk, (have z0_ := HO712; Zq), (have z0_ := GE709; Zf)⟩
def spec_l09Cue.l0 : Nat → Int → List (List Int) → Int → List (S108) → List (S92) → List (S43) → Int → Int → ByteArray → Int → ByteArray → Int → Int → Int → Int → Int → Int → Int → Int → Option ((List (List Int)))
 | 0, _, _, _, _, _, _, _, _, _, _, _, _, _, _, _, _, _, _, _ => none
 | k + 1, x1, x7, x8, x714000, x714001, x714002, x716000, x716001, x716002, x716003, x719000, x719001, x719002, x719003, x719004, x719005, x719006, x719007, x719008 => if x8 < x719005 then ((spec_l08Time.f k x714000 x714001 x714002 x716000 x716001 x716002 x716003).bind fun t722 => ((spec_l03Window.f x719000 x719001 x719002 x719003 x719004 x719005 x719006 x719007 x719008 t722 x8).bind fun t723 => (if 0 < (t723.length : Int) then (if 1 < (t723.length : Int) then (if x7.length < 5864062014805 then (spec_l09Cue.l0 k x1 (x7 ++ [(([rd t723 0, rd t723 1, x1] : List Int))]) (wrap64 (x8 + 1)) x714000 x714001 x714002 x716000 x716001 x716002 x716003 x719000 x719001 x719002 x719003 x719004 x719005 x719006 x719007 x719008) else (none)) else (none)) else (none)))) else (some x7)
def spec_l09Cue.f (k : Nat) (l0_0 : List (S108)) (l0_1 : List (S92)) (l0_2 : List (S43)) (a1 : Int) : Option ((List (List Int))) := if 0 ≤ a1 then (if a1 < (l0_2.length : Int) then ((spec_l03Find.f k l0_1 ((rd_T43 l0_2 a1).f2)).bind fun t716 => (if 0 ≤ t716 then (if t716 < (l0_1.length : Int) then (spec_l09Cue.l0 k a1 (([] : List (List Int))) 0 l0_0 l0_1 l0_2 ((rd_T43 l0_2 a1).f0) ((rd_T43 l0_2 a1).f1) ((rd_T43 l0_2 a1).f2) ((rd_T43 l0_2 a1).f3) ((rd_T92 l0_1 t716).f0) ((rd_T92 l0_1 t716).f1) ((rd_T92 l0_1 t716).f2) ((rd_T92 l0_1 t716).f3) ((rd_T92 l0_1 t716).f4) ((rd_T92 l0_1 t716).f5) ((rd_T92 l0_1 t716).f6) ((rd_T92 l0_1 t716).f7) ((rd_T92 l0_1 t716).f8)) else (none)) else (none))) else (none)) else (none)
def spec_l09Cue.T2 : Bool × List (List Nat × List Nat) := (true, [([], []), ([0], [0]), ([], []), ([2], [2]), ([], []), ([4], [4]), ([3, 5], [3, 5]), ([1, 6], [1, 6]), ([7], [7]), ([], []), ([9, 8, 6, 0, 1, 2, 3, 4, 5, 6, 7, 8, 9], [8, 9])])
def spec_l09Cue.B2 : List Nat := [0, 1, 0, 4, 0, 16, 60, 127, 255, 0, 1023]
theorem spec_l09Cue.tab2 : rtab .any (opsOf Try.f106 2) = spec_l09Cue.T2 := by kernel_rfl
theorem spec_l09Cue.bits2 : waitsOk spec_l09Cue.T2.2 spec_l09Cue.B2 = true := by kernel_rfl
def spec_l09Cue.T8 : Bool × List (List Nat × List Nat) := (true, [([], []), ([], []), ([1], [1]), ([2], [2]), ([], []), ([4], [4]), ([5], [5]), ([], []), ([3, 6, 7], [3, 6, 7]), ([8], [8]), ([0, 9], [0, 9]), ([10, 10, 0, 1, 2, 3, 4, 5, 6, 7, 8, 9, 10], [0, 10])])
def spec_l09Cue.B8 : List Nat := [0, 0, 2, 6, 0, 16, 48, 0, 254, 510, 1023, 2047]
theorem spec_l09Cue.tab8 : rtab .any (opsOf Try.f106 8) = spec_l09Cue.T8 := by kernel_rfl
theorem spec_l09Cue.bits8 : waitsOk spec_l09Cue.T8.2 spec_l09Cue.B8 = true := by kernel_rfl
set_option maxHeartbeats 8000000 in
set_option maxRecDepth 100000 in
theorem spec_l09Cue.calls (k : Nat) (A0_0 : Option Addr) (c0_0 : Nat) (l0_0 : List (S108)) (A0_1 : Option Addr) (c0_1 : Nat) (l0_1 : List (S92)) (A0_2 : Option Addr) (c0_2 : Nat) (l0_2 : List (S43)) (a1 : Int) (r : List (List Int)) (w : World) (hr0_0 : Kd.C k108 w A0_0 l0_0.length l0_0) (hc0_0 : l0_0.length ≤ c0_0) (hr0_1 : Kd.C k92 w A0_1 l0_1.length l0_1) (hc0_1 : l0_1.length ≤ c0_1) (hr0_2 : Kd.C k43 w A0_2 l0_2.length l0_2) (hc0_2 : l0_2.length ≤ c0_2) (h : spec_l09Cue.f k l0_0 l0_1 l0_2 a1 = some r) :
  Calls Try.prog 106 #[.agg #[.slice A0_0 l0_0.length c0_0, .slice A0_1 l0_1.length c0_1, .slice A0_2 l0_2.length c0_2], .int .i64 a1] w fun e w' => ∃ v0_ : Value, e = .returned (v0_) ∧ Kd.S (Kd.slice 2 (Kd.int .i64)) 61 w' w.heap.size (fun _ => True) v0_ r ∧ Below w.heap.size w w' := by
 have hu32 := Try.underlying32
 have hu43 := Try.underlying43
 have hu92 := Try.underlying92
 have HR0_0 := Aside0.mk hr0_0
 have HC0_0 := Aside0.mk hc0_0
 clear hr0_0 hc0_0
 have HR0_1 := Aside0.mk hr0_1
 have HC0_1 := Aside0.mk hc0_1
 clear hr0_1 hc0_1
 have HR0_2 := Aside0.mk hr0_2
 have HC0_2 := Aside0.mk hc0_2
 clear hr0_2 hc0_2
 have HB := Aside0.mk (Below.refl w.heap.size w)
 have H : (if 0 ≤ a1 then (if a1 < (l0_2.length : Int) then ((spec_l03Find.f k l0_1 ((rd_T43 l0_2 a1).f2)).bind fun t716 => (if 0 ≤ t716 then (if t716 < (l0_1.length : Int) then (spec_l09Cue.l0 k a1 (([] : List (List Int))) 0 l0_0 l0_1 l0_2 ((rd_T43 l0_2 a1).f0) ((rd_T43 l0_2 a1).f1) ((rd_T43 l0_2 a1).f2) ((rd_T43 l0_2 a1).f3) ((rd_T92 l0_1 t716).f0) ((rd_T92 l0_1 t716).f1) ((rd_T92 l0_1 t716).f2) ((rd_T92 l0_1 t716).f3) ((rd_T92 l0_1 t716).f4) ((rd_T92 l0_1 t716).f5) ((rd_T92 l0_1 t716).f6) ((rd_T92 l0_1 t716).f7) ((rd_T92 l0_1 t716).f8)) else (none)) else (none))) else (none)) else (none)) = some r := h
 clear h
 by_cases c3 : 0 ≤ a1
 ·rw [if_pos c3] at H
  have c3b0 := decide_eq_true c3
  clear c3
  by_cases c4 : a1 < (l0_2.length : Int)
  ·rw [if_pos c4] at H
   have c4b0 := decide_eq_true c4
   clear c4
   replace H := Option.bind_eq_some_iff.mp H
   obtain ⟨t716, A50, H⟩ := H
   have A5 := Aside0.mk A50
   clear A50
   by_cases c6 : 0 ≤ t716
   ·rw [if_pos c6] at H
    have c6b0 := decide_eq_true c6
    clear c6
    by_cases c7 : t716 < (l0_1.length : Int)
    ·rw [if_pos c7] at H
     have c7b0 := decide_eq_true c7
     clear c7
     obtain ⟨y719, hy719⟩ : ∃ y_ : List (List Int), y_ = (([] : List (List Int))) := ⟨_, rfl⟩
     replace H : (spec_l09Cue.l0 k a1 y719 0 l0_0 l0_1 l0_2 ((rd_T43 l0_2 a1).f0) ((rd_T43 l0_2 a1).f1) ((rd_T43 l0_2 a1).f2) ((rd_T43 l0_2 a1).f3) ((rd_T92 l0_1 t716).f0) ((rd_T92 l0_1 t716).f1) ((rd_T92 l0_1 t716).f2) ((rd_T92 l0_1 t716).f3) ((rd_T92 l0_1 t716).f4) ((rd_T92 l0_1 t716).f5) ((rd_T92 l0_1 t716).f6) ((rd_T92 l0_1 t716).f7) ((rd_T92 l0_1 t716).f8)) = some r := by (try rw [hy719]); first | with_reducible exact H | with_reducible exact (Option.bind_some _ _).symm.trans H | exact H
     have Ny719 := Aside0.mk hy719
     clear hy719
     have H' := Aside0.mk H
     clear H
     go_enter Try.func106, Try.ntmps106
     try go_wp2_with (first | ((with_reducible refine gate_dst (N := 2) rfl ?_); refine boxZ 2 #[.slice A0_0 l0_0.length c0_0, .slice A0_1 l0_1.length c0_1, .slice A0_2 l0_2.length c0_2] 32 ?_; intro gb713 hg w8 hbox hb; have n0_ := Aside0.mk (below_step Zc hb); have n1_ := Aside0.mk (hbox); have n2_ := Aside0.mk ((Zd : w.heap.size ≤ gb713)); have n3_ := Aside0.mk ((Zd : w.heap.size ≤ gb713)); clear HB; have HB := n0_; have BK713 := n1_; have GW713 := n2_; have GE713 := n3_; clear n0_ n1_ n2_ n3_; clear hb hbox hg; obtain ⟨hcz9_0, hcz9_1, hcz9_2, hfz9_0, hfz9_1, hfz9_2⟩ := cz3 BK713; have p714 : 0 ≤ (a1 : Int) := of_decide_eq_true Zp; have q714 : a1 < (l0_2.length : Int) := of_decide_eq_true Zp; obtain ⟨ad714, e714, hx714_0, hx714_1, hx714_2, hx714_3⟩ := at_T43 HR0_2.out a1 p714 q714; cases e714; replace hx714_0 := cbH HB hx714_0; replace hx714_1 := cbH HB hx714_1; replace hx714_2 := cbH HB hx714_2; replace hx714_3 := cbH HB hx714_3; replace p714 := eq_true p714; replace q714 := eq_true q714) | ((with_reducible refine gate_dst (N := 5) rfl ?_); refine boxZ 5 #[.int .i64 0, .int .i64 0, .string (⟨#[]⟩ : ByteArray), .int .i64 0] 43 ?_; intro gb715 hg w10 hbox hb; have n0_ := Aside0.mk (blk_below (g := gb713) (o := .cells #[.slice A0_0 l0_0.length c0_0, .slice A0_1 l0_1.length c0_1, .slice (some ad714) l0_2.length c0_2] 32 (0, 0)) (have z0_ := BK713; Ze) hb); have n1_ := Aside0.mk (below_step (have z0_ := GE713; Zf) hb); have n2_ := Aside0.mk (hbox); have n3_ := Aside0.mk (((have z0_ := GE713; Zg) : w.heap.size ≤ gb715)); have n4_ := Aside0.mk (((have z0_ := GE713; Zg) : w.heap.size ≤ gb715)); have n5_ := Aside0.mk ((by rw [hg]; exact Nat.ne_of_lt (blk_lt (g := gb713) (o := .cells #[.slice A0_0 l0_0.length c0_0, .slice A0_1 l0_1.length c0_1, .slice (some ad714) l0_2.length c0_2] 32 (0, 0)) (have z0_ := BK713; Ze)) : gb713 ≠ gb715)); have n6_ := Aside0.mk ((by rw [hg]; exact Nat.ne_of_gt (blk_lt (g := gb713) (o := .cells #[.slice A0_0 l0_0.length c0_0, .slice A0_1 l0_1.length c0_1, .slice (some ad714) l0_2.length c0_2] 32 (0, 0)) (have z0_ := BK713; Ze)) : gb715 ≠ gb713)); clear BK713; clear HB; have BK713 := n0_; have HB := n1_; have BK715 := n2_; have GW715 := n3_; have GE715 := n4_; have NB713_715 := n5_; have NB715_713 := n6_; clear n0_ n1_ n2_ n3_ n4_ n5_ n6_; clear hb hbox hg; have hnb11 := NB715_713.out; have hnc11 := NB713_715.out; obtain ⟨hcz12_0, hcz12_1, hcz12_2, hcz12_3, hfz12_0, hfz12_1, hfz12_2, hfz12_3⟩ := cz4 BK715))
     have n0_ : Aside0 (((((w10.setCell ⟨gb715, 0, none⟩ (.int .i64 ((rd_T43 l0_2 a1).f0))).setCell ⟨gb715, 1, none⟩ (.int .i64 ((rd_T43 l0_2 a1).f1))).setCell ⟨gb715, 2, none⟩ (.string ((rd_T43 l0_2 a1).f2))).setCell ⟨gb715, 3, none⟩ (.int .i64 ((rd_T43 l0_2 a1).f3))).heap[gb713]? = some (.cells #[.slice A0_0 l0_0.length c0_0, .slice A0_1 l0_1.length c0_1, .slice (some ad714) l0_2.length c0_2] 32 (0, 0))) := ⟨by refine blk_far ?_ NB713_715.out _; refine blk_far ?_ NB713_715.out _; refine blk_far ?_ NB713_715.out _; refine blk_far ?_ NB713_715.out _; exact BK713.out⟩
     have n1_ : Aside0 (((((w10.setCell ⟨gb715, 0, none⟩ (.int .i64 ((rd_T43 l0_2 a1).f0))).setCell ⟨gb715, 1, none⟩ (.int .i64 ((rd_T43 l0_2 a1).f1))).setCell ⟨gb715, 2, none⟩ (.string ((rd_T43 l0_2 a1).f2))).setCell ⟨gb715, 3, none⟩ (.int .i64 ((rd_T43 l0_2 a1).f3))).heap[gb715]? = some (.cells #[.int .i64 ((rd_T43 l0_2 a1).f0), .int .i64 ((rd_T43 l0_2 a1).f1), .string ((rd_T43 l0_2 a1).f2), .int .i64 ((rd_T43 l0_2 a1).f3)] 43 (0, 0))) := ⟨by refine blk_put (cs := #[.int .i64 ((rd_T43 l0_2 a1).f0), .int .i64 ((rd_T43 l0_2 a1).f1), .string ((rd_T43 l0_2 a1).f2), .int .i64 0]) ?_ 3 _ rfl; refine blk_put (cs := #[.int .i64 ((rd_T43 l0_2 a1).f0), .int .i64 ((rd_T43 l0_2 a1).f1), .string (⟨#[]⟩ : ByteArray), .int .i64 0]) ?_ 2 _ rfl; refine blk_put (cs := #[.int .i64 ((rd_T43 l0_2 a1).f0), .int .i64 0, .string (⟨#[]⟩ : ByteArray), .int .i64 0]) ?_ 1 _ rfl; refine blk_put (cs := #[.int .i64 0, .int .i64 0, .string (⟨#[]⟩ : ByteArray), .int .i64 0]) ?_ 0 _ rfl; exact BK715.out⟩
     have n2_ : Aside0 (Below w.heap.size w ((((w10.setCell ⟨gb715, 0, none⟩ (.int .i64 ((rd_T43 l0_2 a1).f0))).setCell ⟨gb715, 1, none⟩ (.int .i64 ((rd_T43 l0_2 a1).f1))).setCell ⟨gb715, 2, none⟩ (.string ((rd_T43 l0_2 a1).f2))).setCell ⟨gb715, 3, none⟩ (.int .i64 ((rd_T43 l0_2 a1).f3)))) := ⟨(have z0_ := GE713; have z1_ := GE715; Zh)⟩
     (try clear BK713)
     (try clear BK715)
     (try clear HB)
     generalize ((((w10.setCell ⟨gb715, 0, none⟩ (.int .i64 ((rd_T43 l0_2 a1).f0))).setCell ⟨gb715, 1, none⟩ (.int .i64 ((rd_T43 l0_2 a1).f1))).setCell ⟨gb715, 2, none⟩ (.string ((rd_T43 l0_2 a1).f2))).setCell ⟨gb715, 3, none⟩ (.int .i64 ((rd_T43 l0_2 a1).f3))) = w13 at n0_ n1_ n2_ ⊢
     have BK713 := n0_
     have BK715 := n1_
     have HB := n2_
     clear n0_ n1_ n2_
     have n0_ := Aside0.mk (blk_drew BK713.out)
     have n1_ := Aside0.mk (blk_drew BK715.out)
     have n2_ := Aside0.mk (below_drew1 HB.out)
     clear BK713
     clear BK715
     clear HB
     have BK713 := n0_
     have BK715 := n1_
     have HB := n2_
     clear n0_ n1_ n2_
     have p717 : 0 ≤ (t716 : Int) := of_decide_eq_true Zp
     have q717 : t716 < (l0_1.length : Int) := of_decide_eq_true Zp
     obtain ⟨ad717, e717, hx717_0, hx717_1, hx717_2, hx717_3, hx717_4, hx717_5, hx717_6, hx717_7, hx717_8⟩ := at_T92 HR0_1.out t716 p717 q717
     have hw717_8 := hx717_8
     have hw717_7 := hx717_7
     have hw717_6 := hx717_6
     have hw717_5 := hx717_5
     have hw717_4 := hx717_4
     have hw717_3 := hx717_3
     have hw717_2 := hx717_2
     have hw717_1 := hx717_1
     have hw717_0 := hx717_0
     cases e717
     replace hx717_0 := cbH HB hx717_0
     replace hx717_1 := cbH HB hx717_1
     replace hx717_2 := cbH HB hx717_2
     replace hx717_3 := cbH HB hx717_3
     replace hx717_4 := cbH HB hx717_4
     replace hx717_5 := cbH HB hx717_5
     replace hx717_6 := cbH HB hx717_6
     replace hx717_7 := cbH HB hx717_7
     replace hx717_8 := cbH HB hx717_8
     replace p717 := eq_true p717
     replace q717 := eq_true q717
     refine start_ (n := 11) (S := fun w' => w'.cell? ⟨gb713, 0, none⟩ = some (.slice A0_0 l0_0.length c0_0) ∧ w'.cell? ⟨gb713, 1, none⟩ = some (.slice (some ad717) l0_1.length c0_1) ∧ w'.cell? ⟨gb713, 2, none⟩ = some (.slice (some ad714) l0_2.length c0_2) ∧ w'.cell? ⟨gb715, 0, none⟩ = some (.int .i64 ((rd_T43 l0_2 a1).f0)) ∧ w'.cell? ⟨gb715, 1, none⟩ = some (.int .i64 ((rd_T43 l0_2 a1).f1)) ∧ w'.cell? ⟨gb715, 2, none⟩ = some (.string ((rd_T43 l0_2 a1).f2)) ∧ w'.cell? ⟨gb715, 3, none⟩ = some (.int .i64 ((rd_T43 l0_2 a1).f3)) ∧ w'.cell? (ad717.add ((t716).toNat * 9)) = some (.string ((rd_T92 l0_1 t716).f0)) ∧ w'.cell? ⟨(ad717.add ((t716).toNat * 9)).block, (ad717.add ((t716).toNat * 9)).off + 1, none⟩ = some (.int .i64 ((rd_T92 l0_1 t716).f1)) ∧ w'.cell? ⟨(ad717.add ((t716).toNat * 9)).block, (ad717.add ((t716).toNat * 9)).off + 2, none⟩ = some (.int .i64 ((rd_T92 l0_1 t716).f2)) ∧ w'.cell? ⟨(ad717.add ((t716).toNat * 9)).block, (ad717.add ((t716).toNat * 9)).off + 3, none⟩ = some (.int .i64 ((rd_T92 l0_1 t716).f3)) ∧ w'.cell? ⟨(ad717.add ((t716).toNat * 9)).block, (ad717.add ((t716).toNat * 9)).off + 4, none⟩ = some (.int .i64 ((rd_T92 l0_1 t716).f4)) ∧ w'.cell? ⟨(ad717.add ((t716).toNat * 9)).block, (ad717.add ((t716).toNat * 9)).off + 5, none⟩ = some (.int .i64 ((rd_T92 l0_1 t716).f5)) ∧ w'.cell? ⟨(ad717.add ((t716).toNat * 9)).block, (ad717.add ((t716).toNat * 9)).off + 6, none⟩ = some (.int .i64 ((rd_T92 l0_1 t716).f6)) ∧ w'.cell? ⟨(ad717.add ((t716).toNat * 9)).block, (ad717.add ((t716).toNat * 9)).off + 7, none⟩ = some (.int .i64 ((rd_T92 l0_1 t716).f7)) ∧ w'.cell? ⟨(ad717.add ((t716).toNat * 9)).block, (ad717.add ((t716).toNat * 9)).off + 8, none⟩ = some (.int .i64 ((rd_T92 l0_1 t716).f8))) (ds := []) (bT 11 0) Zj rfl rfl ⟨(blk_cell BK713.out 0).trans rfl, (blk_cell BK713.out 1).trans rfl, (blk_cell BK713.out 2).trans rfl, (blk_cell BK715.out 0).trans rfl, (blk_cell BK715.out 1).trans rfl, (blk_cell BK715.out 2).trans rfl, (blk_cell BK715.out 3).trans rfl, (cbH HB hw717_0 :), (cbH HB hw717_1 :), (cbH HB hw717_2 :), (cbH HB hw717_3 :), (cbH HB hw717_4 :), (cbH HB hw717_5 :), (cbH HB hw717_6 :), (cbH HB hw717_7 :), (cbH HB hw717_8 :)⟩ (fun hHeld => ?_); refine with_tabW spec_l09Cue.tab2 spec_l09Cue.bits2 (fun HT_ HW_ => ?_)
     generalize w13.drew = w14 at BK713 BK715 HB hx717_0 hx717_1 hx717_2 hx717_3 hx717_4 hx717_5 hx717_6 hx717_7 hx717_8 hHeld ⊢
     refine pureZ HT_ 0 (some 15) (bT 11 1) ?_
     refine pureZ HT_ 2 (some 17) #[true, false, true, false, false, false, false, false, false, false, false] ?_
     refine pureZ HT_ 4 (some 19) #[true, false, true, false, true, false, false, false, false, false, false] ?_
     refine take_ (i := 1) (N := some 16) (v := ?_) (a' := ?_) #[true, true, true, false, true, false, false, false, false, false, false] rfl rfl (take_ofW HT_.out HW_.out Zj) (fun _ _ _ h => h) (Or.inl ⟨by rfl, ?_⟩) hHeld ?_ ?_
     rotate_left
     ·rintro w' ⟨s0, s1, s2, s3, s4, s5, s6, s7, s8, s9, s10, s11, s12, s13, s14, s15⟩
      go_simp
      with_reducible rfl
     rotate_left
     ·exact Zput
     refine take_ (i := 3) (N := some 18) (v := ?_) (a' := ?_) (bT 11 5) rfl rfl (take_ofW HT_.out HW_.out Zj) (fun _ _ _ h => h) (Or.inl ⟨by rfl, ?_⟩) hHeld ?_ ?_
     rotate_left
     ·rintro w' ⟨s0, s1, s2, s3, s4, s5, s6, s7, s8, s9, s10, s11, s12, s13, s14, s15⟩
      go_simp
      with_reducible rfl
     rotate_left
     ·exact Zput
     refine take_ (i := 5) (N := some 20) (v := ?_) (a' := ?_) (bT 11 6) rfl rfl (take_ofW HT_.out HW_.out Zj) (fun _ _ _ h => h) (Or.inl ⟨by rfl, ?_⟩) hHeld ?_ ?_
     rotate_left
     ·rintro w' ⟨s0, s1, s2, s3, s4, s5, s6, s7, s8, s9, s10, s11, s12, s13, s14, s15⟩
      go_simp
      with_reducible rfl
     rotate_left
     ·exact Zput
     refine join_ (σ := Nat) 1 (bT 11 10) (fun s_ => [(21, .int .i64 t716), (6, .pointer (some ⟨s_, 0, none⟩)), (22, .pointer (some (ad717.add ((t716).toNat * 9)))), (23, .agg #[.string ((rd_T92 l0_1 t716).f0), .int .i64 ((rd_T92 l0_1 t716).f1), .int .i64 ((rd_T92 l0_1 t716).f2), .int .i64 ((rd_T92 l0_1 t716).f3), .int .i64 ((rd_T92 l0_1 t716).f4), .int .i64 ((rd_T92 l0_1 t716).f5), .int .i64 ((rd_T92 l0_1 t716).f6), .int .i64 ((rd_T92 l0_1 t716).f7), .int .i64 ((rd_T92 l0_1 t716).f8)])]) (fun s_ w' => (w'.cell? ⟨gb713, 0, none⟩ = some (.slice A0_0 l0_0.length c0_0) ∧ w'.cell? ⟨gb713, 1, none⟩ = some (.slice (some ad717) l0_1.length c0_1) ∧ w'.cell? ⟨gb713, 2, none⟩ = some (.slice (some ad714) l0_2.length c0_2) ∧ w'.cell? ⟨gb715, 0, none⟩ = some (.int .i64 ((rd_T43 l0_2 a1).f0)) ∧ w'.cell? ⟨gb715, 1, none⟩ = some (.int .i64 ((rd_T43 l0_2 a1).f1)) ∧ w'.cell? ⟨gb715, 2, none⟩ = some (.string ((rd_T43 l0_2 a1).f2)) ∧ w'.cell? ⟨gb715, 3, none⟩ = some (.int .i64 ((rd_T43 l0_2 a1).f3)) ∧ w'.cell? (ad717.add ((t716).toNat * 9)) = some (.string ((rd_T92 l0_1 t716).f0)) ∧ w'.cell? ⟨(ad717.add ((t716).toNat * 9)).block, (ad717.add ((t716).toNat * 9)).off + 1, none⟩ = some (.int .i64 ((rd_T92 l0_1 t716).f1)) ∧ w'.cell? ⟨(ad717.add ((t716).toNat * 9)).block, (ad717.add ((t716).toNat * 9)).off + 2, none⟩ = some (.int .i64 ((rd_T92 l0_1 t716).f2)) ∧ w'.cell? ⟨(ad717.add ((t716).toNat * 9)).block, (ad717.add ((t716).toNat * 9)).off + 3, none⟩ = some (.int .i64 ((rd_T92 l0_1 t716).f3)) ∧ w'.cell? ⟨(ad717.add ((t716).toNat * 9)).block, (ad717.add ((t716).toNat * 9)).off + 4, none⟩ = some (.int .i64 ((rd_T92 l0_1 t716).f4)) ∧ w'.cell? ⟨(ad717.add ((t716).toNat * 9)).block, (ad717.add ((t716).toNat * 9)).off + 5, none⟩ = some (.int .i64 ((rd_T92 l0_1 t716).f5)) ∧ w'.cell? ⟨(ad717.add ((t716).toNat * 9)).block, (ad717.add ((t716).toNat * 9)).off + 6, none⟩ = some (.int .i64 ((rd_T92 l0_1 t716).f6)) ∧ w'.cell? ⟨(ad717.add ((t716).toNat * 9)).block, (ad717.add ((t716).toNat * 9)).off + 7, none⟩ = some (.int .i64 ((rd_T92 l0_1 t716).f7)) ∧ w'.cell? ⟨(ad717.add ((t716).toNat * 9)).block, (ad717.add ((t716).toNat * 9)).off + 8, none⟩ = some (.int .i64 ((rd_T92 l0_1 t716).f8))) ∧ (w'.heap[gb713]? = some (.cells #[.slice A0_0 l0_0.length c0_0, .slice (some ad717) l0_1.length c0_1, .slice (some ad714) l0_2.length c0_2] 32 (0, 0))) ∧ (w'.heap[gb715]? = some (.cells #[.int .i64 ((rd_T43 l0_2 a1).f0), .int .i64 ((rd_T43 l0_2 a1).f1), .string ((rd_T43 l0_2 a1).f2), .int .i64 ((rd_T43 l0_2 a1).f3)] 43 (0, 0))) ∧ (w'.heap[s_]? = some (.cells #[.string (⟨#[]⟩ : ByteArray), .int .i64 0, .int .i64 0, .int .i64 0, .int .i64 0, .int .i64 0, .int .i64 0, .int .i64 0, .int .i64 0] 92 (0, 0))) ∧ (w.heap.size ≤ s_) ∧ (w.heap.size ≤ s_) ∧ (gb713 ≠ s_) ∧ (s_ ≠ gb713) ∧ (gb715 ≠ s_) ∧ (s_ ≠ gb715) ∧ (Below w.heap.size w w')) ?_ ?_
     rotate_left
     ·intro hCont
      refine two_ (i := 6) (j := 9) (Ni := some 21) (Nj := some 6) (bT 11 7) #[true, true, true, true, true, true, false, false, false, true, false] rfl rfl rfl rfl (two_of HT_.out Zj) (by decide) (by decide) (fun K hK => ?_) (fun K hK => ?_)
      ·skip
       refine goes_ Try.func94 Zj rfl #[.slice (some ad717) l0_1.length c0_1, .string ((rd_T43 l0_2 a1).f2)] (by rfl) rfl rfl Zo ?_
       with_reducible refine (spec_l03Find.calls k _ _ l0_1 ((rd_T43 l0_2 a1).f2) t716 _ ?side1 ?side2 A5.out).mono ?_
       (case side1 => exact (have z0_ := HR0_1; Zad))
       (case side2 => exact HC0_1.out)
       rintro e w' ⟨rfl, ⟨nd, rfl⟩⟩
       refine ⟨_, rfl, ?_⟩
       refine hK.out _ _ ⟨(blk_cell BK713.out 0).trans rfl, (blk_cell BK713.out 1).trans rfl, (blk_cell BK713.out 2).trans rfl, (blk_cell BK715.out 0).trans rfl, (blk_cell BK715.out 1).trans rfl, (blk_cell BK715.out 2).trans rfl, (blk_cell BK715.out 3).trans rfl, (cbH HB hw717_0 :), (cbH HB hw717_1 :), (cbH HB hw717_2 :), (cbH HB hw717_3 :), (cbH HB hw717_4 :), (cbH HB hw717_5 :), (cbH HB hw717_6 :), (cbH HB hw717_7 :), (cbH HB hw717_8 :)⟩ (fun hHeld => ?_)
       clear hK K
       refine norm_ (a' := ?_) ?_ ?_
       rotate_left
       ·show Act.put _ (some 21) _ = _
        simp only [Act.put, List.setIfInBounds_toArray, List.set_cons_zero, List.set_cons_succ, i64_w, i32_w]
        rfl
       refine pureZ HT_ 7 (some 22) (bT 11 8) ?_
       refine take_ (i := 8) (N := some 23) (v := ?_) (a' := ?_) (bT 11 9) rfl rfl (take_ofW HT_.out HW_.out Zj) (fun _ _ _ h => h) (Or.inl ⟨by rfl, ?_⟩) hHeld ?_ ?_
       rotate_left
       ·rintro w' ⟨s0, s1, s2, s3, s4, s5, s6, s7, s8, s9, s10, s11, s12, s13, s14, s15⟩
        go_simp
        with_reducible rfl
       rotate_left
       ·exact Zput
       refine one_ (i := 9) (N := some 6) (bT 11 10) rfl rfl (one_of HT_.out Zj) (by decide) (fun K hK => ?_)
       refine box_step ?hg (N := 6) ?hd (cs := #[.string (⟨#[]⟩ : ByteArray), .int .i64 0, .int .i64 0, .int .i64 0, .int .i64 0, .int .i64 0, .int .i64 0, .int .i64 0, .int .i64 0]) (t := 92) ?hr ?_; (case hd => rfl); (case hg => rfl); (case hr => first | (go_simp; done) | (go_simp; rfl))
       intro gb718 hg w15 hbox hb
       have n0_ := Aside0.mk (blk_below (g := gb713) (o := .cells #[.slice A0_0 l0_0.length c0_0, .slice (some ad717) l0_1.length c0_1, .slice (some ad714) l0_2.length c0_2] 32 (0, 0)) (have z0_ := BK713; Ze) hb)
       have n1_ := Aside0.mk (blk_below (g := gb715) (o := .cells #[.int .i64 ((rd_T43 l0_2 a1).f0), .int .i64 ((rd_T43 l0_2 a1).f1), .string ((rd_T43 l0_2 a1).f2), .int .i64 ((rd_T43 l0_2 a1).f3)] 43 (0, 0)) (have z0_ := BK715; Ze) hb)
       have n2_ := Aside0.mk (below_step (have z0_ := GE713; have z1_ := GE715; Zh) hb)
       have n3_ := Aside0.mk (hbox)
       have n4_ := Aside0.mk (((have z0_ := GE713; have z1_ := GE715; Zi) : w.heap.size ≤ gb718))
       have n5_ := Aside0.mk (((have z0_ := GE713; have z1_ := GE715; Zi) : w.heap.size ≤ gb718))
       have n6_ := Aside0.mk (((have z0_ := BK713; Zau) : gb713 ≠ gb718))
       have n7_ := Aside0.mk (((have z0_ := BK713; Zav) : gb718 ≠ gb713))
       have n8_ := Aside0.mk (((have z0_ := BK715; Zaw) : gb715 ≠ gb718))
       have n9_ := Aside0.mk (((have z0_ := BK715; Zax) : gb718 ≠ gb715))
       clear BK713
       clear BK715
       clear HB
       have BK713 := n0_
       have BK715 := n1_
       have HB := n2_
       have BK718 := n3_
       have GW718 := n4_
       have GE718 := n5_
       have NB713_718 := n6_
       have NB718_713 := n7_
       have NB715_718 := n8_
       have NB718_715 := n9_
       clear n0_ n1_ n2_ n3_ n4_ n5_ n6_ n7_ n8_ n9_
       clear hb hbox hg
       refine hK.out _ _ ⟨(blk_cell BK713.out 0).trans rfl, (blk_cell BK713.out 1).trans rfl, (blk_cell BK713.out 2).trans rfl, (blk_cell BK715.out 0).trans rfl, (blk_cell BK715.out 1).trans rfl, (blk_cell BK715.out 2).trans rfl, (blk_cell BK715.out 3).trans rfl, (cbH HB hw717_0 :), (cbH HB hw717_1 :), (cbH HB hw717_2 :), (cbH HB hw717_3 :), (cbH HB hw717_4 :), (cbH HB hw717_5 :), (cbH HB hw717_6 :), (cbH HB hw717_7 :), (cbH HB hw717_8 :)⟩ (fun hHeld => ?_)
       clear hK K
       refine norm_ (a' := ?_) ?_ ?_
       rotate_left
       ·show Act.put _ (some 6) _ = _
        simp only [Act.put, List.setIfInBounds_toArray, List.set_cons_zero, List.set_cons_succ, i64_w, i32_w]
        rfl
       exact norm_ (by simp only [putAll, Act.put, List.setIfInBounds_toArray, List.set_cons_zero, List.set_cons_succ]) (hCont (gb718) _ ⟨hHeld, (have z0_ := BK713; Ze), (have z0_ := BK715; Ze), (have z0_ := BK718; Ze), GW718.out, GE718.out, NB713_718.out, NB718_713.out, NB715_718.out, NB718_715.out, (have z0_ := GE713; have z1_ := GE715; have z2_ := GE718; Zl)⟩)
      ·skip
       refine box_step ?hg (N := 6) ?hd (cs := #[.string (⟨#[]⟩ : ByteArray), .int .i64 0, .int .i64 0, .int .i64 0, .int .i64 0, .int .i64 0, .int .i64 0, .int .i64 0, .int .i64 0]) (t := 92) ?hr ?_; (case hd => rfl); (case hg => rfl); (case hr => first | (go_simp; done) | (go_simp; rfl))
       intro gb718 hg w15 hbox hb
       have n0_ := Aside0.mk (blk_below (g := gb713) (o := .cells #[.slice A0_0 l0_0.length c0_0, .slice (some ad717) l0_1.length c0_1, .slice (some ad714) l0_2.length c0_2] 32 (0, 0)) (have z0_ := BK713; Ze) hb)
       have n1_ := Aside0.mk (blk_below (g := gb715) (o := .cells #[.int .i64 ((rd_T43 l0_2 a1).f0), .int .i64 ((rd_T43 l0_2 a1).f1), .string ((rd_T43 l0_2 a1).f2), .int .i64 ((rd_T43 l0_2 a1).f3)] 43 (0, 0)) (have z0_ := BK715; Ze) hb)
       have n2_ := Aside0.mk (below_step (have z0_ := GE713; have z1_ := GE715; Zh) hb)
       have n3_ := Aside0.mk (hbox)
       have n4_ := Aside0.mk (((have z0_ := GE713; have z1_ := GE715; Zi) : w.heap.size ≤ gb718))
       have n5_ := Aside0.mk (((have z0_ := GE713; have z1_ := GE715; Zi) : w.heap.size ≤ gb718))
       have n6_ := Aside0.mk (((have z0_ := BK713; Zau) : gb713 ≠ gb718))
       have n7_ := Aside0.mk (((have z0_ := BK713; Zav) : gb718 ≠ gb713))
       have n8_ := Aside0.mk (((have z0_ := BK715; Zaw) : gb715 ≠ gb718))
       have n9_ := Aside0.mk (((have z0_ := BK715; Zax) : gb718 ≠ gb715))
       clear BK713
       clear BK715
       clear HB
       have BK713 := n0_
       have BK715 := n1_
       have HB := n2_
       have BK718 := n3_
       have GW718 := n4_
       have GE718 := n5_
       have NB713_718 := n6_
       have NB718_713 := n7_
       have NB715_718 := n8_
       have NB718_715 := n9_
       clear n0_ n1_ n2_ n3_ n4_ n5_ n6_ n7_ n8_ n9_
       clear hb hbox hg
       refine hK.out _ _ ⟨(blk_cell BK713.out 0).trans rfl, (blk_cell BK713.out 1).trans rfl, (blk_cell BK713.out 2).trans rfl, (blk_cell BK715.out 0).trans rfl, (blk_cell BK715.out 1).trans rfl, (blk_cell BK715.out 2).trans rfl, (blk_cell BK715.out 3).trans rfl, (cbH HB hw717_0 :), (cbH HB hw717_1 :), (cbH HB hw717_2 :), (cbH HB hw717_3 :), (cbH HB hw717_4 :), (cbH HB hw717_5 :), (cbH HB hw717_6 :), (cbH HB hw717_7 :), (cbH HB hw717_8 :)⟩ (fun hHeld => ?_)
       clear hK K
       refine norm_ (a' := ?_) ?_ ?_
       rotate_left
       ·show Act.put _ (some 6) _ = _
        simp only [Act.put, List.setIfInBounds_toArray, List.set_cons_zero, List.set_cons_succ, i64_w, i32_w]
        rfl
       refine one_ (i := 6) (N := some 21) #[true, true, true, true, true, true, true, false, false, true, false] rfl rfl (one_of HT_.out Zj) (by decide) (fun K hK => ?_)
       refine goes_ Try.func94 Zj rfl #[.slice (some ad717) l0_1.length c0_1, .string ((rd_T43 l0_2 a1).f2)] (by rfl) rfl rfl Zo ?_
       with_reducible refine (spec_l03Find.calls k _ _ l0_1 ((rd_T43 l0_2 a1).f2) t716 _ ?side1 ?side2 A5.out).mono ?_
       (case side1 => exact (have z0_ := HR0_1; Zad))
       (case side2 => exact HC0_1.out)
       rintro e w' ⟨rfl, ⟨nd, rfl⟩⟩
       refine ⟨_, rfl, ?_⟩
       refine hK.out _ _ ⟨(blk_cell BK713.out 0).trans rfl, (blk_cell BK713.out 1).trans rfl, (blk_cell BK713.out 2).trans rfl, (blk_cell BK715.out 0).trans rfl, (blk_cell BK715.out 1).trans rfl, (blk_cell BK715.out 2).trans rfl, (blk_cell BK715.out 3).trans rfl, (cbH HB hw717_0 :), (cbH HB hw717_1 :), (cbH HB hw717_2 :), (cbH HB hw717_3 :), (cbH HB hw717_4 :), (cbH HB hw717_5 :), (cbH HB hw717_6 :), (cbH HB hw717_7 :), (cbH HB hw717_8 :)⟩ (fun hHeld => ?_)
       clear hK K
       refine norm_ (a' := ?_) ?_ ?_
       rotate_left
       ·show Act.put _ (some 21) _ = _
        simp only [Act.put, List.setIfInBounds_toArray, List.set_cons_zero, List.set_cons_succ, i64_w, i32_w]
        rfl
       refine pureZ HT_ 7 (some 22) #[true, true, true, true, true, true, true, true, false, true, false] ?_
       refine take_ (i := 8) (N := some 23) (v := ?_) (a' := ?_) (bT 11 10) rfl rfl (take_ofW HT_.out HW_.out Zj) (fun _ _ _ h => h) (Or.inl ⟨by rfl, ?_⟩) hHeld ?_ ?_
       rotate_left
       ·rintro w' ⟨s0, s1, s2, s3, s4, s5, s6, s7, s8, s9, s10, s11, s12, s13, s14, s15⟩
        go_simp
        with_reducible rfl
       rotate_left
       ·exact Zput
       exact norm_ (by simp only [putAll, Act.put, List.setIfInBounds_toArray, List.set_cons_zero, List.set_cons_succ]) (hCont (gb718) _ ⟨hHeld, (have z0_ := BK713; Ze), (have z0_ := BK715; Ze), (have z0_ := BK718; Ze), GW718.out, GE718.out, NB713_718.out, NB718_713.out, NB715_718.out, NB718_715.out, (have z0_ := GE713; have z1_ := GE715; have z2_ := GE718; Zl)⟩)
     rintro gb718 w16 ⟨hS_, h0_, h1_, h2_, h3_, h4_, h5_, h6_, h7_, h8_, h9_⟩
     have n0_ : Aside0 (w16.heap[gb713]? = some (.cells #[.slice A0_0 l0_0.length c0_0, .slice (some ad717) l0_1.length c0_1, .slice (some ad714) l0_2.length c0_2] 32 (0, 0))) := ⟨h0_⟩
     have n1_ : Aside0 (w16.heap[gb715]? = some (.cells #[.int .i64 ((rd_T43 l0_2 a1).f0), .int .i64 ((rd_T43 l0_2 a1).f1), .string ((rd_T43 l0_2 a1).f2), .int .i64 ((rd_T43 l0_2 a1).f3)] 43 (0, 0))) := ⟨h1_⟩
     have n2_ : Aside0 (w16.heap[gb718]? = some (.cells #[.string (⟨#[]⟩ : ByteArray), .int .i64 0, .int .i64 0, .int .i64 0, .int .i64 0, .int .i64 0, .int .i64 0, .int .i64 0, .int .i64 0] 92 (0, 0))) := ⟨h2_⟩
     have n3_ : Aside0 (w.heap.size ≤ gb718) := ⟨h3_⟩
     have n4_ : Aside0 (w.heap.size ≤ gb718) := ⟨h4_⟩
     have n5_ : Aside0 (gb713 ≠ gb718) := ⟨h5_⟩
     have n6_ : Aside0 (gb718 ≠ gb713) := ⟨h6_⟩
     have n7_ : Aside0 (gb715 ≠ gb718) := ⟨h7_⟩
     have n8_ : Aside0 (gb718 ≠ gb715) := ⟨h8_⟩
     have n9_ : Aside0 (Below w.heap.size w w16) := ⟨h9_⟩
     clear BK713
     clear BK715
     clear HB
     clear h0_ h1_ h2_ h3_ h4_ h5_ h6_ h7_ h8_ h9_
     have BK713 := n0_
     have BK715 := n1_
     have BK718 := n2_
     have GW718 := n3_
     have GE718 := n4_
     have NB713_718 := n5_
     have NB718_713 := n6_
     have NB715_718 := n7_
     have NB718_715 := n8_
     have HB := n9_
     clear n0_ n1_ n2_ n3_ n4_ n5_ n6_ n7_ n8_ n9_
     have hHeld : w16.cell? ⟨gb713, 0, none⟩ = some (.slice A0_0 l0_0.length c0_0) ∧ w16.cell? ⟨gb713, 1, none⟩ = some (.slice (some ad717) l0_1.length c0_1) ∧ w16.cell? ⟨gb713, 2, none⟩ = some (.slice (some ad714) l0_2.length c0_2) ∧ w16.cell? ⟨gb715, 0, none⟩ = some (.int .i64 ((rd_T43 l0_2 a1).f0)) ∧ w16.cell? ⟨gb715, 1, none⟩ = some (.int .i64 ((rd_T43 l0_2 a1).f1)) ∧ w16.cell? ⟨gb715, 2, none⟩ = some (.string ((rd_T43 l0_2 a1).f2)) ∧ w16.cell? ⟨gb715, 3, none⟩ = some (.int .i64 ((rd_T43 l0_2 a1).f3)) ∧ w16.cell? (ad717.add ((t716).toNat * 9)) = some (.string ((rd_T92 l0_1 t716).f0)) ∧ w16.cell? ⟨(ad717.add ((t716).toNat * 9)).block, (ad717.add ((t716).toNat * 9)).off + 1, none⟩ = some (.int .i64 ((rd_T92 l0_1 t716).f1)) ∧ w16.cell? ⟨(ad717.add ((t716).toNat * 9)).block, (ad717.add ((t716).toNat * 9)).off + 2, none⟩ = some (.int .i64 ((rd_T92 l0_1 t716).f2)) ∧ w16.cell? ⟨(ad717.add ((t716).toNat * 9)).block, (ad717.add ((t716).toNat * 9)).off + 3, none⟩ = some (.int .i64 ((rd_T92 l0_1 t716).f3)) ∧ w16.cell? ⟨(ad717.add ((t716).toNat * 9)).block, (ad717.add ((t716).toNat * 9)).off + 4, none⟩ = some (.int .i64 ((rd_T92 l0_1 t716).f4)) ∧ w16.cell? ⟨(ad717.add ((t716).toNat * 9)).block, (ad717.add ((t716).toNat * 9)).off + 5, none⟩ = some (.int .i64 ((rd_T92 l0_1 t716).f5)) ∧ w16.cell? ⟨(ad717.add ((t716).toNat * 9)).block, (ad717.add ((t716).toNat * 9)).off + 6, none⟩ = some (.int .i64 ((rd_T92 l0_1 t716).f6)) ∧ w16.cell? ⟨(ad717.add ((t716).toNat * 9)).block, (ad717.add ((t716).toNat * 9)).off + 7, none⟩ = some (.int .i64 ((rd_T92 l0_1 t716).f7)) ∧ w16.cell? ⟨(ad717.add ((t716).toNat * 9)).block, (ad717.add ((t716).toNat * 9)).off + 8, none⟩ = some (.int .i64 ((rd_T92 l0_1 t716).f8)) := hS_
     refine norm_ (a' := ?_) ?_ ?_
     rotate_left
     ·simp only [putAll, Act.put, List.setIfInBounds_toArray, List.set_cons_zero, List.set_cons_succ]
      rfl
     refine one_ (i := 10) (N := none) (bT 11 11) rfl rfl (one_of HT_.out Zj) (by decide) (fun K hK => ?_)
     have hs17 : w16.cell? ⟨gb718, 0, none⟩ = some (.string (⟨#[]⟩ : ByteArray)) := (blk_cell BK718.out 0).trans rfl
     have hfs17 := blk_frozen BK718.out 0
     have hns17_0 := NB713_718.out
     have hns17_1 := NB715_718.out
     have hms17_0 := NB718_713.out
     have hms17_1 := NB718_715.out
     have hs18 : w16.cell? ⟨gb718, 1, none⟩ = some (.int .i64 0) := (blk_cell BK718.out 1).trans rfl
     have hfs18 := blk_frozen BK718.out 1
     have hns18_0 := NB713_718.out
     have hns18_1 := NB715_718.out
     have hms18_0 := NB718_713.out
     have hms18_1 := NB718_715.out
     have hs19 : w16.cell? ⟨gb718, 2, none⟩ = some (.int .i64 0) := (blk_cell BK718.out 2).trans rfl
     have hfs19 := blk_frozen BK718.out 2
     have hns19_0 := NB713_718.out
     have hns19_1 := NB715_718.out
     have hms19_0 := NB718_713.out
     have hms19_1 := NB718_715.out
     have hs20 : w16.cell? ⟨gb718, 3, none⟩ = some (.int .i64 0) := (blk_cell BK718.out 3).trans rfl
     have hfs20 := blk_frozen BK718.out 3
     have hns20_0 := NB713_718.out
     have hns20_1 := NB715_718.out
     have hms20_0 := NB718_713.out
     have hms20_1 := NB718_715.out
     have hs21 : w16.cell? ⟨gb718, 4, none⟩ = some (.int .i64 0) := (blk_cell BK718.out 4).trans rfl
     have hfs21 := blk_frozen BK718.out 4
     have hns21_0 := NB713_718.out
     have hns21_1 := NB715_718.out
     have hms21_0 := NB718_713.out
     have hms21_1 := NB718_715.out
     have hs22 : w16.cell? ⟨gb718, 5, none⟩ = some (.int .i64 0) := (blk_cell BK718.out 5).trans rfl
     have hfs22 := blk_frozen BK718.out 5
     have hns22_0 := NB713_718.out
     have hns22_1 := NB715_718.out
     have hms22_0 := NB718_713.out
     have hms22_1 := NB718_715.out
     have hs23 : w16.cell? ⟨gb718, 6, none⟩ = some (.int .i64 0) := (blk_cell BK718.out 6).trans rfl
     have hfs23 := blk_frozen BK718.out 6
     have hns23_0 := NB713_718.out
     have hns23_1 := NB715_718.out
     have hms23_0 := NB718_713.out
     have hms23_1 := NB718_715.out
     have hs24 : w16.cell? ⟨gb718, 7, none⟩ = some (.int .i64 0) := (blk_cell BK718.out 7).trans rfl
     have hfs24 := blk_frozen BK718.out 7
     have hns24_0 := NB713_718.out
     have hns24_1 := NB715_718.out
     have hms24_0 := NB718_713.out
     have hms24_1 := NB718_715.out
     have hs25 : w16.cell? ⟨gb718, 8, none⟩ = some (.int .i64 0) := (blk_cell BK718.out 8).trans rfl
     have hfs25 := blk_frozen BK718.out 8
     have hns25_0 := NB713_718.out
     have hns25_1 := NB715_718.out
     have hms25_0 := NB718_713.out
     have hms25_1 := NB718_715.out
     refine skip_ (w1 := ?_) (by rfl) rfl ?_ ?_
     rotate_left
     ·go_simp
      rfl
     refine hK.out _ _ ⟨((cell_far (p := ⟨gb718, _, none⟩) NB713_718.out _).trans (((cell_far (p := ⟨gb718, _, none⟩) NB713_718.out _).trans (((cell_far (p := ⟨gb718, _, none⟩) NB713_718.out _).trans (((cell_far (p := ⟨gb718, _, none⟩) NB713_718.out _).trans (((cell_far (p := ⟨gb718, _, none⟩) NB713_718.out _).trans (((cell_far (p := ⟨gb718, _, none⟩) NB713_718.out _).trans (((cell_far (p := ⟨gb718, _, none⟩) NB713_718.out _).trans (((cell_far (p := ⟨gb718, _, none⟩) NB713_718.out _).trans (((cell_far (p := ⟨gb718, _, none⟩) NB713_718.out _).trans (hHeld.1)))))))))))))))))), ((cell_far (p := ⟨gb718, _, none⟩) NB713_718.out _).trans (((cell_far (p := ⟨gb718, _, none⟩) NB713_718.out _).trans (((cell_far (p := ⟨gb718, _, none⟩) NB713_718.out _).trans (((cell_far (p := ⟨gb718, _, none⟩) NB713_718.out _).trans (((cell_far (p := ⟨gb718, _, none⟩) NB713_718.out _).trans (((cell_far (p := ⟨gb718, _, none⟩) NB713_718.out _).trans (((cell_far (p := ⟨gb718, _, none⟩) NB713_718.out _).trans (((cell_far (p := ⟨gb718, _, none⟩) NB713_718.out _).trans (((cell_far (p := ⟨gb718, _, none⟩) NB713_718.out _).trans (hHeld.2.1)))))))))))))))))), ((cell_far (p := ⟨gb718, _, none⟩) NB713_718.out _).trans (((cell_far (p := ⟨gb718, _, none⟩) NB713_718.out _).trans (((cell_far (p := ⟨gb718, _, none⟩) NB713_718.out _).trans (((cell_far (p := ⟨gb718, _, none⟩) NB713_718.out _).trans (((cell_far (p := ⟨gb718, _, none⟩) NB713_718.out _).trans (((cell_far (p := ⟨gb718, _, none⟩) NB713_718.out _).trans (((cell_far (p := ⟨gb718, _, none⟩) NB713_718.out _).trans (((cell_far (p := ⟨gb718, _, none⟩) NB713_718.out _).trans (((cell_far (p := ⟨gb718, _, none⟩) NB713_718.out _).trans (hHeld.2.2.1)))))))))))))))))), ((cell_far (p := ⟨gb718, _, none⟩) NB715_718.out _).trans (((cell_far (p := ⟨gb718, _, none⟩) NB715_718.out _).trans (((cell_far (p := ⟨gb718, _, none⟩) NB715_718.out _).trans (((cell_far (p := ⟨gb718, _, none⟩) NB715_718.out _).trans (((cell_far (p := ⟨gb718, _, none⟩) NB715_718.out _).trans (((cell_far (p := ⟨gb718, _, none⟩) NB715_718.out _).trans (((cell_far (p := ⟨gb718, _, none⟩) NB715_718.out _).trans (((cell_far (p := ⟨gb718, _, none⟩) NB715_718.out _).trans (((cell_far (p := ⟨gb718, _, none⟩) NB715_718.out _).trans (hHeld.2.2.2.1)))))))))))))))))), ((cell_far (p := ⟨gb718, _, none⟩) NB715_718.out _).trans (((cell_far (p := ⟨gb718, _, none⟩) NB715_718.out _).trans (((cell_far (p := ⟨gb718, _, none⟩) NB715_718.out _).trans (((cell_far (p := ⟨gb718, _, none⟩) NB715_718.out _).trans (((cell_far (p := ⟨gb718, _, none⟩) NB715_718.out _).trans (((cell_far (p := ⟨gb718, _, none⟩) NB715_718.out _).trans (((cell_far (p := ⟨gb718, _, none⟩) NB715_718.out _).trans (((cell_far (p := ⟨gb718, _, none⟩) NB715_718.out _).trans (((cell_far (p := ⟨gb718, _, none⟩) NB715_718.out _).trans (hHeld.2.2.2.2.1)))))))))))))))))), ((cell_far (p := ⟨gb718, _, none⟩) NB715_718.out _).trans (((cell_far (p := ⟨gb718, _, none⟩) NB715_718.out _).trans (((cell_far (p := ⟨gb718, _, none⟩) NB715_718.out _).trans (((cell_far (p := ⟨gb718, _, none⟩) NB715_718.out _).trans (((cell_far (p := ⟨gb718, _, none⟩) NB715_718.out _).trans (((cell_far (p := ⟨gb718, _, none⟩) NB715_718.out _).trans (((cell_far (p := ⟨gb718, _, none⟩) NB715_718.out _).trans (((cell_far (p := ⟨gb718, _, none⟩) NB715_718.out _).trans (((cell_far (p := ⟨gb718, _, none⟩) NB715_718.out _).trans (hHeld.2.2.2.2.2.1)))))))))))))))))), ((cell_far (p := ⟨gb718, _, none⟩) NB715_718.out _).trans (((cell_far (p := ⟨gb718, _, none⟩) NB715_718.out _).trans (((cell_far (p := ⟨gb718, _, none⟩) NB715_718.out _).trans (((cell_far (p := ⟨gb718, _, none⟩) NB715_718.out _).trans (((cell_far (p := ⟨gb718, _, none⟩) NB715_718.out _).trans (((cell_far (p := ⟨gb718, _, none⟩) NB715_718.out _).trans (((cell_far (p := ⟨gb718, _, none⟩) NB715_718.out _).trans (((cell_far (p := ⟨gb718, _, none⟩) NB715_718.out _).trans (((cell_far (p := ⟨gb718, _, none⟩) NB715_718.out _).trans (hHeld.2.2.2.2.2.2.1)))))))))))))))))), ((cell_far (p := ⟨gb718, _, none⟩) (have z0_ := hw717_0; have z1_ := GW718; Zay) _).trans (((cell_far (p := ⟨gb718, _, none⟩) (have z0_ := hw717_0; have z1_ := GW718; Zay) _).trans (((cell_far (p := ⟨gb718, _, none⟩) (have z0_ := hw717_0; have z1_ := GW718; Zay) _).trans (((cell_far (p := ⟨gb718, _, none⟩) (have z0_ := hw717_0; have z1_ := GW718; Zay) _).trans (((cell_far (p := ⟨gb718, _, none⟩) (have z0_ := hw717_0; have z1_ := GW718; Zay) _).trans (((cell_far (p := ⟨gb718, _, none⟩) (have z0_ := hw717_0; have z1_ := GW718; Zay) _).trans (((cell_far (p := ⟨gb718, _, none⟩) (have z0_ := hw717_0; have z1_ := GW718; Zay) _).trans (((cell_far (p := ⟨gb718, _, none⟩) (have z0_ := hw717_0; have z1_ := GW718; Zay) _).trans (((cell_far (p := ⟨gb718, _, none⟩) (have z0_ := hw717_0; have z1_ := GW718; Zay) _).trans (hHeld.2.2.2.2.2.2.2.1)))))))))))))))))), ((cell_far (p := ⟨gb718, _, none⟩) (have z0_ := hw717_1; have z1_ := GW718; Zay) _).trans (((cell_far (p := ⟨gb718, _, none⟩) (have z0_ := hw717_1; have z1_ := GW718; Zay) _).trans (((cell_far (p := ⟨gb718, _, none⟩) (have z0_ := hw717_1; have z1_ := GW718; Zay) _).trans (((cell_far (p := ⟨gb718, _, none⟩) (have z0_ := hw717_1; have z1_ := GW718; Zay) _).trans (((cell_far (p := ⟨gb718, _, none⟩) (have z0_ := hw717_1; have z1_ := GW718; Zay) _).trans (((cell_far (p := ⟨gb718, _, none⟩) (have z0_ := hw717_1; have z1_ := GW718; Zay) _).trans (((cell_far (p := ⟨gb718, _, none⟩) (have z0_ := hw717_1; have z1_ := GW718; Zay) _).trans (((cell_far (p := ⟨gb718, _, none⟩) (have z0_ := hw717_1; have z1_ := GW718; Zay) _).trans (((cell_far (p := ⟨gb718, _, none⟩) (have z0_ := hw717_1; have z1_ := GW718; Zay) _).trans (hHeld.2.2.2.2.2.2.2.2.1)))))))))))))))))), ((cell_far (p := ⟨gb718, _, none⟩) (have z0_ := hw717_2; have z1_ := GW718; Zay) _).trans (((cell_far (p := ⟨gb718, _, none⟩) (have z0_ := hw717_2; have z1_ := GW718; Zay) _).trans (((cell_far (p := ⟨gb718, _, none⟩) (have z0_ := hw717_2; have z1_ := GW718; Zay) _).trans (((cell_far (p := ⟨gb718, _, none⟩) (have z0_ := hw717_2; have z1_ := GW718; Zay) _).trans (((cell_far (p := ⟨gb718, _, none⟩) (have z0_ := hw717_2; have z1_ := GW718; Zay) _).trans (((cell_far (p := ⟨gb718, _, none⟩) (have z0_ := hw717_2; have z1_ := GW718; Zay) _).trans (((cell_far (p := ⟨gb718, _, none⟩) (have z0_ := hw717_2; have z1_ := GW718; Zay) _).trans (((cell_far (p := ⟨gb718, _, none⟩) (have z0_ := hw717_2; have z1_ := GW718; Zay) _).trans (((cell_far (p := ⟨gb718, _, none⟩) (have z0_ := hw717_2; have z1_ := GW718; Zay) _).trans (hHeld.2.2.2.2.2.2.2.2.2.1)))))))))))))))))), ((cell_far (p := ⟨gb718, _, none⟩) (have z0_ := hw717_3; have z1_ := GW718; Zay) _).trans (((cell_far (p := ⟨gb718, _, none⟩) (have z0_ := hw717_3; have z1_ := GW718; Zay) _).trans (((cell_far (p := ⟨gb718, _, none⟩) (have z0_ := hw717_3; have z1_ := GW718; Zay) _).trans (((cell_far (p := ⟨gb718, _, none⟩) (have z0_ := hw717_3; have z1_ := GW718; Zay) _).trans (((cell_far (p := ⟨gb718, _, none⟩) (have z0_ := hw717_3; have z1_ := GW718; Zay) _).trans (((cell_far (p := ⟨gb718, _, none⟩) (have z0_ := hw717_3; have z1_ := GW718; Zay) _).trans (((cell_far (p := ⟨gb718, _, none⟩) (have z0_ := hw717_3; have z1_ := GW718; Zay) _).trans (((cell_far (p := ⟨gb718, _, none⟩) (have z0_ := hw717_3; have z1_ := GW718; Zay) _).trans (((cell_far (p := ⟨gb718, _, none⟩) (have z0_ := hw717_3; have z1_ := GW718; Zay) _).trans (hHeld.2.2.2.2.2.2.2.2.2.2.1)))))))))))))))))), ((cell_far (p := ⟨gb718, _, none⟩) (have z0_ := hw717_4; have z1_ := GW718; Zay) _).trans (((cell_far (p := ⟨gb718, _, none⟩) (have z0_ := hw717_4; have z1_ := GW718; Zay) _).trans (((cell_far (p := ⟨gb718, _, none⟩) (have z0_ := hw717_4; have z1_ := GW718; Zay) _).trans (((cell_far (p := ⟨gb718, _, none⟩) (have z0_ := hw717_4; have z1_ := GW718; Zay) _).trans (((cell_far (p := ⟨gb718, _, none⟩) (have z0_ := hw717_4; have z1_ := GW718; Zay) _).trans (((cell_far (p := ⟨gb718, _, none⟩) (have z0_ := hw717_4; have z1_ := GW718; Zay) _).trans (((cell_far (p := ⟨gb718, _, none⟩) (have z0_ := hw717_4; have z1_ := GW718; Zay) _).trans (((cell_far (p := ⟨gb718, _, none⟩) (have z0_ := hw717_4; have z1_ := GW718; Zay) _).trans (((cell_far (p := ⟨gb718, _, none⟩) (have z0_ := hw717_4; have z1_ := GW718; Zay) _).trans (hHeld.2.2.2.2.2.2.2.2.2.2.2.1)))))))))))))))))), ((cell_far (p := ⟨gb718, _, none⟩) (have z0_ := hw717_5; have z1_ := GW718; Zay) _).trans (((cell_far (p := ⟨gb718, _, none⟩) (have z0_ := hw717_5; have z1_ := GW718; Zay) _).trans (((cell_far (p := ⟨gb718, _, none⟩) (have z0_ := hw717_5; have z1_ := GW718; Zay) _).trans (((cell_far (p := ⟨gb718, _, none⟩) (have z0_ := hw717_5; have z1_ := GW718; Zay) _).trans (((cell_far (p := ⟨gb718, _, none⟩) (have z0_ := hw717_5; have z1_ := GW718; Zay) _).trans (((cell_far (p := ⟨gb718, _, none⟩) (have z0_ := hw717_5; have z1_ := GW718; Zay) _).trans (((cell_far (p := ⟨gb718, _, none⟩) (have z0_ := hw717_5; have z1_ := GW718; Zay) _).trans (((cell_far (p := ⟨gb718, _, none⟩) (have z0_ := hw717_5; have z1_ := GW718; Zay) _).trans (((cell_far (p := ⟨gb718, _, none⟩) (have z0_ := hw717_5; have z1_ := GW718; Zay) _).trans (hHeld.2.2.2.2.2.2.2.2.2.2.2.2.1)))))))))))))))))), ((cell_far (p := ⟨gb718, _, none⟩) (have z0_ := hw717_6; have z1_ := GW718; Zay) _).trans (((cell_far (p := ⟨gb718, _, none⟩) (have z0_ := hw717_6; have z1_ := GW718; Zay) _).trans (((cell_far (p := ⟨gb718, _, none⟩) (have z0_ := hw717_6; have z1_ := GW718; Zay) _).trans (((cell_far (p := ⟨gb718, _, none⟩) (have z0_ := hw717_6; have z1_ := GW718; Zay) _).trans (((cell_far (p := ⟨gb718, _, none⟩) (have z0_ := hw717_6; have z1_ := GW718; Zay) _).trans (((cell_far (p := ⟨gb718, _, none⟩) (have z0_ := hw717_6; have z1_ := GW718; Zay) _).trans (((cell_far (p := ⟨gb718, _, none⟩) (have z0_ := hw717_6; have z1_ := GW718; Zay) _).trans (((cell_far (p := ⟨gb718, _, none⟩) (have z0_ := hw717_6; have z1_ := GW718; Zay) _).trans (((cell_far (p := ⟨gb718, _, none⟩) (have z0_ := hw717_6; have z1_ := GW718; Zay) _).trans (hHeld.2.2.2.2.2.2.2.2.2.2.2.2.2.1)))))))))))))))))), ((cell_far (p := ⟨gb718, _, none⟩) (have z0_ := hw717_7; have z1_ := GW718; Zay) _).trans (((cell_far (p := ⟨gb718, _, none⟩) (have z0_ := hw717_7; have z1_ := GW718; Zay) _).trans (((cell_far (p := ⟨gb718, _, none⟩) (have z0_ := hw717_7; have z1_ := GW718; Zay) _).trans (((cell_far (p := ⟨gb718, _, none⟩) (have z0_ := hw717_7; have z1_ := GW718; Zay) _).trans (((cell_far (p := ⟨gb718, _, none⟩) (have z0_ := hw717_7; have z1_ := GW718; Zay) _).trans (((cell_far (p := ⟨gb718, _, none⟩) (have z0_ := hw717_7; have z1_ := GW718; Zay) _).trans (((cell_far (p := ⟨gb718, _, none⟩) (have z0_ := hw717_7; have z1_ := GW718; Zay) _).trans (((cell_far (p := ⟨gb718, _, none⟩) (have z0_ := hw717_7; have z1_ := GW718; Zay) _).trans (((cell_far (p := ⟨gb718, _, none⟩) (have z0_ := hw717_7; have z1_ := GW718; Zay) _).trans (hHeld.2.2.2.2.2.2.2.2.2.2.2.2.2.2.1)))))))))))))))))), ((cell_far (p := ⟨gb718, _, none⟩) (have z0_ := hw717_8; have z1_ := GW718; Zay) _).trans (((cell_far (p := ⟨gb718, _, none⟩) (have z0_ := hw717_8; have z1_ := GW718; Zay) _).trans (((cell_far (p := ⟨gb718, _, none⟩) (have z0_ := hw717_8; have z1_ := GW718; Zay) _).trans (((cell_far (p := ⟨gb718, _, none⟩) (have z0_ := hw717_8; have z1_ := GW718; Zay) _).trans (((cell_far (p := ⟨gb718, _, none⟩) (have z0_ := hw717_8; have z1_ := GW718; Zay) _).trans (((cell_far (p := ⟨gb718, _, none⟩) (have z0_ := hw717_8; have z1_ := GW718; Zay) _).trans (((cell_far (p := ⟨gb718, _, none⟩) (have z0_ := hw717_8; have z1_ := GW718; Zay) _).trans (((cell_far (p := ⟨gb718, _, none⟩) (have z0_ := hw717_8; have z1_ := GW718; Zay) _).trans (((cell_far (p := ⟨gb718, _, none⟩) (have z0_ := hw717_8; have z1_ := GW718; Zay) _).trans (hHeld.2.2.2.2.2.2.2.2.2.2.2.2.2.2.2))))))))))))))))))⟩ (fun hHeld => ?_)
     clear hK K
     refine done_ (done_of HT_.out Zj) ?_
     try go_wp2_with (first | ((with_reducible refine gate_dst (N := 24) rfl ?_); refine Kd.S_lit (Kd.slice 2 (Kd.int .i64)) _ 61 ?hg (N := 24) ?hd (xs := ([] : List (List Int))) (inner := []) (ok := fun _ => True) (okp := fun _ => True) ?hr ?hp (fun _ hk => hk) trivial (Below.refl _ _) (Nat.le_refl _) (by simp) ?_; (case hd => rfl); (case hg => rfl); (case hr => first | (go_simp; done) | (go_simp; rfl)); (case hp => exact (Reps.none _ _)); intro v720 w26 ho27 hb hg_ hnew_; clear hg_ hnew_; (first | rw [← Ny719.out] at ho27 | (simp only [Int.reduceToNat] at ho27; rw [← Ny719.out] at ho27)); have n0_ := Aside0.mk (Kd.S_lower ho27 (below_size (have z0_ := GE713; have z1_ := GE715; have z2_ := GE718; Zl))); have n1_ := Aside0.mk (blk_below (g := gb713) (o := .cells #[.slice A0_0 l0_0.length c0_0, .slice (some ad717) l0_1.length c0_1, .slice (some ad714) l0_2.length c0_2] 32 (0, 0)) (have z0_ := NB713_718; have z1_ := BK713; Zaz) hb); have n2_ := Aside0.mk (blk_below (g := gb715) (o := .cells #[.int .i64 ((rd_T43 l0_2 a1).f0), .int .i64 ((rd_T43 l0_2 a1).f1), .string ((rd_T43 l0_2 a1).f2), .int .i64 ((rd_T43 l0_2 a1).f3)] 43 (0, 0)) (have z0_ := NB715_718; have z1_ := BK715; Zaz) hb); have n3_ := Aside0.mk (blk_below (g := gb718) (o := .cells #[.string ((rd_T92 l0_1 t716).f0), .int .i64 ((rd_T92 l0_1 t716).f1), .int .i64 ((rd_T92 l0_1 t716).f2), .int .i64 ((rd_T92 l0_1 t716).f3), .int .i64 ((rd_T92 l0_1 t716).f4), .int .i64 ((rd_T92 l0_1 t716).f5), .int .i64 ((rd_T92 l0_1 t716).f6), .int .i64 ((rd_T92 l0_1 t716).f7), .int .i64 ((rd_T92 l0_1 t716).f8)] 92 (0, 0)) (by (with_reducible repeat (first | refine blk_drewN ?_ _ | refine blk_drew ?_ | refine blk_alloc ?_ _)); refine blk_put (cs := #[.string ((rd_T92 l0_1 t716).f0), .int .i64 ((rd_T92 l0_1 t716).f1), .int .i64 ((rd_T92 l0_1 t716).f2), .int .i64 ((rd_T92 l0_1 t716).f3), .int .i64 ((rd_T92 l0_1 t716).f4), .int .i64 ((rd_T92 l0_1 t716).f5), .int .i64 ((rd_T92 l0_1 t716).f6), .int .i64 ((rd_T92 l0_1 t716).f7), .int .i64 0]) ?_ 8 _ rfl; (with_reducible repeat (first | refine blk_drewN ?_ _ | refine blk_drew ?_ | refine blk_alloc ?_ _)); refine blk_put (cs := #[.string ((rd_T92 l0_1 t716).f0), .int .i64 ((rd_T92 l0_1 t716).f1), .int .i64 ((rd_T92 l0_1 t716).f2), .int .i64 ((rd_T92 l0_1 t716).f3), .int .i64 ((rd_T92 l0_1 t716).f4), .int .i64 ((rd_T92 l0_1 t716).f5), .int .i64 ((rd_T92 l0_1 t716).f6), .int .i64 0, .int .i64 0]) ?_ 7 _ rfl; (with_reducible repeat (first | refine blk_drewN ?_ _ | refine blk_drew ?_ | refine blk_alloc ?_ _)); refine blk_put (cs := #[.string ((rd_T92 l0_1 t716).f0), .int .i64 ((rd_T92 l0_1 t716).f1), .int .i64 ((rd_T92 l0_1 t716).f2), .int .i64 ((rd_T92 l0_1 t716).f3), .int .i64 ((rd_T92 l0_1 t716).f4), .int .i64 ((rd_T92 l0_1 t716).f5), .int .i64 0, .int .i64 0, .int .i64 0]) ?_ 6 _ rfl; (with_reducible repeat (first | refine blk_drewN ?_ _ | refine blk_drew ?_ | refine blk_alloc ?_ _)); refine blk_put (cs := #[.string ((rd_T92 l0_1 t716).f0), .int .i64 ((rd_T92 l0_1 t716).f1), .int .i64 ((rd_T92 l0_1 t716).f2), .int .i64 ((rd_T92 l0_1 t716).f3), .int .i64 ((rd_T92 l0_1 t716).f4), .int .i64 0, .int .i64 0, .int .i64 0, .int .i64 0]) ?_ 5 _ rfl; (with_reducible repeat (first | refine blk_drewN ?_ _ | refine blk_drew ?_ | refine blk_alloc ?_ _)); refine blk_put (cs := #[.string ((rd_T92 l0_1 t716).f0), .int .i64 ((rd_T92 l0_1 t716).f1), .int .i64 ((rd_T92 l0_1 t716).f2), .int .i64 ((rd_T92 l0_1 t716).f3), .int .i64 0, .int .i64 0, .int .i64 0, .int .i64 0, .int .i64 0]) ?_ 4 _ rfl; (with_reducible repeat (first | refine blk_drewN ?_ _ | refine blk_drew ?_ | refine blk_alloc ?_ _)); refine blk_put (cs := #[.string ((rd_T92 l0_1 t716).f0), .int .i64 ((rd_T92 l0_1 t716).f1), .int .i64 ((rd_T92 l0_1 t716).f2), .int .i64 0, .int .i64 0, .int .i64 0, .int .i64 0, .int .i64 0, .int .i64 0]) ?_ 3 _ rfl; (with_reducible repeat (first | refine blk_drewN ?_ _ | refine blk_drew ?_ | refine blk_alloc ?_ _)); refine blk_put (cs := #[.string ((rd_T92 l0_1 t716).f0), .int .i64 ((rd_T92 l0_1 t716).f1), .int .i64 0, .int .i64 0, .int .i64 0, .int .i64 0, .int .i64 0, .int .i64 0, .int .i64 0]) ?_ 2 _ rfl; (with_reducible repeat (first | refine blk_drewN ?_ _ | refine blk_drew ?_ | refine blk_alloc ?_ _)); refine blk_put (cs := #[.string ((rd_T92 l0_1 t716).f0), .int .i64 0, .int .i64 0, .int .i64 0, .int .i64 0, .int .i64 0, .int .i64 0, .int .i64 0, .int .i64 0]) ?_ 1 _ rfl; (with_reducible repeat (first | refine blk_drewN ?_ _ | refine blk_drew ?_ | refine blk_alloc ?_ _)); refine blk_put (cs := #[.string (⟨#[]⟩ : ByteArray), .int .i64 0, .int .i64 0, .int .i64 0, .int .i64 0, .int .i64 0, .int .i64 0, .int .i64 0, .int .i64 0]) ?_ 0 _ rfl; (with_reducible repeat (first | refine blk_drewN ?_ _ | refine blk_drew ?_ | refine blk_alloc ?_ _)); exact BK718.out) hb); have n4_ := Aside0.mk (below_step (have z0_ := GE713; have z1_ := GE715; have z2_ := GE718; Zl) hb); clear BK713; clear BK715; clear BK718; clear HB; have HO721 := n0_; have BK713 := n1_; have BK715 := n2_; have BK718 := n3_; have HB := n4_; clear n0_ n1_ n2_ n3_ n4_; clear hb ho27))
     go_loopg [7, 8] k (fun kq v7 v8 w' => ∃ (x7_1 : List (List Int)) (x8_1 : Int), v8 = .int .i64 x8_1 ∧ Aside0 (spec_l09Cue.l0 kq a1 x7_1 x8_1 l0_0 l0_1 l0_2 ((rd_T43 l0_2 a1).f0) ((rd_T43 l0_2 a1).f1) ((rd_T43 l0_2 a1).f2) ((rd_T43 l0_2 a1).f3) ((rd_T92 l0_1 t716).f0) ((rd_T92 l0_1 t716).f1) ((rd_T92 l0_1 t716).f2) ((rd_T92 l0_1 t716).f3) ((rd_T92 l0_1 t716).f4) ((rd_T92 l0_1 t716).f5) ((rd_T92 l0_1 t716).f6) ((rd_T92 l0_1 t716).f7) ((rd_T92 l0_1 t716).f8) = some r) ∧ Aside0 (kq ≤ k) ∧ Aside0 (Kd.S (Kd.slice 2 (Kd.int .i64)) 61 w' w.heap.size (fun _ => True) v7 x7_1) ∧ Aside0 (w'.heap[gb713]? = some (.cells #[(.slice A0_0 l0_0.length c0_0), (.slice (some ad717) l0_1.length c0_1), (.slice (some ad714) l0_2.length c0_2)] 32 (0, 0))) ∧ Aside0 (w'.heap[gb715]? = some (.cells #[.int .i64 ((rd_T43 l0_2 a1).f0), .int .i64 ((rd_T43 l0_2 a1).f1), .string ((rd_T43 l0_2 a1).f2), .int .i64 ((rd_T43 l0_2 a1).f3)] 43 (0, 0))) ∧ Aside0 (w'.heap[gb718]? = some (.cells #[.string ((rd_T92 l0_1 t716).f0), .int .i64 ((rd_T92 l0_1 t716).f1), .int .i64 ((rd_T92 l0_1 t716).f2), .int .i64 ((rd_T92 l0_1 t716).f3), .int .i64 ((rd_T92 l0_1 t716).f4), .int .i64 ((rd_T92 l0_1 t716).f5), .int .i64 ((rd_T92 l0_1 t716).f6), .int .i64 ((rd_T92 l0_1 t716).f7), .int .i64 ((rd_T92 l0_1 t716).f8)] 92 (0, 0))) ∧ Aside0 (Below w.heap.size w w'))
     case atStart => exact ⟨(y719), (0), Za, H', ⟨Nat.le_refl _⟩, ⟨(have z0_ := HO721; Zba)⟩, ⟨(have z0_ := BK713; Ze)⟩, ⟨(have z0_ := BK715; Ze)⟩, ⟨(have z0_ := BK718; Ze)⟩, ⟨(have z0_ := GE713; have z1_ := GE715; have z2_ := GE718; Zl)⟩⟩
     case round =>
      clear H'
      try clear c1
      try clear p2
      try clear c3
      try clear c3b0
      try clear c4
      try clear c4b0
      try clear c6
      try clear c6b0
      try clear c7
      try clear c7b0
      try clear p7
      try clear q7
      try clear hx7
      try clear c9
      try clear c10
      try clear c11
      try clear hcz12_0
      try clear hcz12_1
      try clear hcz12_2
      try clear hcz12_3
      try clear hcz9_0
      try clear hcz9_1
      try clear hcz9_2
      try clear hfz12_0
      try clear hfz12_1
      try clear hfz12_2
      try clear hfz12_3
      try clear hfz9_0
      try clear hfz9_1
      try clear hfz9_2
      try clear hx714_0
      try clear hx714_1
      try clear hx714_2
      try clear hx714_3
      try clear hx717_0
      try clear hx717_1
      try clear hx717_2
      try clear hx717_3
      try clear hx717_4
      try clear hx717_5
      try clear hx717_6
      try clear hx717_7
      try clear hx717_8
      try clear p714
      try clear p717
      try clear q714
      try clear q717
      obtain ⟨x7_1, x8_1, rfl, HA, HK1, HO_7, BK713, BK715, BK718, HB⟩ := hrel
      cases gk with
      | zero => exact absurd HA.out (by simp [spec_l09Cue.l0])
      | succ k1 =>
       have H := HA.out
       clear HA
       simp only [spec_l09Cue.l0] at H
       by_cases c28 : x8_1 < ((rd_T92 l0_1 t716).f5)
       ·rw [if_pos c28] at H
        have c28b0 := decide_eq_true c28
        clear c28
        replace H := Option.bind_eq_some_iff.mp H
        obtain ⟨t722, A290, H⟩ := H
        have A29 := Aside0.mk A290
        clear A290
        replace H := Option.bind_eq_some_iff.mp H
        obtain ⟨t723, A300, H⟩ := H
        have A30 := Aside0.mk A300
        clear A300
        by_cases c31 : 0 < (t723.length : Int)
        ·rw [if_pos c31] at H
         have c31b0 := decide_eq_true c31
         have c31b1 : decide (0 < t723.length) = true := decide_eq_true (by omega)
         clear c31
         by_cases c32 : 1 < (t723.length : Int)
         ·rw [if_pos c32] at H
          have c32b0 := decide_eq_true c32
          have c32b1 : decide (1 < t723.length) = true := decide_eq_true (by omega)
          clear c32
          obtain ⟨y728, hy728⟩ : ∃ y_ : List Int, y_ = (([rd t723 0, rd t723 1, a1] : List Int)) := ⟨_, rfl⟩
          replace H : (if x7_1.length < 5864062014805 then (spec_l09Cue.l0 k1 a1 (x7_1 ++ [y728]) (wrap64 (x8_1 + 1)) l0_0 l0_1 l0_2 ((rd_T43 l0_2 a1).f0) ((rd_T43 l0_2 a1).f1) ((rd_T43 l0_2 a1).f2) ((rd_T43 l0_2 a1).f3) ((rd_T92 l0_1 t716).f0) ((rd_T92 l0_1 t716).f1) ((rd_T92 l0_1 t716).f2) ((rd_T92 l0_1 t716).f3) ((rd_T92 l0_1 t716).f4) ((rd_T92 l0_1 t716).f5) ((rd_T92 l0_1 t716).f6) ((rd_T92 l0_1 t716).f7) ((rd_T92 l0_1 t716).f8)) else (none)) = some r := by (try rw [hy728]); first | with_reducible exact H | with_reducible exact (Option.bind_some _ _).symm.trans H | exact H
          have Ny728 := Aside0.mk hy728
          clear hy728
          by_cases c33 : x7_1.length < 5864062014805
          ·rw [if_pos c33] at H
           have LMc33 := Aside0.mk c33
           clear c33
           obtain ⟨y731, hy731⟩ : ∃ y_ : List (List Int), y_ = (x7_1 ++ [y728]) := ⟨_, rfl⟩
           replace H : (spec_l09Cue.l0 k1 a1 y731 (wrap64 (x8_1 + 1)) l0_0 l0_1 l0_2 ((rd_T43 l0_2 a1).f0) ((rd_T43 l0_2 a1).f1) ((rd_T43 l0_2 a1).f2) ((rd_T43 l0_2 a1).f3) ((rd_T92 l0_1 t716).f0) ((rd_T92 l0_1 t716).f1) ((rd_T92 l0_1 t716).f2) ((rd_T92 l0_1 t716).f3) ((rd_T92 l0_1 t716).f4) ((rd_T92 l0_1 t716).f5) ((rd_T92 l0_1 t716).f6) ((rd_T92 l0_1 t716).f7) ((rd_T92 l0_1 t716).f8)) = some r := by (try rw [hy731]); first | with_reducible exact H | with_reducible exact (Option.bind_some _ _).symm.trans H | exact H
           have Ny731 := Aside0.mk hy731
           clear hy731
           have H' := Aside0.mk H
           clear H
           have hnb34 := NB718_713.out
           have hnc34 := NB713_718.out
           have hnb35 := NB718_715.out
           have hnc35 := NB715_718.out
           obtain ⟨hcz36_0, hcz36_1, hcz36_2, hcz36_3, hcz36_4, hcz36_5, hcz36_6, hcz36_7, hcz36_8, hfz36_0, hfz36_1, hfz36_2, hfz36_3, hfz36_4, hfz36_5, hfz36_6, hfz36_7, hfz36_8⟩ := cz9 BK718
           try go_wp2
           have n0_ := Aside0.mk (Kd.S_drew HO_7.out)
           have n1_ := Aside0.mk (blk_drew BK713.out)
           have n2_ := Aside0.mk (blk_drew BK715.out)
           have n3_ := Aside0.mk (blk_drew BK718.out)
           have n4_ := Aside0.mk (below_drew1 HB.out)
           clear HO_7
           clear BK713
           clear BK715
           clear BK718
           clear HB
           have HO_7 := n0_
           have BK713 := n1_
           have BK715 := n2_
           have BK718 := n3_
           have HB := n4_
           clear n0_ n1_ n2_ n3_ n4_
           refine start_ (n := 7) (S := fun w' => w'.cell? ⟨gb718, 0, none⟩ = some (.string ((rd_T92 l0_1 t716).f0)) ∧ w'.cell? ⟨gb718, 1, none⟩ = some (.int .i64 ((rd_T92 l0_1 t716).f1)) ∧ w'.cell? ⟨gb718, 2, none⟩ = some (.int .i64 ((rd_T92 l0_1 t716).f2)) ∧ w'.cell? ⟨gb718, 3, none⟩ = some (.int .i64 ((rd_T92 l0_1 t716).f3)) ∧ w'.cell? ⟨gb718, 4, none⟩ = some (.int .i64 ((rd_T92 l0_1 t716).f4)) ∧ w'.cell? ⟨gb718, 5, none⟩ = some (.int .i64 ((rd_T92 l0_1 t716).f5)) ∧ w'.cell? ⟨gb718, 6, none⟩ = some (.int .i64 ((rd_T92 l0_1 t716).f6)) ∧ w'.cell? ⟨gb718, 7, none⟩ = some (.int .i64 ((rd_T92 l0_1 t716).f7)) ∧ w'.cell? ⟨gb718, 8, none⟩ = some (.int .i64 ((rd_T92 l0_1 t716).f8)) ∧ w'.cell? ⟨gb713, 0, none⟩ = some (.slice A0_0 l0_0.length c0_0) ∧ w'.cell? ⟨gb713, 1, none⟩ = some (.slice (some ad717) l0_1.length c0_1) ∧ w'.cell? ⟨gb713, 2, none⟩ = some (.slice (some ad714) l0_2.length c0_2) ∧ w'.cell? ⟨gb715, 0, none⟩ = some (.int .i64 ((rd_T43 l0_2 a1).f0)) ∧ w'.cell? ⟨gb715, 1, none⟩ = some (.int .i64 ((rd_T43 l0_2 a1).f1)) ∧ w'.cell? ⟨gb715, 2, none⟩ = some (.string ((rd_T43 l0_2 a1).f2)) ∧ w'.cell? ⟨gb715, 3, none⟩ = some (.int .i64 ((rd_T43 l0_2 a1).f3))) (ds := []) (bT 7 0) Zj rfl rfl ⟨(blk_cell BK718.out 0).trans rfl, (blk_cell BK718.out 1).trans rfl, (blk_cell BK718.out 2).trans rfl, (blk_cell BK718.out 3).trans rfl, (blk_cell BK718.out 4).trans rfl, (blk_cell BK718.out 5).trans rfl, (blk_cell BK718.out 6).trans rfl, (blk_cell BK718.out 7).trans rfl, (blk_cell BK718.out 8).trans rfl, (blk_cell BK713.out 0).trans rfl, (blk_cell BK713.out 1).trans rfl, (blk_cell BK713.out 2).trans rfl, (blk_cell BK715.out 0).trans rfl, (blk_cell BK715.out 1).trans rfl, (blk_cell BK715.out 2).trans rfl, (blk_cell BK715.out 3).trans rfl⟩ (fun hHeld => ?_)
           generalize wr.drew = w37 at HO_7 BK713 BK715 BK718 HB hHeld ⊢
           refine pure_ (i := 4) (N := some 35) (v := ?_) (a' := ?_) #[false, false, false, false, true, false, false] rfl rfl Zj (fun _ _ _ h => h) (Or.inl ⟨by rfl, ?_⟩) ?_ ?_
           rotate_left
           ·intro w'
            go_simp
            with_reducible rfl
           rotate_left
           ·exact Zput
           refine take_ (i := 0) (N := some 31) (v := ?_) (a' := ?_) #[true, false, false, false, true, false, false] rfl rfl Zj (fun _ _ _ h => h) (Or.inl ⟨by rfl, ?_⟩) hHeld ?_ ?_
           rotate_left
           ·rintro w' ⟨s0, s1, s2, s3, s4, s5, s6, s7, s8, s9, s10, s11, s12, s13, s14, s15⟩
            go_simp
            with_reducible rfl
           rotate_left
           ·exact Zput
           refine take_ (i := 1) (N := some 32) (v := ?_) (a' := ?_) #[true, true, false, false, true, false, false] rfl rfl Zj (fun _ _ _ h => h) (Or.inl ⟨by rfl, ?_⟩) hHeld ?_ ?_
           rotate_left
           ·rintro w' ⟨s0, s1, s2, s3, s4, s5, s6, s7, s8, s9, s10, s11, s12, s13, s14, s15⟩
            go_simp
            with_reducible rfl
           rotate_left
           ·exact Zput
           refine take_ (i := 2) (N := some 33) (v := ?_) (a' := ?_) #[true, true, true, false, true, false, false] rfl rfl Zj (fun _ _ _ h => h) (Or.inl ⟨by rfl, ?_⟩) hHeld ?_ ?_
           rotate_left
           ·rintro w' ⟨s0, s1, s2, s3, s4, s5, s6, s7, s8, s9, s10, s11, s12, s13, s14, s15⟩
            go_simp
            with_reducible rfl
           rotate_left
           ·exact Zput
           refine one_ (i := 3) (N := some 34) (bT 7 5) rfl rfl Zj (by decide) (fun K hK => ?_)
           refine goes_ Try.func95 Zj rfl #[.agg #[.slice A0_0 l0_0.length c0_0, .slice (some ad717) l0_1.length c0_1, .slice (some ad714) l0_2.length c0_2], .agg #[.int .i64 ((rd_T43 l0_2 a1).f0), .int .i64 ((rd_T43 l0_2 a1).f1), .string ((rd_T43 l0_2 a1).f2), .int .i64 ((rd_T43 l0_2 a1).f3)]] (by rfl) rfl rfl Zo ?_
           with_reducible refine (spec_l08Time.calls k1 _ _ l0_0 _ _ l0_1 _ _ l0_2 ((rd_T43 l0_2 a1).f0) ((rd_T43 l0_2 a1).f1) ((rd_T43 l0_2 a1).f2) ((rd_T43 l0_2 a1).f3) t722 _ ?side1 ?side2 ?side3 ?side4 ?side5 ?side6 A29.out).mono ?_
           (case side1 => exact (have z0_ := HR0_0; Zad))
           (case side2 => exact HC0_0.out)
           (case side3 => exact (have z0_ := HR0_1; Zad))
           (case side4 => exact HC0_1.out)
           (case side5 => exact (have z0_ := HR0_2; Zad))
           (case side6 => exact HC0_2.out)
           rintro e w38 ⟨rfl, hb⟩
           refine ⟨_, rfl, ?_⟩
           have n0_ := Aside0.mk (Kd.S_below (have z0_ := HO_7; Zba) hb)
           have n1_ := Aside0.mk (blk_below (g := gb713) (o := .cells #[.slice A0_0 l0_0.length c0_0, .slice (some ad717) l0_1.length c0_1, .slice (some ad714) l0_2.length c0_2] 32 (0, 0)) (have z0_ := BK713; Ze) hb)
           have n2_ := Aside0.mk (blk_below (g := gb715) (o := .cells #[.int .i64 ((rd_T43 l0_2 a1).f0), .int .i64 ((rd_T43 l0_2 a1).f1), .string ((rd_T43 l0_2 a1).f2), .int .i64 ((rd_T43 l0_2 a1).f3)] 43 (0, 0)) (have z0_ := BK715; Ze) hb)
           have n3_ := Aside0.mk (blk_below (g := gb718) (o := .cells #[.string ((rd_T92 l0_1 t716).f0), .int .i64 ((rd_T92 l0_1 t716).f1), .int .i64 ((rd_T92 l0_1 t716).f2), .int .i64 ((rd_T92 l0_1 t716).f3), .int .i64 ((rd_T92 l0_1 t716).f4), .int .i64 ((rd_T92 l0_1 t716).f5), .int .i64 ((rd_T92 l0_1 t716).f6), .int .i64 ((rd_T92 l0_1 t716).f7), .int .i64 ((rd_T92 l0_1 t716).f8)] 92 (0, 0)) (have z0_ := BK718; Ze) hb)
           have n4_ := Aside0.mk (below_step (have z0_ := GE713; have z1_ := GE715; have z2_ := GE718; Zl) hb)
           clear HO_7
           clear BK713
           clear BK715
           clear BK718
           clear HB
           have HO_7 := n0_
           have BK713 := n1_
           have BK715 := n2_
           have BK718 := n3_
           have HB := n4_
           clear n0_ n1_ n2_ n3_ n4_
           (try clear hb)
           (try clear hb2)
           (try clear hk)
           (try clear hi)
           refine hK.out _ _ ⟨(blk_cell BK718.out 0).trans rfl, (blk_cell BK718.out 1).trans rfl, (blk_cell BK718.out 2).trans rfl, (blk_cell BK718.out 3).trans rfl, (blk_cell BK718.out 4).trans rfl, (blk_cell BK718.out 5).trans rfl, (blk_cell BK718.out 6).trans rfl, (blk_cell BK718.out 7).trans rfl, (blk_cell BK718.out 8).trans rfl, (blk_cell BK713.out 0).trans rfl, (blk_cell BK713.out 1).trans rfl, (blk_cell BK713.out 2).trans rfl, (blk_cell BK715.out 0).trans rfl, (blk_cell BK715.out 1).trans rfl, (blk_cell BK715.out 2).trans rfl, (blk_cell BK715.out 3).trans rfl⟩ (fun hHeld => ?_)
           clear hK K
           refine norm_ (a' := ?_) ?_ ?_
           rotate_left
           ·show Act.put _ (some 34) _ = _
            simp only [Act.put, List.setIfInBounds_toArray, List.set_cons_zero, List.set_cons_succ, i64_w, i32_w]
            rfl
           refine one_ (i := 5) (N := some 36) (bT 7 6) rfl rfl Zj (by decide) (fun K hK => ?_)
           refine goes_ Try.func99 Zj rfl #[.agg #[.string ((rd_T92 l0_1 t716).f0), .int .i64 ((rd_T92 l0_1 t716).f1), .int .i64 ((rd_T92 l0_1 t716).f2), .int .i64 ((rd_T92 l0_1 t716).f3), .int .i64 ((rd_T92 l0_1 t716).f4), .int .i64 ((rd_T92 l0_1 t716).f5), .int .i64 ((rd_T92 l0_1 t716).f6), .int .i64 ((rd_T92 l0_1 t716).f7), .int .i64 ((rd_T92 l0_1 t716).f8)], .int .i64 t722, .int .i64 x8_1] (by rfl) rfl rfl Zo ?_
           with_reducible refine (spec_l03Window.calls ((rd_T92 l0_1 t716).f0) ((rd_T92 l0_1 t716).f1) ((rd_T92 l0_1 t716).f2) ((rd_T92 l0_1 t716).f3) ((rd_T92 l0_1 t716).f4) ((rd_T92 l0_1 t716).f5) ((rd_T92 l0_1 t716).f6) ((rd_T92 l0_1 t716).f7) ((rd_T92 l0_1 t716).f8) t722 x8_1 t723 _ A30.out).mono ?_
           rintro e w39 ⟨v724, rfl, ho0, hb⟩
           refine ⟨_, rfl, ?_⟩
           have n0_ := Aside0.mk (Kd.S_elder' (have z0_ := HO_7; Zba) (Kd.R_base ho0) hb)
           have n1_ := Aside0.mk (Kd.R_lower ho0 (below_size (have z0_ := GE713; have z1_ := GE715; have z2_ := GE718; Zl)))
           have n2_ := Aside0.mk (blk_below (g := gb713) (o := .cells #[.slice A0_0 l0_0.length c0_0, .slice (some ad717) l0_1.length c0_1, .slice (some ad714) l0_2.length c0_2] 32 (0, 0)) (have z0_ := BK713; Ze) hb)
           have n3_ := Aside0.mk (blk_below (g := gb715) (o := .cells #[.int .i64 ((rd_T43 l0_2 a1).f0), .int .i64 ((rd_T43 l0_2 a1).f1), .string ((rd_T43 l0_2 a1).f2), .int .i64 ((rd_T43 l0_2 a1).f3)] 43 (0, 0)) (have z0_ := BK715; Ze) hb)
           have n4_ := Aside0.mk (blk_below (g := gb718) (o := .cells #[.string ((rd_T92 l0_1 t716).f0), .int .i64 ((rd_T92 l0_1 t716).f1), .int .i64 ((rd_T92 l0_1 t716).f2), .int .i64 ((rd_T92 l0_1 t716).f3), .int .i64 ((rd_T92 l0_1 t716).f4), .int .i64 ((rd_T92 l0_1 t716).f5), .int .i64 ((rd_T92 l0_1 t716).f6), .int .i64 ((rd_T92 l0_1 t716).f7), .int .i64 ((rd_T92 l0_1 t716).f8)] 92 (0, 0)) (have z0_ := BK718; Ze) hb)
           have n5_ := Aside0.mk (below_step (have z0_ := GE713; have z1_ := GE715; have z2_ := GE718; Zl) hb)
           clear HO_7
           clear BK713
           clear BK715
           clear BK718
           clear HB
           have HO_7 := n0_
           have HO725 := n1_
           have BK713 := n2_
           have BK715 := n3_
           have BK718 := n4_
           have HB := n5_
           clear n0_ n1_ n2_ n3_ n4_ n5_
           (try clear hb)
           (try clear hb2)
           (try clear hk)
           (try clear hi)
           (try clear ho0)
           refine hK.out _ _ ⟨(blk_cell BK718.out 0).trans rfl, (blk_cell BK718.out 1).trans rfl, (blk_cell BK718.out 2).trans rfl, (blk_cell BK718.out 3).trans rfl, (blk_cell BK718.out 4).trans rfl, (blk_cell BK718.out 5).trans rfl, (blk_cell BK718.out 6).trans rfl, (blk_cell BK718.out 7).trans rfl, (blk_cell BK718.out 8).trans rfl, (blk_cell BK713.out 0).trans rfl, (blk_cell BK713.out 1).trans rfl, (blk_cell BK713.out 2).trans rfl, (blk_cell BK715.out 0).trans rfl, (blk_cell BK715.out 1).trans rfl, (blk_cell BK715.out 2).trans rfl, (blk_cell BK715.out 3).trans rfl⟩ (fun hHeld => ?_)
           clear hK K
           refine norm_ (a' := ?_) ?_ ?_
           rotate_left
           ·show Act.put _ (some 36) _ = _
            simp only [Act.put, List.setIfInBounds_toArray, List.set_cons_zero, List.set_cons_succ, i64_w, i32_w]
            rfl
           refine pure_ (i := 6) (N := some 9) (v := ?_) (a' := ?_) (bT 7 7) rfl rfl Zj (fun _ _ _ h => h) (Or.inl ⟨by rfl, ?_⟩) ?_ ?_
           rotate_left
           ·intro w'
            go_simp
            with_reducible rfl
           rotate_left
           ·exact Zput
           refine done_ Zj ?_
           try go_wp2
           have n0_ := Aside0.mk (Kd.S_drew HO_7.out)
           have n1_ := Aside0.mk (Kd.R_drew HO725.out)
           have n2_ := Aside0.mk (blk_drew BK713.out)
           have n3_ := Aside0.mk (blk_drew BK715.out)
           have n4_ := Aside0.mk (blk_drew BK718.out)
           have n5_ := Aside0.mk (below_drew1 HB.out)
           clear HO_7
           clear HO725
           clear BK713
           clear BK715
           clear BK718
           clear HB
           have HO_7 := n0_
           have HO725 := n1_
           have BK713 := n2_
           have BK715 := n3_
           have BK718 := n4_
           have HB := n5_
           clear n0_ n1_ n2_ n3_ n4_ n5_
           obtain ⟨Ao41, co41, eo41⟩ := Kd.R_slice HO725.out
           (first | subst eo41 | (injection eo41 with f1_ f2_ f3_; have f4_ := f1_.symm; have f5_ := f3_.symm; clear f1_ f2_ f3_; subst f4_; subst f5_))
           have p726 : 0 ≤ (0 : Int) := (by omega)
           have q726 : 0 < (t723.length : Int) := of_decide_eq_true Zp
           obtain ⟨ad726, e726, hx726_0⟩ := Kd.at_int (Kd.R_reads' HO725.out).2.2 0 p726 q726
           cases e726
           have qi726 : (0 < t723.length) = True := eq_true (by omega)
           (try rw [show ((0 : Int)).toNat = 0 from rfl] at hx726_0)
           (try rw [Addr.add_zero'] at hx726_0)
           replace p726 := eq_true p726
           replace q726 := eq_true q726
           have p727 : 0 ≤ (1 : Int) := (by omega)
           have q727 : 1 < (t723.length : Int) := of_decide_eq_true Zp
           obtain ⟨ad727, e727, hx727_0⟩ := Kd.at_int (Kd.R_reads' HO725.out).2.2 1 p727 q727
           obtain rfl : ad726 = ad727 := (by injection e727)
           (try simp only [show (1 : Int).toNat = 1 from rfl, Nat.reduceMul, Nat.reduceEqDiff, Go.Addr.add, ↓reduceIte] at hx727_0)
           have qi727 : (1 < t723.length) = True := eq_true (by omega)
           (try rw [show ((1 : Int)).toNat = 1 from rfl] at hx727_0)
           replace p727 := eq_true p727
           replace q727 := eq_true q727
           refine start_ (n := 12) (S := fun w' => w'.cell? ad726 = some (.int .i64 (rd t723 0)) ∧ w'.cell? ⟨ad726.block, ad726.off + 1, none⟩ = some (.int .i64 (rd t723 1))) (ds := [9, 10]) (bT 12 0) Zj rfl rfl ⟨hx726_0, hx727_0⟩ (fun hHeld => ?_); refine with_tabW spec_l09Cue.tab8 spec_l09Cue.bits8 (fun HT_ HW_ => ?_)
           generalize w39.drew = w40 at HO_7 HO725 BK713 BK715 BK718 HB hx726_0 hx727_0 hHeld ⊢
           refine pureZ HT_ 0 (some 37) (bT 12 1) ?_
           refine pureZ HT_ 1 (some 38) (bT 12 2) ?_
           refine pureZ HT_ 2 (some 39) (bT 12 3) ?_
           refine pureZ HT_ 4 (some 41) #[true, true, true, false, true, false, false, false, false, false, false, false] ?_
           refine pureZ HT_ 5 (some 42) #[true, true, true, false, true, true, false, false, false, false, false, false] ?_
           refine pureZ HT_ 7 (some 44) #[true, true, true, false, true, true, false, true, false, false, false, false] ?_
           refine take_ (i := 3) (N := some 40) (v := ?_) (a' := ?_) #[true, true, true, true, true, true, false, true, false, false, false, false] rfl rfl (take_ofW HT_.out HW_.out Zj) (fun _ _ _ h => h) (Or.inl ⟨by rfl, ?_⟩) hHeld ?_ ?_
           rotate_left
           ·rintro w' ⟨s0, s1⟩
            go_simp
            with_reducible rfl
           rotate_left
           ·exact Zput
           refine take_ (i := 6) (N := some 43) (v := ?_) (a' := ?_) (bT 12 8) rfl rfl (take_ofW HT_.out HW_.out Zj) (fun _ _ _ h => h) (Or.inl ⟨by rfl, ?_⟩) hHeld ?_ ?_
           rotate_left
           ·rintro w' ⟨s0, s1⟩
            go_simp
            with_reducible rfl
           rotate_left
           ·exact Zput
           refine one_ (i := 8) (N := some 45) (bT 12 9) rfl rfl (one_of HT_.out Zj) (by decide) (fun K hK => ?_)
           refine Kd.R_lit_step (Kd.int .i64) _ 2 ?hg (N := 45) ?hd (xs := ([rd t723 0, rd t723 1, a1] : List Int)) (inner := [.int .i64 (rd t723 0), .int .i64 (rd t723 1), .int .i64 a1]) (ok := fun _ => True) (okp := fun _ => True) ?hr ?hp (fun _ hk => hk) trivial (Below.refl _ _) (Nat.le_refl _) (by simp) ?_; (case hd => rfl); (case hg => rfl); (case hr => first | (go_simp; done) | (go_simp; rfl)); (case hp => exact (Reps.one (show Kd.M (Kd.int .i64) _ _ _ (rd t723 0) [.int .i64 (rd t723 0)] from rfl) (Reps.one (show Kd.M (Kd.int .i64) _ _ _ (rd t723 1) [.int .i64 (rd t723 1)] from rfl) (Reps.one (show Kd.M (Kd.int .i64) _ _ _ a1 [.int .i64 a1] from rfl) (Reps.none _ _)))))
           intro v729 w42 ho43 hb hg_ hnew_
           have HS0_ := (hb.cell (World.block_lt_of_cell? _ _ (hHeld.1))).trans (hHeld.1)
           have HS1_ := (hb.cell (World.block_lt_of_cell? _ _ (hHeld.2))).trans (hHeld.2)
           clear hg_ hnew_
           (first | rw [← Ny728.out] at ho43 | (simp only [Int.reduceToNat] at ho43; rw [← Ny728.out] at ho43))
           have n0_ := Aside0.mk (Kd.S_elder' (have z0_ := HO_7; Zba) (Kd.R_base ho43) hb)
           have n1_ := Aside0.mk (Kd.R_elder' (have z0_ := HO725; Zq) (Kd.R_base ho43) hb)
           have n2_ := Aside0.mk (Kd.R_lower (Kd.R_new' ho43 (Kd.R_lt (have z0_ := HO725; Zq))) (below_size (have z0_ := GE713; have z1_ := GE715; have z2_ := GE718; Zl)))
           have n3_ := Aside0.mk (blk_below (g := gb713) (o := .cells #[.slice A0_0 l0_0.length c0_0, .slice (some ad717) l0_1.length c0_1, .slice (some ad714) l0_2.length c0_2] 32 (0, 0)) (have z0_ := BK713; Ze) hb)
           have n4_ := Aside0.mk (blk_below (g := gb715) (o := .cells #[.int .i64 ((rd_T43 l0_2 a1).f0), .int .i64 ((rd_T43 l0_2 a1).f1), .string ((rd_T43 l0_2 a1).f2), .int .i64 ((rd_T43 l0_2 a1).f3)] 43 (0, 0)) (have z0_ := BK715; Ze) hb)
           have n5_ := Aside0.mk (blk_below (g := gb718) (o := .cells #[.string ((rd_T92 l0_1 t716).f0), .int .i64 ((rd_T92 l0_1 t716).f1), .int .i64 ((rd_T92 l0_1 t716).f2), .int .i64 ((rd_T92 l0_1 t716).f3), .int .i64 ((rd_T92 l0_1 t716).f4), .int .i64 ((rd_T92 l0_1 t716).f5), .int .i64 ((rd_T92 l0_1 t716).f6), .int .i64 ((rd_T92 l0_1 t716).f7), .int .i64 ((rd_T92 l0_1 t716).f8)] 92 (0, 0)) (have z0_ := BK718; Ze) hb)
           have n6_ := Aside0.mk (below_step (have z0_ := GE713; have z1_ := GE715; have z2_ := GE718; Zl) hb)
           clear HO_7
           clear HO725
           clear BK713
           clear BK715
           clear BK718
           clear HB
           have HO_7 := n0_
           have HO725 := n1_
           have HO730 := n2_
           have BK713 := n3_
           have BK715 := n4_
           have BK718 := n5_
           have HB := n6_
           clear n0_ n1_ n2_ n3_ n4_ n5_ n6_
           clear hb ho43
           obtain ⟨Ao45, co45, eo45⟩ := Kd.R_slice HO730.out
           (first | subst eo45 | (injection eo45 with f1_ f2_ f3_; have f4_ := f1_.symm; have f5_ := f3_.symm; clear f1_ f2_ f3_; subst f4_; subst f5_))
           refine hK.out _ _ ⟨HS0_, HS1_⟩ (fun hHeld => ?_)
           clear hK K
           refine norm_ (a' := ?_) ?_ ?_
           rotate_left
           ·show Act.put _ (some 45) _ = _
            simp only [Act.put, List.setIfInBounds_toArray, List.set_cons_zero, List.set_cons_succ, i64_w, i32_w]
            rfl
           refine last_ (i := 9) (N := some 46) (bT 12 10) rfl rfl (one_of HT_.out Zj) (by decide) (fun K hK => ?_)
           refine value_ (w1 := ?_) (v := ?_) (by rfl) rfl ?_ ?_
           rotate_left 2
           ·go_simp
            constructor
            ·rfl
            ·rfl
           refine hK.out _ _ ?_
           clear hK K
           refine norm_ (a' := ?_) ?_ ?_
           rotate_left
           ·show Act.put _ (some 46) _ = _
            simp only [Act.put, List.setIfInBounds_toArray, List.set_cons_zero, List.set_cons_succ, i64_w, i32_w]
            rfl
           refine last_ (i := 10) (N := some 47) (bT 12 11) rfl rfl (one_of HT_.out Zj) (by decide) (fun K hK => ?_)
           refine Kd.S_append_step (Kd.slice 2 (Kd.int .i64)) (w0 := w) w.heap.size (by rfl) (.tmp 37) (.tmp 46) 46 61 (.slice none 0 0) 24 rfl Try.underlying46 info61 rfl (by decide) (by omega) u7 x7_1 y728 [.slice Ao45 y728.length co45] (fun k_ => some k_ ≠ (.slice (some ad726) t723.length co41 : Value).ownBlock) (fun k_ => some k_ = (.slice Ao45 y728.length co45 : Value).ownBlock) rfl rfl ?aP (fun k_ hk_ => ((Kd.R_mono (ok' := fun k_ => ((fun k_ => some k_ ≠ (.slice (some ad726) t723.length co41 : Value).ownBlock)) k_ ∧ some k_ ≠ (u7 : Value).ownBlock) (Kd.R_apart' (HO730.out) (Kd.S_typed HO_7.out) (by decide)) (fun k_ hk => ⟨hk.1.2, hk.2⟩))).1 k_ hk_.symm) ?aF ?aO ?aB ?aS ?aL ?_
           (case aP => exact Kd.M_row (Kd.R_mono (Kd.R_tight rfl (Kd.R_mono (ok' := fun k_ => ((fun k_ => some k_ ≠ (.slice (some ad726) t723.length co41 : Value).ownBlock)) k_ ∧ some k_ ≠ (u7 : Value).ownBlock) (Kd.R_apart' (HO730.out) (Kd.S_typed HO_7.out) (by decide)) (fun k_ hk => ⟨hk.1.2, hk.2⟩))) (fun _ h_ => h_)))
           (case aB => exact (have z0_ := GE713; have z1_ := GE715; have z2_ := GE718; Zl))
           (case aF => exact (fun k_ hk => Kd.fresh' (Kd.R_lt (have z0_ := HO725; Zq)) k_ hk))
           (case aO => exact (by (with_reducible repeat (first | apply Kd.S_alloc | apply Kd.S_drewN | apply Kd.S_drew)); exact Kd.S_mono HO_7.out (fun k_ hk => ⟨hk.1.2, fun e_ => hk.2 e_⟩)))
           (case aS => exact (below_size (have z0_ := GE713; have z1_ := GE715; have z2_ := GE718; Zl)))
           (case aL => have := LMc33.out; omega)
           intro v732 w44 ho hb hg hat
           rw [← Ny731.out] at ho
           have n0_ := Aside0.mk (blk_grown (g := gb713) (o := .cells #[.slice A0_0 l0_0.length c0_0, .slice (some ad717) l0_1.length c0_1, .slice (some ad714) l0_2.length c0_2] 32 (0, 0)) (have z0_ := BK713; Ze) hg (Kd.S_ne HO_7.out BK713.out (by decide)))
           have n1_ := Aside0.mk (blk_grown (g := gb715) (o := .cells #[.int .i64 ((rd_T43 l0_2 a1).f0), .int .i64 ((rd_T43 l0_2 a1).f1), .string ((rd_T43 l0_2 a1).f2), .int .i64 ((rd_T43 l0_2 a1).f3)] 43 (0, 0)) (have z0_ := BK715; Ze) hg (Kd.S_ne HO_7.out BK715.out (by decide)))
           have n2_ := Aside0.mk (blk_grown (g := gb718) (o := .cells #[.string ((rd_T92 l0_1 t716).f0), .int .i64 ((rd_T92 l0_1 t716).f1), .int .i64 ((rd_T92 l0_1 t716).f2), .int .i64 ((rd_T92 l0_1 t716).f3), .int .i64 ((rd_T92 l0_1 t716).f4), .int .i64 ((rd_T92 l0_1 t716).f5), .int .i64 ((rd_T92 l0_1 t716).f6), .int .i64 ((rd_T92 l0_1 t716).f7), .int .i64 ((rd_T92 l0_1 t716).f8)] 92 (0, 0)) (have z0_ := BK718; Ze) hg (Kd.S_ne HO_7.out BK718.out (by decide)))
           have n3_ := Aside0.mk (Kd.R_over' (have z0_ := HO725; Zq) (Kd.S_typed (have z0_ := HO_7; Zba)) (by decide) hg)
           have n4_ := Aside0.mk (hb)
           have n5_ := Aside0.mk (ho)
           clear BK713
           clear BK715
           clear BK718
           clear HO725
           clear HB
           clear HO_7
           clear HO730
           have BK713 := n0_
           have BK715 := n1_
           have BK718 := n2_
           have HO725 := n3_
           have HB := n4_
           have HO733 := n5_
           clear n0_ n1_ n2_ n3_ n4_ n5_
           clear ho hb hg hat
           refine hK.out _ _ ?_
           clear hK K
           refine norm_ (a' := ?_) ?_ ?_
           rotate_left
           ·show Act.put _ (some 47) _ = _
            simp only [Act.put, List.setIfInBounds_toArray, List.set_cons_zero, List.set_cons_succ, i64_w, i32_w]
            rfl
           refine pureZ HT_ 11 (some 7) (bT 12 12) ?_
           refine done_ (done_of HT_.out Zj) ?_
           try go_wp2
           go_roundg k1
           case measure => have := HK1.out; omega
           case rel => exact ⟨(y731), (wrap64 (x8_1 + 1)), Za, H', ⟨Zt⟩, ⟨by (with_reducible repeat (first | apply Kd.S_alloc | apply Kd.S_drewN | apply Kd.S_drew)); exact Kd.S_mono HO733.out (fun _ hk => trivial)⟩, ⟨(have z0_ := BK713; Ze)⟩, ⟨(have z0_ := BK715; Ze)⟩, ⟨(have z0_ := BK718; Ze)⟩, ⟨(have z0_ := GE713; have z1_ := GE715; have z2_ := GE718; Zl)⟩⟩
          ·rw [if_neg c33] at H
           exact absurd H (by simp)
         ·rw [if_neg c32] at H
          exact absurd H (by simp)
        ·rw [if_neg c31] at H
         exact absurd H (by simp)
       ·rw [if_neg c28] at H
        have c28b0 := decide_eq_false c28
        clear c28
        obtain rfl := Option.some.inj H
        have hnb46 := NB718_713.out
        have hnc46 := NB713_718.out
        have hnb47 := NB718_715.out
        have hnc47 := NB715_718.out
        obtain ⟨hcz48_0, hcz48_1, hcz48_2, hcz48_3, hcz48_4, hcz48_5, hcz48_6, hcz48_7, hcz48_8, hfz48_0, hfz48_1, hfz48_2, hfz48_3, hfz48_4, hfz48_5, hfz48_6, hfz48_7, hfz48_8⟩ := cz9 BK718
        go_wp2
        go_ret
        exact ⟨_, Zk, (have z0_ := HO_7; Zba), (have z0_ := GE713; have z1_ := GE715; have z2_ := GE718; Zl)⟩
    ·rw [if_neg c7] at H
     exact absurd H (by simp)
   ·rw [if_neg c6] at H
    exact absurd H (by simp)
  ·rw [if_neg c4] at H
   exact absurd H (by simp)
 ·rw [if_neg c3] at H
  exact absurd H (by simp)
def spec_l09Before.f (k : Nat) (l0_0 : List (S108)) (l0_1 : List (S92)) (l0_2 : List (S43)) (a1 : Int) (a2 : Int) : Option (Bool) := (spec_l09Cue.f k l0_0 l0_1 l0_2 a1).bind fun t1030 => ((spec_l09Cue.f k l0_0 l0_1 l0_2 a2).bind fun t1033 => (if 0 ≤ (wrap64 ((t1030.length : Int) - 1)) then (if (wrap64 ((t1030.length : Int) - 1)) < (t1030.length : Int) then (if 1 < ((rd_L9 t1030 (wrap64 ((t1030.length : Int) - 1))).length : Int) then (if 0 < (t1033.length : Int) then (if 0 < ((rd_L9 t1033 0).length : Int) then (some (decide ((rd (rd_L9 t1030 (wrap64 ((t1030.length : Int) - 1))) 1) < (rd (rd_L9 t1033 0) 0)))) else (none)) else (none)) else (none)) else (none)) else (none)))
def spec_l09Before.T1 : Bool × List (List Nat × List Nat) := (true, [([], []), ([], []), ([0, 1], [0, 1]), ([], []), ([], []), ([3, 4, 2], [3, 4]), ([2, 5, 0, 1, 2], [2]), ([5, 6, 0, 1, 2, 3, 4, 5, 6], [5])])
def spec_l09Before.B1 : List Nat := [0, 0, 3, 0, 0, 31, 63, 127]
theorem spec_l09Before.tab1 : rtab .any (opsOf Try.f103 1) = spec_l09Before.T1 := by kernel_rfl
theorem spec_l09Before.bits1 : waitsOk spec_l09Before.T1.2 spec_l09Before.B1 = true := by kernel_rfl
def spec_l09Before.T2 : Bool × List (List Nat × List Nat) := (true, [([], []), ([], []), ([1], [1]), ([2], [2]), ([0, 3], [0, 3]), ([4], [4]), ([5], [5]), ([6], [6]), ([], []), ([8], [8]), ([9], [9]), ([10], [10]), ([11], [11]), ([7, 12], [7, 12]), ([13, 0, 1, 2, 3, 4, 5, 6, 7, 8, 9, 10, 11, 12, 13], [13])])
def spec_l09Before.B2 : List Nat := [0, 0, 2, 6, 15, 31, 63, 127, 0, 256, 768, 1792, 3840, 8191, 16383]
theorem spec_l09Before.tab2 : rtab .any (opsOf Try.f103 2) = spec_l09Before.T2 := by kernel_rfl
theorem spec_l09Before.bits2 : waitsOk spec_l09Before.T2.2 spec_l09Before.B2 = true := by kernel_rfl
set_option maxHeartbeats 8000000 in
set_option maxRecDepth 100000 in
theorem spec_l09Before.calls (k : Nat) (A0_0 : Option Addr) (c0_0 : Nat) (l0_0 : List (S108)) (A0_1 : Option Addr) (c0_1 : Nat) (l0_1 : List (S92)) (A0_2 : Option Addr) (c0_2 : Nat) (l0_2 : List (S43)) (a1 : Int) (a2 : Int) (r : Bool) (w : World) (hr0_0 : Kd.C k108 w A0_0 l0_0.length l0_0) (hc0_0 : l0_0.length ≤ c0_0) (hr0_1 : Kd.C k92 w A0_1 l0_1.length l0_1) (hc0_1 : l0_1.length ≤ c0_1) (hr0_2 : Kd.C k43 w A0_2 l0_2.length l0_2) (hc0_2 : l0_2.length ≤ c0_2) (h : spec_l09Before.f k l0_0 l0_1 l0_2 a1 a2 = some r) :
  Calls Try.prog 103 #[.agg #[.slice A0_0 l0_0.length c0_0, .slice A0_1 l0_1.length c0_1, .slice A0_2 l0_2.length c0_2], .int .i64 a1, .int .i64 a2] w fun e w' => e = .returned (.bool r) ∧ Below w.heap.size w w' := by
 have hu32 := Try.underlying32
 have HR0_0 := Aside0.mk hr0_0
 have HC0_0 := Aside0.mk hc0_0
 clear hr0_0 hc0_0
 have HR0_1 := Aside0.mk hr0_1
 have HC0_1 := Aside0.mk hc0_1
 clear hr0_1 hc0_1
 have HR0_2 := Aside0.mk hr0_2
 have HC0_2 := Aside0.mk hc0_2
 clear hr0_2 hc0_2
 have HB := Aside0.mk (Below.refl w.heap.size w)
 have H : ((spec_l09Cue.f k l0_0 l0_1 l0_2 a1).bind fun t1030 => ((spec_l09Cue.f k l0_0 l0_1 l0_2 a2).bind fun t1033 => (if 0 ≤ (wrap64 ((t1030.length : Int) - 1)) then (if (wrap64 ((t1030.length : Int) - 1)) < (t1030.length : Int) then (if 1 < ((rd_L9 t1030 (wrap64 ((t1030.length : Int) - 1))).length : Int) then (if 0 < (t1033.length : Int) then (if 0 < ((rd_L9 t1033 0).length : Int) then (some (decide ((rd (rd_L9 t1030 (wrap64 ((t1030.length : Int) - 1))) 1) < (rd (rd_L9 t1033 0) 0)))) else (none)) else (none)) else (none)) else (none)) else (none)))) = some r := h
 clear h
 replace H := Option.bind_eq_some_iff.mp H
 obtain ⟨t1030, A40, H⟩ := H
 have A4 := Aside0.mk A40
 clear A40
 replace H := Option.bind_eq_some_iff.mp H
 obtain ⟨t1033, A50, H⟩ := H
 have A5 := Aside0.mk A50
 clear A50
 obtain ⟨ji6, hji6⟩ : ∃ j_ : Int, (wrap64 ((t1030.length : Int) - 1)) = j_ := ⟨_, rfl⟩
 replace H : (if 0 ≤ (ji6) then (if (ji6) < (t1030.length : Int) then (if 1 < ((rd_L9 t1030 (ji6)).length : Int) then (if 0 < (t1033.length : Int) then (if 0 < ((rd_L9 t1033 0).length : Int) then (some (decide ((rd (rd_L9 t1030 (ji6)) 1) < (rd (rd_L9 t1033 0) 0)))) else (none)) else (none)) else (none)) else (none)) else (none)) = some r := by first | (rw [hji6] at H; exact H) | (simp only [hji6] at H ⊢; exact H)
 (try rw [hji6] at A4)
 (try rw [hji6] at A5)
 have hji6w : (IntKind.i64.wrap ((t1030.length : Int) - 1)) = ji6 := (i64_w _).trans hji6
 by_cases c7 : 0 ≤ (ji6)
 ·rw [if_pos c7] at H
  have c7b0 := decide_eq_true c7
  clear c7
  by_cases c8 : (ji6) < (t1030.length : Int)
  ·rw [if_pos c8] at H
   have c8b0 := decide_eq_true c8
   clear c8
   by_cases c9 : 1 < ((rd_L9 t1030 (ji6)).length : Int)
   ·rw [if_pos c9] at H
    have c9b0 := decide_eq_true c9
    have c9b1 : decide (1 < (rd_L9 t1030 (ji6)).length) = true := decide_eq_true (by omega)
    clear c9
    by_cases c10 : 0 < (t1033.length : Int)
    ·rw [if_pos c10] at H
     have c10b0 := decide_eq_true c10
     have c10b1 : decide (0 < t1033.length) = true := decide_eq_true (by omega)
     clear c10
     by_cases c11 : 0 < ((rd_L9 t1033 0).length : Int)
     ·rw [if_pos c11] at H
      have c11b0 := decide_eq_true c11
      have c11b1 : decide (0 < (rd_L9 t1033 0).length) = true := decide_eq_true (by omega)
      clear c11
      obtain rfl := Option.some.inj H
      go_enter Try.func103, Try.ntmps103
      try go_wp2_with (first | ((with_reducible refine gate_dst (N := 3) rfl ?_); refine boxZ 3 #[.slice A0_0 l0_0.length c0_0, .slice A0_1 l0_1.length c0_1, .slice A0_2 l0_2.length c0_2] 32 ?_; intro gb1029 hg w12 hbox hb; have n0_ := Aside0.mk (below_step Zc hb); have n1_ := Aside0.mk (hbox); have n2_ := Aside0.mk ((Zd : w.heap.size ≤ gb1029)); have n3_ := Aside0.mk ((Zd : w.heap.size ≤ gb1029)); clear HB; have HB := n0_; have BK1029 := n1_; have GW1029 := n2_; have GE1029 := n3_; clear n0_ n1_ n2_ n3_; clear hb hbox hg))
      have n0_ := Aside0.mk (blk_drew BK1029.out)
      have n1_ := Aside0.mk (below_drew1 HB.out)
      clear BK1029
      clear HB
      have BK1029 := n0_
      have HB := n1_
      clear n0_ n1_
      refine start_ (n := 8) (S := fun w' => w'.cell? ⟨gb1029, 0, none⟩ = some (.slice A0_0 l0_0.length c0_0) ∧ w'.cell? ⟨gb1029, 1, none⟩ = some (.slice A0_1 l0_1.length c0_1) ∧ w'.cell? ⟨gb1029, 2, none⟩ = some (.slice A0_2 l0_2.length c0_2)) (ds := []) (bT 8 0) Zj rfl rfl ⟨(blk_cell BK1029.out 0).trans rfl, (blk_cell BK1029.out 1).trans rfl, (blk_cell BK1029.out 2).trans rfl⟩ (fun hHeld => ?_); refine with_tabW spec_l09Before.tab1 spec_l09Before.bits1 (fun HT_ HW_ => ?_)
      generalize w12.drew = w13 at BK1029 HB hHeld ⊢
      refine pureZ HT_ 1 (some 10) #[false, true, false, false, false, false, false, false] ?_
      refine pureZ HT_ 4 (some 13) #[false, true, false, false, true, false, false, false] ?_
      refine take_ (i := 0) (N := some 9) (v := ?_) (a' := ?_) #[true, true, false, false, true, false, false, false] rfl rfl (take_ofW HT_.out HW_.out Zj) (fun _ _ _ h => h) (Or.inl ⟨by rfl, ?_⟩) hHeld ?_ ?_
      rotate_left
      ·rintro w' ⟨s0, s1, s2⟩
       go_simp
       with_reducible rfl
      rotate_left
      ·exact Zput
      refine take_ (i := 3) (N := some 12) (v := ?_) (a' := ?_) #[true, true, false, true, true, false, false, false] rfl rfl (take_ofW HT_.out HW_.out Zj) (fun _ _ _ h => h) (Or.inl ⟨by rfl, ?_⟩) hHeld ?_ ?_
      rotate_left
      ·rintro w' ⟨s0, s1, s2⟩
       go_simp
       with_reducible rfl
      rotate_left
      ·exact Zput
      refine one_ (i := 2) (N := some 11) (bT 8 5) rfl rfl (one_of HT_.out Zj) (by decide) (fun K hK => ?_)
      refine goes_ Try.func106 Zj rfl #[.agg #[.slice A0_0 l0_0.length c0_0, .slice A0_1 l0_1.length c0_1, .slice A0_2 l0_2.length c0_2], .int .i64 a1] (by rfl) rfl rfl Zo ?_
      with_reducible refine (spec_l09Cue.calls k _ _ l0_0 _ _ l0_1 _ _ l0_2 a1 t1030 _ ?side1 ?side2 ?side3 ?side4 ?side5 ?side6 A4.out).mono ?_
      (case side1 => exact (have z0_ := HR0_0; Zad))
      (case side2 => exact HC0_0.out)
      (case side3 => exact (have z0_ := HR0_1; Zad))
      (case side4 => exact HC0_1.out)
      (case side5 => exact (have z0_ := HR0_2; Zad))
      (case side6 => exact HC0_2.out)
      rintro e w14 ⟨v1031, rfl, ho0, hb⟩
      refine ⟨_, rfl, ?_⟩
      have n0_ := Aside0.mk (Kd.S_lower ho0 (below_size (have z0_ := GE1029; Zf)))
      have n1_ := Aside0.mk (blk_below (g := gb1029) (o := .cells #[.slice A0_0 l0_0.length c0_0, .slice A0_1 l0_1.length c0_1, .slice A0_2 l0_2.length c0_2] 32 (0, 0)) (have z0_ := BK1029; Ze) hb)
      have n2_ := Aside0.mk (below_step (have z0_ := GE1029; Zf) hb)
      clear BK1029
      clear HB
      have HO1032 := n0_
      have BK1029 := n1_
      have HB := n2_
      clear n0_ n1_ n2_
      (try clear hb)
      (try clear hb2)
      (try clear hk)
      (try clear hi)
      (try clear ho0)
      refine hK.out _ _ ⟨(blk_cell BK1029.out 0).trans rfl, (blk_cell BK1029.out 1).trans rfl, (blk_cell BK1029.out 2).trans rfl⟩ (fun hHeld => ?_)
      clear hK K
      refine norm_ (a' := ?_) ?_ ?_
      rotate_left
      ·show Act.put _ (some 11) _ = _
       simp only [Act.put, List.setIfInBounds_toArray, List.set_cons_zero, List.set_cons_succ, i64_w, i32_w]
       rfl
      refine one_ (i := 5) (N := some 14) (bT 8 6) rfl rfl (one_of HT_.out Zj) (by decide) (fun K hK => ?_)
      refine goes_ Try.func106 Zj rfl #[.agg #[.slice A0_0 l0_0.length c0_0, .slice A0_1 l0_1.length c0_1, .slice A0_2 l0_2.length c0_2], .int .i64 a2] (by rfl) rfl rfl Zo ?_
      with_reducible refine (spec_l09Cue.calls k _ _ l0_0 _ _ l0_1 _ _ l0_2 a2 t1033 _ ?side1 ?side2 ?side3 ?side4 ?side5 ?side6 A5.out).mono ?_
      (case side1 => exact (have z0_ := HR0_0; Zad))
      (case side2 => exact HC0_0.out)
      (case side3 => exact (have z0_ := HR0_1; Zad))
      (case side4 => exact HC0_1.out)
      (case side5 => exact (have z0_ := HR0_2; Zad))
      (case side6 => exact HC0_2.out)
      rintro e w15 ⟨v1034, rfl, ho0, hb⟩
      refine ⟨_, rfl, ?_⟩
      have n0_ := Aside0.mk (Kd.S_elder' (have z0_ := HO1032; Zba) (Kd.S_base ho0) hb)
      have n1_ := Aside0.mk (Kd.S_lower (Kd.S_new' ho0 (Kd.S_lt (have z0_ := HO1032; Zba))) (below_size (have z0_ := GE1029; Zf)))
      have n2_ := Aside0.mk (blk_below (g := gb1029) (o := .cells #[.slice A0_0 l0_0.length c0_0, .slice A0_1 l0_1.length c0_1, .slice A0_2 l0_2.length c0_2] 32 (0, 0)) (have z0_ := BK1029; Ze) hb)
      have n3_ := Aside0.mk (below_step (have z0_ := GE1029; Zf) hb)
      clear HO1032
      clear BK1029
      clear HB
      have HO1032 := n0_
      have HO1035 := n1_
      have BK1029 := n2_
      have HB := n3_
      clear n0_ n1_ n2_ n3_
      (try clear hb)
      (try clear hb2)
      (try clear hk)
      (try clear hi)
      (try clear ho0)
      refine hK.out _ _ ⟨(blk_cell BK1029.out 0).trans rfl, (blk_cell BK1029.out 1).trans rfl, (blk_cell BK1029.out 2).trans rfl⟩ (fun hHeld => ?_)
      clear hK K
      refine norm_ (a' := ?_) ?_ ?_
      rotate_left
      ·show Act.put _ (some 14) _ = _
       simp only [Act.put, List.setIfInBounds_toArray, List.set_cons_zero, List.set_cons_succ, i64_w, i32_w]
       rfl
      refine pureZ HT_ 6 (some 7) (bT 8 7) ?_
      refine pureZ HT_ 7 (some 8) (bT 8 8) ?_
      refine done_ (done_of HT_.out Zj) ?_
      try go_wp2
      have n0_ := Aside0.mk (Kd.S_drew HO1032.out)
      have n1_ := Aside0.mk (Kd.S_drew HO1035.out)
      have n2_ := Aside0.mk (blk_drew BK1029.out)
      have n3_ := Aside0.mk (below_drew1 HB.out)
      clear HO1032
      clear HO1035
      clear BK1029
      clear HB
      have HO1032 := n0_
      have HO1035 := n1_
      have BK1029 := n2_
      have HB := n3_
      clear n0_ n1_ n2_ n3_
      obtain ⟨Ao17, co17, eo17⟩ := Kd.S_slice HO1032.out
      (first | subst eo17 | (injection eo17 with f1_ f2_ f3_; have f4_ := f1_.symm; have f5_ := f3_.symm; clear f1_ f2_ f3_; subst f4_; subst f5_))
      have p1036 : 0 ≤ ((ji6) : Int) := of_decide_eq_true Zp
      have q1036 : (ji6) < (t1030.length : Int) := of_decide_eq_true Zp
      obtain ⟨ad1036, A1036_0, c1036_0, e1036, hx1036_0, hl1036_0, hi1036_0⟩ := at_L9 (Kd.S_reads' HO1032.out).2.2 (ji6) p1036 q1036
      cases e1036
      obtain ⟨ce1036, hce1036, hMe1036, hcc1036⟩ := Kd.S_get HO1032.out [] (ji6) p1036 (by first | exact q1036 | exact of_decide_eq_true Zp | (have e_ := (Kd.S_reads' HO1032.out).1; omega))
      obtain ⟨ve1036_0, rfl, ge1036_0⟩ := hMe1036
      have hv1036_0 := hcc1036 0 _ rfl
      rw [Nat.add_zero, show ((Kd.slice 2 (Kd.int .i64))).sz = 1 from rfl, Nat.mul_one] at hv1036_0
      replace hv1036_0 := Option.some.inj (hv1036_0.symm.trans hx1036_0)
      rw [hv1036_0] at ge1036_0
      have HL1036_0 := Aside0.mk (show Kd.R (Kd.int .i64) 2 _ _ _ _ (rd_L9 t1030 (ji6)) from ge1036_0)
      clear hv1036_0 ge1036_0
      clear hcc1036 hce1036
      have HR1036_0 := Aside0.mk hi1036_0
      have HC1036_0 := Aside0.mk hl1036_0
      clear hi1036_0 hl1036_0
      replace p1036 := eq_true p1036
      replace q1036 := eq_true q1036
      have p1037 : 0 ≤ (1 : Int) := (by omega)
      have q1037 : 1 < ((rd_L9 t1030 (ji6)).length : Int) := of_decide_eq_true Zp
      obtain ⟨ad1037, e1037, hx1037_0⟩ := Kd.at_int (have z0_ := HR1036_0; Zbb) 1 p1037 q1037
      cases e1037
      (try simp only [show (1 : Int).toNat = 1 from rfl, Nat.reduceMul, Nat.reduceEqDiff, Go.Addr.add, ↓reduceIte] at hx1037_0)
      have qi1037 : (1 < (rd_L9 t1030 (ji6)).length) = True := eq_true (by omega)
      (try rw [show ((1 : Int)).toNat = 1 from rfl] at hx1037_0)
      replace p1037 := eq_true p1037
      replace q1037 := eq_true q1037
      obtain ⟨Ao18, co18, eo18⟩ := Kd.S_slice HO1035.out
      (first | subst eo18 | (injection eo18 with f1_ f2_ f3_; have f4_ := f1_.symm; have f5_ := f3_.symm; clear f1_ f2_ f3_; subst f4_; subst f5_))
      have p1038 : 0 ≤ (0 : Int) := (by omega)
      have q1038 : 0 < (t1033.length : Int) := of_decide_eq_true Zp
      obtain ⟨ad1038, A1038_0, c1038_0, e1038, hx1038_0, hl1038_0, hi1038_0⟩ := at_L9 (Kd.S_reads' HO1035.out).2.2 0 p1038 q1038
      cases e1038
      obtain ⟨ce1038, hce1038, hMe1038, hcc1038⟩ := Kd.S_get HO1035.out [] 0 p1038 (by first | exact q1038 | exact of_decide_eq_true Zp | (have e_ := (Kd.S_reads' HO1035.out).1; omega))
      obtain ⟨ve1038_0, rfl, ge1038_0⟩ := hMe1038
      have hv1038_0 := hcc1038 0 _ rfl
      rw [Nat.add_zero, show ((Kd.slice 2 (Kd.int .i64))).sz = 1 from rfl, Nat.mul_one] at hv1038_0
      replace hv1038_0 := Option.some.inj (hv1038_0.symm.trans hx1038_0)
      rw [hv1038_0] at ge1038_0
      have HL1038_0 := Aside0.mk (show Kd.R (Kd.int .i64) 2 _ _ _ _ (rd_L9 t1033 0) from ge1038_0)
      clear hv1038_0 ge1038_0
      clear hcc1038 hce1038
      have qi1038 : (0 < t1033.length) = True := eq_true (by omega)
      (try rw [show ((0 : Int)).toNat = 0 from rfl] at hx1038_0)
      (try rw [Addr.add_zero'] at hx1038_0)
      have HR1038_0 := Aside0.mk hi1038_0
      have HC1038_0 := Aside0.mk hl1038_0
      clear hi1038_0 hl1038_0
      replace p1038 := eq_true p1038
      replace q1038 := eq_true q1038
      have p1039 : 0 ≤ (0 : Int) := (by omega)
      have q1039 : 0 < ((rd_L9 t1033 0).length : Int) := of_decide_eq_true Zp
      obtain ⟨ad1039, e1039, hx1039_0⟩ := Kd.at_int (have z0_ := HR1038_0; Zbb) 0 p1039 q1039
      cases e1039
      have qi1039 : (0 < (rd_L9 t1033 0).length) = True := eq_true (by omega)
      (try rw [show ((0 : Int)).toNat = 0 from rfl] at hx1039_0)
      (try rw [Addr.add_zero'] at hx1039_0)
      replace p1039 := eq_true p1039
      replace q1039 := eq_true q1039
      refine start_ (n := 15) (S := fun w' => w'.cell? (ad1036.add ((ji6)).toNat) = some (.slice (some ad1037) (rd_L9 t1030 (ji6)).length c1036_0) ∧ w'.cell? ⟨ad1037.block, ad1037.off + 1, none⟩ = some (.int .i64 (rd (rd_L9 t1030 (ji6)) 1)) ∧ w'.cell? ad1038 = some (.slice (some ad1039) (rd_L9 t1033 0).length c1038_0) ∧ w'.cell? ad1039 = some (.int .i64 (rd (rd_L9 t1033 0) 0))) (ds := []) (bT 15 0) Zj rfl rfl ⟨hx1036_0, hx1037_0, hx1038_0, hx1039_0⟩ (fun hHeld => ?_); refine with_tabW spec_l09Before.tab2 spec_l09Before.bits2 (fun HT_ HW_ => ?_)
      generalize w15.drew = w16 at HO1032 HO1035 BK1029 HB HL1036_0 HL1038_0 HR1036_0 HR1038_0 hx1036_0 hx1037_0 hx1038_0 hx1039_0 hHeld ⊢
      refine pureZ HT_ 0 (some 15) (bT 15 1) ?_
      refine pureZ HT_ 1 (some 16) (bT 15 2) ?_
      refine pureZ HT_ 2 (some 17) (bT 15 3) ?_
      refine pureZ HT_ 3 (some 18) (bT 15 4) ?_
      refine pureZ HT_ 4 (some 19) (bT 15 5) ?_
      refine pureZ HT_ 8 (some 23) #[true, true, true, true, true, false, false, false, true, false, false, false, false, false, false] ?_
      refine pureZ HT_ 9 (some 24) #[true, true, true, true, true, false, false, false, true, true, false, false, false, false, false] ?_
      refine take_ (i := 5) (N := some 20) (v := ?_) (a' := ?_) #[true, true, true, true, true, true, false, false, true, true, false, false, false, false, false] rfl rfl (take_ofW HT_.out HW_.out Zj) (fun _ _ _ h => h) (Or.inl ⟨by rfl, ?_⟩) hHeld ?_ ?_
      rotate_left
      ·rintro w' ⟨s0, s1, s2, s3⟩
       go_simp
       with_reducible rfl
      rotate_left
      ·exact Zput
      refine pureZ HT_ 6 (some 21) #[true, true, true, true, true, true, true, false, true, true, false, false, false, false, false] ?_
      refine take_ (i := 7) (N := some 22) (v := ?_) (a' := ?_) (bT 15 10) rfl rfl (take_ofW HT_.out HW_.out Zj) (fun _ _ _ h => h) (Or.inl ⟨by rfl, ?_⟩) hHeld ?_ ?_
      rotate_left
      ·rintro w' ⟨s0, s1, s2, s3⟩
       go_simp
       with_reducible rfl
      rotate_left
      ·exact Zput
      refine take_ (i := 10) (N := some 25) (v := ?_) (a' := ?_) (bT 15 11) rfl rfl (take_ofW HT_.out HW_.out Zj) (fun _ _ _ h => h) (Or.inl ⟨by rfl, ?_⟩) hHeld ?_ ?_
      rotate_left
      ·rintro w' ⟨s0, s1, s2, s3⟩
       go_simp
       with_reducible rfl
      rotate_left
      ·exact Zput
      refine pureZ HT_ 11 (some 26) (bT 15 12) ?_
      refine take_ (i := 12) (N := some 27) (v := ?_) (a' := ?_) (bT 15 13) rfl rfl (take_ofW HT_.out HW_.out Zj) (fun _ _ _ h => h) (Or.inl ⟨by rfl, ?_⟩) hHeld ?_ ?_
      rotate_left
      ·rintro w' ⟨s0, s1, s2, s3⟩
       go_simp
       with_reducible rfl
      rotate_left
      ·exact Zput
      refine pureZ HT_ 13 (some 28) (bT 15 14) ?_
      refine pureZ HT_ 14 (some 6) (bT 15 15) ?_
      refine done_ (done_of HT_.out Zj) ?_
      try go_wp2
      go_ret
      exact ⟨by first | rfl | (simp [errW_none, errW_some] <;> rfl) | (simp only [← hji6]; first | rfl | (simp [errW_none, errW_some] <;> rfl)) | (simp [*, errW_none, errW_some] <;> rfl), (have z0_ := GE1029; Zf)⟩
     ·rw [if_neg c11] at H
      exact absurd H (by simp)
    ·rw [if_neg c10] at H
     exact absurd H (by simp)
   ·rw [if_neg c9] at H
    exact absurd H (by simp)
  ·rw [if_neg c8] at H
   exact absurd H (by simp)
 ·rw [if_neg c7] at H
  exact absurd H (by simp)
mutual
def spec_UnsurePairs.l0 : Nat → List (List Int) → Int → Int → List (S108) → List (S92) → List (S43) → Option ((List (List Int)) × Int)
 | 0, _, _, _, _, _, _ => none
 | k + 1, x4, x5, x6, x1801000, x1801001, x1801002 => if x6 < x5 then (spec_UnsurePairs.l1 k x4 x5 x6 (wrap64 (x6 + 1)) x1801000 x1801001 x1801002) else (some (x4, 0))
def spec_UnsurePairs.l1 : Nat → List (List Int) → Int → Int → Int → List (S108) → List (S92) → List (S43) → Option ((List (List Int)) × Int)
 | 0, _, _, _, _, _, _, _ => none
 | k + 1, x4, x5, x6, x7, x1801000, x1801001, x1801002 => if x7 < x5 then ((spec_l09Before.f k x1801000 x1801001 x1801002 x6 x7).bind fun t1805 => (if t1805 = true then (spec_UnsurePairs.l1 k x4 x5 x6 (wrap64 (x7 + 1)) x1801000 x1801001 x1801002) else ((spec_l09Before.f k x1801000 x1801001 x1801002 x7 x6).bind fun t1806 => (if t1806 = true then (spec_UnsurePairs.l1 k x4 x5 x6 (wrap64 (x7 + 1)) x1801000 x1801001 x1801002) else (if x4.length < 5864062014805 then (spec_UnsurePairs.l1 k (x4 ++ [(([x6, x7] : List Int))]) x5 x6 (wrap64 (x7 + 1)) x1801000 x1801001 x1801002) else (none)))))) else (spec_UnsurePairs.l0 k x4 x5 (wrap64 (x6 + 1)) x1801000 x1801001 x1801002)
end
def spec_UnsurePairs.f (k : Nat) (l0_0 : List (S108)) (l0_1 : List (S92)) (l0_2 : List (S43)) : Option ((List (List Int)) × Int) := (spec_IsShow.f k l0_0 l0_1 l0_2).bind fun t1801 => (if t1801 = true then (spec_UnsurePairs.l0 k (([] : List (List Int))) (l0_2.length : Int) 0 l0_0 l0_1 l0_2) else (some (([] : List (List Int)), 1)))
set_option maxHeartbeats 8000000 in
set_option maxRecDepth 100000 in
theorem spec_UnsurePairs.calls (k : Nat) (A0_0 : Option Addr) (c0_0 : Nat) (l0_0 : List (S108)) (A0_1 : Option Addr) (c0_1 : Nat) (l0_1 : List (S92)) (A0_2 : Option Addr) (c0_2 : Nat) (l0_2 : List (S43)) (r1 : List (List Int)) (r2 : Int) (w : World) (hr0_0 : Kd.C k108 w A0_0 l0_0.length l0_0) (hc0_0 : l0_0.length ≤ c0_0) (hr0_1 : Kd.C k92 w A0_1 l0_1.length l0_1) (hc0_1 : l0_1.length ≤ c0_1) (hr0_2 : Kd.C k43 w A0_2 l0_2.length l0_2) (hc0_2 : l0_2.length ≤ c0_2) (h : spec_UnsurePairs.f k l0_0 l0_1 l0_2 = some (r1, r2)) :
  Calls Try.prog 63 #[.agg #[.slice A0_0 l0_0.length c0_0, .slice A0_1 l0_1.length c0_1, .slice A0_2 l0_2.length c0_2]] w fun e w' => ∃ v0_ : Value, e = .returned (.tuple #[v0_, .int .i64 r2]) ∧ Kd.S (Kd.slice 2 (Kd.int .i64)) 61 w' w.heap.size (fun _ => True) v0_ r1 ∧ Below w.heap.size w w' := by
 have hu32 := Try.underlying32
 have HR0_0 := Aside0.mk hr0_0
 have HC0_0 := Aside0.mk hc0_0
 clear hr0_0 hc0_0
 have HR0_1 := Aside0.mk hr0_1
 have HC0_1 := Aside0.mk hc0_1
 clear hr0_1 hc0_1
 have HR0_2 := Aside0.mk hr0_2
 have HC0_2 := Aside0.mk hc0_2
 clear hr0_2 hc0_2
 have HB := Aside0.mk (Below.refl w.heap.size w)
 have H : ((spec_IsShow.f k l0_0 l0_1 l0_2).bind fun t1801 => (if t1801 = true then (spec_UnsurePairs.l0 k (([] : List (List Int))) (l0_2.length : Int) 0 l0_0 l0_1 l0_2) else (some (([] : List (List Int)), 1)))) = some (r1, r2) := h
 clear h
 replace H := Option.bind_eq_some_iff.mp H
 obtain ⟨t1801, A20, H⟩ := H
 have A2 := Aside0.mk A20
 clear A20
 by_cases c3 : t1801 = true
 ·subst c3
  have H1 : (spec_UnsurePairs.l0 k (([] : List (List Int))) (l0_2.length : Int) 0 l0_0 l0_1 l0_2) = some (r1, r2) := by rw [if_pos rfl] at H; exact H
  clear H
  have H := H1
  clear H1
  obtain ⟨y1802, hy1802⟩ : ∃ y_ : List (List Int), y_ = (([] : List (List Int))) := ⟨_, rfl⟩
  replace H : (spec_UnsurePairs.l0 k y1802 (l0_2.length : Int) 0 l0_0 l0_1 l0_2) = some (r1, r2) := by (try rw [hy1802]); first | with_reducible exact H | with_reducible exact (Option.bind_some _ _).symm.trans H | exact H
  have Ny1802 := Aside0.mk hy1802
  clear hy1802
  have H' := Aside0.mk H
  clear H
  go_enter Try.func63, Try.ntmps63
  go_wp2_with (first | ((with_reducible refine gate_dst (N := 1) rfl ?_); refine boxZ 1 #[.slice A0_0 l0_0.length c0_0, .slice A0_1 l0_1.length c0_1, .slice A0_2 l0_2.length c0_2] 32 ?_; intro gb1800 hg w4 hbox hb; have n0_ := Aside0.mk (below_step Zc hb); have n1_ := Aside0.mk (hbox); have n2_ := Aside0.mk ((Zd : w.heap.size ≤ gb1800)); have n3_ := Aside0.mk ((Zd : w.heap.size ≤ gb1800)); clear HB; have HB := n0_; have BK1800 := n1_; have GW1800 := n2_; have GE1800 := n3_; clear n0_ n1_ n2_ n3_; clear hb hbox hg; obtain ⟨hcz5_0, hcz5_1, hcz5_2, hfz5_0, hfz5_1, hfz5_2⟩ := cz3 BK1800) | ((with_reducible refine gate_callee (f := 36) rfl ?_); refine goesL_ (some 9) rfl rfl Try.func36 Zj rfl #[.agg #[.slice A0_0 l0_0.length c0_0, .slice A0_1 l0_1.length c0_1, .slice A0_2 l0_2.length c0_2]] rfl Zo ?_; (with_reducible refine (spec_IsShow.calls k _ _ l0_0 _ _ l0_1 _ _ l0_2 true _ ?side1 ?side2 ?side3 ?side4 ?side5 ?side6 A2.out).mono ?_); (case side1 => exact (have z0_ := HR0_0; Zad)); (case side2 => exact HC0_0.out); (case side3 => exact (have z0_ := HR0_1; Zad)); (case side4 => exact HC0_1.out); (case side5 => exact (have z0_ := HR0_2; Zad)); (case side6 => exact HC0_2.out); rintro e w6 ⟨rfl, hb⟩; refine ⟨_, rfl, ?_⟩; have n0_ := Aside0.mk (blk_below (g := gb1800) (o := .cells #[.slice A0_0 l0_0.length c0_0, .slice A0_1 l0_1.length c0_1, .slice A0_2 l0_2.length c0_2] 32 (0, 0)) (have z0_ := BK1800; Ze) hb); have n1_ := Aside0.mk (below_step (have z0_ := GE1800; Zf) hb); clear BK1800; clear HB; have BK1800 := n0_; have HB := n1_; clear n0_ n1_; (try clear hb); (try clear hb2); (try clear hk); (try clear hi)) | ((with_reducible refine gate_dst (N := 11) rfl ?_); refine Kd.S_lit (Kd.slice 2 (Kd.int .i64)) _ 61 ?hg (N := 11) ?hd (xs := ([] : List (List Int))) (inner := []) (ok := fun _ => True) (okp := fun _ => True) ?hr ?hp (fun _ hk => hk) trivial (Below.refl _ _) (Nat.le_refl _) (by simp) ?_; (case hd => rfl); (case hg => rfl); (case hr => first | (go_simp; done) | (go_simp; rfl)); (case hp => exact (Reps.none _ _)); intro v1803 w7 ho8 hb hg_ hnew_; clear hg_ hnew_; (first | rw [← Ny1802.out] at ho8 | (simp only [Int.reduceToNat] at ho8; rw [← Ny1802.out] at ho8)); have n0_ := Aside0.mk (Kd.S_lower ho8 (below_size (have z0_ := GE1800; Zf))); have n1_ := Aside0.mk (blk_below (g := gb1800) (o := .cells #[.slice A0_0 l0_0.length c0_0, .slice A0_1 l0_1.length c0_1, .slice A0_2 l0_2.length c0_2] 32 (0, 0)) (have z0_ := BK1800; Ze) hb); have n2_ := Aside0.mk (below_step (have z0_ := GE1800; Zf) hb); clear BK1800; clear HB; have HO1804 := n0_; have BK1800 := n1_; have HB := n2_; clear n0_ n1_ n2_; clear hb ho8; obtain ⟨hcz9_0, hcz9_1, hcz9_2, hfz9_0, hfz9_1, hfz9_2⟩ := cz3 BK1800))
  go_loopg [4, 6] k (fun kq v4 v6 w' => ∃ (x4_1 : List (List Int)) (x6_1 : Int), v6 = .int .i64 x6_1 ∧ Aside0 (spec_UnsurePairs.l0 kq x4_1 (l0_2.length : Int) x6_1 l0_0 l0_1 l0_2 = some (r1, r2)) ∧ Aside0 (kq ≤ k) ∧ Aside0 (Kd.S (Kd.slice 2 (Kd.int .i64)) 61 w' w.heap.size (fun _ => True) v4 x4_1) ∧ Aside0 (w'.heap[gb1800]? = some (.cells #[(.slice A0_0 l0_0.length c0_0), (.slice A0_1 l0_1.length c0_1), (.slice A0_2 l0_2.length c0_2)] 32 (0, 0))) ∧ Aside0 (Below w.heap.size w w'))
  case atStart => exact ⟨(y1802), (0), Za, H', ⟨Nat.le_refl _⟩, ⟨(have z0_ := HO1804; Zba)⟩, ⟨(have z0_ := BK1800; Ze)⟩, ⟨(have z0_ := GE1800; Zf)⟩⟩
  case round =>
   clear H'
   try clear p2
   try clear c3
   try clear c6
   try clear hcz5_0
   try clear hcz5_1
   try clear hcz5_2
   try clear hcz9_0
   try clear hcz9_1
   try clear hcz9_2
   try clear hfz5_0
   try clear hfz5_1
   try clear hfz5_2
   try clear hfz9_0
   try clear hfz9_1
   try clear hfz9_2
   obtain ⟨x4_1, x6_1, rfl, HA, HK1, HO_4, BK1800, HB⟩ := hrel
   cases gk with
   | zero => exact absurd HA.out (by simp [spec_UnsurePairs.l0])
   | succ k1 =>
    have H := HA.out
    clear HA
    simp only [spec_UnsurePairs.l0] at H
    by_cases c10 : x6_1 < (l0_2.length : Int)
    ·rw [if_pos c10] at H
     have c10b0 := decide_eq_true c10
     clear c10
     have H' := Aside0.mk H
     clear H
     go_wp2
     go_loopg [4, 7] k1 (fun kq v4 v7 w' => ∃ (x4_2 : List (List Int)) (x7_2 : Int), v7 = .int .i64 x7_2 ∧ Aside0 (spec_UnsurePairs.l1 kq x4_2 (l0_2.length : Int) x6_1 x7_2 l0_0 l0_1 l0_2 = some (r1, r2)) ∧ Aside0 (kq ≤ k1) ∧ Aside0 (Kd.S (Kd.slice 2 (Kd.int .i64)) 61 w' w.heap.size (fun _ => True) v4 x4_2) ∧ Aside0 (w'.heap[gb1800]? = some (.cells #[(.slice A0_0 l0_0.length c0_0), (.slice A0_1 l0_1.length c0_1), (.slice A0_2 l0_2.length c0_2)] 32 (0, 0))) ∧ Aside0 (Below w.heap.size w w'))
     case atStart => exact ⟨(x4_1), (wrap64 (x6_1 + 1)), Za, H', ⟨Nat.le_refl _⟩, ⟨(have z0_ := HO_4; Zba)⟩, ⟨(have z0_ := BK1800; Ze)⟩, ⟨(have z0_ := GE1800; Zf)⟩⟩
     case round =>
      clear H'
      try clear c1
      try clear p2
      try clear c3
      try clear c6
      try clear p6
      try clear c10
      try clear c10b0
      try clear hcz5_0
      try clear hcz5_1
      try clear hcz5_2
      try clear hcz9_0
      try clear hcz9_1
      try clear hcz9_2
      try clear hfz5_0
      try clear hfz5_1
      try clear hfz5_2
      try clear hfz9_0
      try clear hfz9_1
      try clear hfz9_2
      try clear p2
      obtain ⟨x4_2, x7_2, rfl, HA, HK2, HO_4, BK1800, HB⟩ := hrel
      cases gk with
      | zero => exact absurd HA.out (by simp [spec_UnsurePairs.l1])
      | succ k2 =>
       have H := HA.out
       clear HA
       simp only [spec_UnsurePairs.l1] at H
       by_cases c11 : x7_2 < (l0_2.length : Int)
       ·rw [if_pos c11] at H
        have c11b0 := decide_eq_true c11
        clear c11
        replace H := Option.bind_eq_some_iff.mp H
        obtain ⟨t1805, A120, H⟩ := H
        have A12 := Aside0.mk A120
        clear A120
        by_cases c13 : t1805 = true
        ·subst c13
         have H1 : (spec_UnsurePairs.l1 k2 x4_2 (l0_2.length : Int) x6_1 (wrap64 (x7_2 + 1)) l0_0 l0_1 l0_2) = some (r1, r2) := by rw [if_pos rfl] at H; exact H
         clear H
         have H := H1
         clear H1
         have H' := Aside0.mk H
         clear H
         obtain ⟨hcz14_0, hcz14_1, hcz14_2, hfz14_0, hfz14_1, hfz14_2⟩ := cz3 BK1800
         go_wp2_with (first | ((with_reducible refine gate_callee (f := 103) rfl ?_); refine goesL_ (some 30) rfl rfl Try.func103 Zj rfl #[.agg #[.slice A0_0 l0_0.length c0_0, .slice A0_1 l0_1.length c0_1, .slice A0_2 l0_2.length c0_2], .int .i64 x6_1, .int .i64 x7_2] rfl Zo ?_; (with_reducible refine (spec_l09Before.calls k2 _ _ l0_0 _ _ l0_1 _ _ l0_2 x6_1 x7_2 true _ ?side1 ?side2 ?side3 ?side4 ?side5 ?side6 A12.out).mono ?_); (case side1 => exact (have z0_ := HR0_0; Zad)); (case side2 => exact HC0_0.out); (case side3 => exact (have z0_ := HR0_1; Zad)); (case side4 => exact HC0_1.out); (case side5 => exact (have z0_ := HR0_2; Zad)); (case side6 => exact HC0_2.out); rintro e w15 ⟨rfl, hb⟩; refine ⟨_, rfl, ?_⟩; have n0_ := Aside0.mk (Kd.S_below (have z0_ := HO_4; Zba) hb); have n1_ := Aside0.mk (blk_below (g := gb1800) (o := .cells #[.slice A0_0 l0_0.length c0_0, .slice A0_1 l0_1.length c0_1, .slice A0_2 l0_2.length c0_2] 32 (0, 0)) (have z0_ := BK1800; Ze) hb); have n2_ := Aside0.mk (below_step (have z0_ := GE1800; Zf) hb); clear HO_4; clear BK1800; clear HB; have HO_4 := n0_; have BK1800 := n1_; have HB := n2_; clear n0_ n1_ n2_; (try clear hb); (try clear hb2); (try clear hk); (try clear hi)))
         go_roundg k2
         case measure => have := HK1.out; have := HK2.out; omega
         case rel => exact ⟨(x4_2), (wrap64 (x7_2 + 1)), Za, H', ⟨Zbc⟩, ⟨(have z0_ := HO_4; Zba)⟩, ⟨(have z0_ := BK1800; Ze)⟩, ⟨(have z0_ := GE1800; Zf)⟩⟩
        ·replace c13 := Bool.eq_false_iff.mpr c13
         subst c13
         have H1 : ((spec_l09Before.f k2 l0_0 l0_1 l0_2 x7_2 x6_1).bind fun t1806 => (if t1806 = true then (spec_UnsurePairs.l1 k2 x4_2 (l0_2.length : Int) x6_1 (wrap64 (x7_2 + 1)) l0_0 l0_1 l0_2) else (if x4_2.length < 5864062014805 then (spec_UnsurePairs.l1 k2 (x4_2 ++ [(([x6_1, x7_2] : List Int))]) (l0_2.length : Int) x6_1 (wrap64 (x7_2 + 1)) l0_0 l0_1 l0_2) else (none)))) = some (r1, r2) := by rw [if_neg (show ¬ (false = true) by decide)] at H; exact H
         clear H
         have H := H1
         clear H1
         replace H := Option.bind_eq_some_iff.mp H
         obtain ⟨t1806, A160, H⟩ := H
         have A16 := Aside0.mk A160
         clear A160
         by_cases c17 : t1806 = true
         ·subst c17
          have H1 : (spec_UnsurePairs.l1 k2 x4_2 (l0_2.length : Int) x6_1 (wrap64 (x7_2 + 1)) l0_0 l0_1 l0_2) = some (r1, r2) := by rw [if_pos rfl] at H; exact H
          clear H
          have H := H1
          clear H1
          have H' := Aside0.mk H
          clear H
          obtain ⟨hcz18_0, hcz18_1, hcz18_2, hfz18_0, hfz18_1, hfz18_2⟩ := cz3 BK1800
          go_wp2_with (first | ((with_reducible refine gate_callee (f := 103) rfl ?_); refine goesL_ (some 30) rfl rfl Try.func103 Zj rfl #[.agg #[.slice A0_0 l0_0.length c0_0, .slice A0_1 l0_1.length c0_1, .slice A0_2 l0_2.length c0_2], .int .i64 x6_1, .int .i64 x7_2] rfl Zo ?_; (with_reducible refine (spec_l09Before.calls k2 _ _ l0_0 _ _ l0_1 _ _ l0_2 x6_1 x7_2 false _ ?side1 ?side2 ?side3 ?side4 ?side5 ?side6 A12.out).mono ?_); (case side1 => exact (have z0_ := HR0_0; Zad)); (case side2 => exact HC0_0.out); (case side3 => exact (have z0_ := HR0_1; Zad)); (case side4 => exact HC0_1.out); (case side5 => exact (have z0_ := HR0_2; Zad)); (case side6 => exact HC0_2.out); rintro e w19 ⟨rfl, hb⟩; refine ⟨_, rfl, ?_⟩; have n0_ := Aside0.mk (Kd.S_below (have z0_ := HO_4; Zba) hb); have n1_ := Aside0.mk (blk_below (g := gb1800) (o := .cells #[.slice A0_0 l0_0.length c0_0, .slice A0_1 l0_1.length c0_1, .slice A0_2 l0_2.length c0_2] 32 (0, 0)) (have z0_ := BK1800; Ze) hb); have n2_ := Aside0.mk (below_step (have z0_ := GE1800; Zf) hb); clear HO_4; clear BK1800; clear HB; have HO_4 := n0_; have BK1800 := n1_; have HB := n2_; clear n0_ n1_ n2_; (try clear hb); (try clear hb2); (try clear hk); (try clear hi); obtain ⟨hcz20_0, hcz20_1, hcz20_2, hfz20_0, hfz20_1, hfz20_2⟩ := cz3 BK1800) | (go_at_call 103; (with_reducible refine (spec_l09Before.calls k2 _ _ l0_0 _ _ l0_1 _ _ l0_2 x7_2 x6_1 true _ ?side1 ?side2 ?side3 ?side4 ?side5 ?side6 A16.out).mono ?_); (case side1 => exact (have z0_ := HR0_0; Zad)); (case side2 => exact HC0_0.out); (case side3 => exact (have z0_ := HR0_1; Zad)); (case side4 => exact HC0_1.out); (case side5 => exact (have z0_ := HR0_2; Zad)); (case side6 => exact HC0_2.out); rintro e w21 ⟨rfl, hb⟩; have n0_ := Aside0.mk (Kd.S_below (have z0_ := HO_4; Zba) hb); have n1_ := Aside0.mk (blk_below (g := gb1800) (o := .cells #[.slice A0_0 l0_0.length c0_0, .slice A0_1 l0_1.length c0_1, .slice A0_2 l0_2.length c0_2] 32 (0, 0)) (have z0_ := BK1800; Ze) hb); have n2_ := Aside0.mk (below_step (have z0_ := GE1800; Zf) hb); clear HO_4; clear BK1800; clear HB; have HO_4 := n0_; have BK1800 := n1_; have HB := n2_; clear n0_ n1_ n2_; (try clear hb); (try clear hb2); (try clear hk); (try clear hi)))
          go_roundg k2
          case measure => have := HK1.out; have := HK2.out; omega
          case rel => exact ⟨(x4_2), (wrap64 (x7_2 + 1)), Za, H', ⟨Zbc⟩, ⟨(have z0_ := HO_4; Zba)⟩, ⟨(have z0_ := BK1800; Ze)⟩, ⟨(have z0_ := GE1800; Zf)⟩⟩
         ·replace c17 := Bool.eq_false_iff.mpr c17
          subst c17
          have H1 : (if x4_2.length < 5864062014805 then (spec_UnsurePairs.l1 k2 (x4_2 ++ [(([x6_1, x7_2] : List Int))]) (l0_2.length : Int) x6_1 (wrap64 (x7_2 + 1)) l0_0 l0_1 l0_2) else (none)) = some (r1, r2) := by rw [if_neg (show ¬ (false = true) by decide)] at H; exact H
          clear H
          have H := H1
          clear H1
          obtain ⟨y1807, hy1807⟩ : ∃ y_ : List Int, y_ = (([x6_1, x7_2] : List Int)) := ⟨_, rfl⟩
          replace H : (if x4_2.length < 5864062014805 then (spec_UnsurePairs.l1 k2 (x4_2 ++ [y1807]) (l0_2.length : Int) x6_1 (wrap64 (x7_2 + 1)) l0_0 l0_1 l0_2) else (none)) = some (r1, r2) := by (try rw [hy1807]); first | with_reducible exact H | with_reducible exact (Option.bind_some _ _).symm.trans H | exact H
          have Ny1807 := Aside0.mk hy1807
          clear hy1807
          by_cases c22 : x4_2.length < 5864062014805
          ·rw [if_pos c22] at H
           have LMc22 := Aside0.mk c22
           clear c22
           obtain ⟨y1810, hy1810⟩ : ∃ y_ : List (List Int), y_ = (x4_2 ++ [y1807]) := ⟨_, rfl⟩
           replace H : (spec_UnsurePairs.l1 k2 y1810 (l0_2.length : Int) x6_1 (wrap64 (x7_2 + 1)) l0_0 l0_1 l0_2) = some (r1, r2) := by (try rw [hy1810]); first | with_reducible exact H | with_reducible exact (Option.bind_some _ _).symm.trans H | exact H
           have Ny1810 := Aside0.mk hy1810
           clear hy1810
           have H' := Aside0.mk H
           clear H
           obtain ⟨hcz23_0, hcz23_1, hcz23_2, hfz23_0, hfz23_1, hfz23_2⟩ := cz3 BK1800
           go_wp2_with (first | ((with_reducible refine gate_callee (f := 103) rfl ?_); refine goesL_ (some 30) rfl rfl Try.func103 Zj rfl #[.agg #[.slice A0_0 l0_0.length c0_0, .slice A0_1 l0_1.length c0_1, .slice A0_2 l0_2.length c0_2], .int .i64 x6_1, .int .i64 x7_2] rfl Zo ?_; (with_reducible refine (spec_l09Before.calls k2 _ _ l0_0 _ _ l0_1 _ _ l0_2 x6_1 x7_2 false _ ?side1 ?side2 ?side3 ?side4 ?side5 ?side6 A12.out).mono ?_); (case side1 => exact (have z0_ := HR0_0; Zad)); (case side2 => exact HC0_0.out); (case side3 => exact (have z0_ := HR0_1; Zad)); (case side4 => exact HC0_1.out); (case side5 => exact (have z0_ := HR0_2; Zad)); (case side6 => exact HC0_2.out); rintro e w24 ⟨rfl, hb⟩; refine ⟨_, rfl, ?_⟩; have n0_ := Aside0.mk (Kd.S_below (have z0_ := HO_4; Zba) hb); have n1_ := Aside0.mk (blk_below (g := gb1800) (o := .cells #[.slice A0_0 l0_0.length c0_0, .slice A0_1 l0_1.length c0_1, .slice A0_2 l0_2.length c0_2] 32 (0, 0)) (have z0_ := BK1800; Ze) hb); have n2_ := Aside0.mk (below_step (have z0_ := GE1800; Zf) hb); clear HO_4; clear BK1800; clear HB; have HO_4 := n0_; have BK1800 := n1_; have HB := n2_; clear n0_ n1_ n2_; (try clear hb); (try clear hb2); (try clear hk); (try clear hi); obtain ⟨hcz25_0, hcz25_1, hcz25_2, hfz25_0, hfz25_1, hfz25_2⟩ := cz3 BK1800) | (go_at_call 103; (with_reducible refine (spec_l09Before.calls k2 _ _ l0_0 _ _ l0_1 _ _ l0_2 x7_2 x6_1 false _ ?side1 ?side2 ?side3 ?side4 ?side5 ?side6 A16.out).mono ?_); (case side1 => exact (have z0_ := HR0_0; Zad)); (case side2 => exact HC0_0.out); (case side3 => exact (have z0_ := HR0_1; Zad)); (case side4 => exact HC0_1.out); (case side5 => exact (have z0_ := HR0_2; Zad)); (case side6 => exact HC0_2.out); rintro e w26 ⟨rfl, hb⟩; have n0_ := Aside0.mk (Kd.S_below (have z0_ := HO_4; Zba) hb); have n1_ := Aside0.mk (blk_below (g := gb1800) (o := .cells #[.slice A0_0 l0_0.length c0_0, .slice A0_1 l0_1.length c0_1, .slice A0_2 l0_2.length c0_2] 32 (0, 0)) (have z0_ := BK1800; Ze) hb); have n2_ := Aside0.mk (below_step (have z0_ := GE1800; Zf) hb); clear HO_4; clear BK1800; clear HB; have HO_4 := n0_; have BK1800 := n1_; have HB := n2_; clear n0_ n1_ n2_; (try clear hb); (try clear hb2); (try clear hk); (try clear hi)) | ((with_reducible refine gate_dst (N := 42) rfl ?_); refine Kd.R_lit (Kd.int .i64) _ 2 ?hg (N := 42) ?hd (xs := ([x6_1, x7_2] : List Int)) (inner := [.int .i64 x6_1, .int .i64 x7_2]) (ok := fun _ => True) (okp := fun _ => True) ?hr ?hp (fun _ hk => hk) trivial (Below.refl _ _) (Nat.le_refl _) (by simp) ?_; (case hd => rfl); (case hg => rfl); (case hr => first | (go_simp; done) | (go_simp; rfl)); (case hp => exact (Reps.one (show Kd.M (Kd.int .i64) _ _ _ x6_1 [.int .i64 x6_1] from rfl) (Reps.one (show Kd.M (Kd.int .i64) _ _ _ x7_2 [.int .i64 x7_2] from rfl) (Reps.none _ _)))); intro v1808 w27 ho28 hb hg_ hnew_; clear hg_ hnew_; (first | rw [← Ny1807.out] at ho28 | (simp only [Int.reduceToNat] at ho28; rw [← Ny1807.out] at ho28)); have n0_ := Aside0.mk (Kd.S_elder' (have z0_ := HO_4; Zba) (Kd.R_base ho28) hb); have n1_ := Aside0.mk (Kd.R_lower ho28 (below_size (have z0_ := GE1800; Zf))); have n2_ := Aside0.mk (blk_below (g := gb1800) (o := .cells #[.slice A0_0 l0_0.length c0_0, .slice A0_1 l0_1.length c0_1, .slice A0_2 l0_2.length c0_2] 32 (0, 0)) (have z0_ := BK1800; Ze) hb); have n3_ := Aside0.mk (below_step (have z0_ := GE1800; Zf) hb); clear HO_4; clear BK1800; clear HB; have HO_4 := n0_; have HO1809 := n1_; have BK1800 := n2_; have HB := n3_; clear n0_ n1_ n2_ n3_; clear hb ho28; obtain ⟨Ao30, co30, eo30⟩ := Kd.R_slice HO1809.out; subst eo30) | ((with_reducible refine gate_builtin (b := .append) (xs := #[.tmp 39, .tmp 43]) rfl ?_); at_builtin; refine Kd.S_append (Kd.slice 2 (Kd.int .i64)) (w0 := w) w.heap.size rfl (.tmp 39) (.tmp 43) 46 61 (.slice none 0 0) 24 rfl Try.underlying46 info61 rfl (by decide) (by omega) u4 x4_2 y1807 [.slice Ao30 y1807.length co30] (fun _ => True) (fun k_ => some k_ = (.slice Ao30 y1807.length co30 : Value).ownBlock) rfl rfl ?aP (fun k_ hk_ => ((Kd.R_mono (ok' := fun k_ => ((fun _ => True)) k_ ∧ some k_ ≠ (u4 : Value).ownBlock) (Kd.R_apart' (HO1809.out) (Kd.S_typed HO_4.out) (by decide)) (fun k_ hk => ⟨trivial, hk.2⟩))).1 k_ hk_.symm) ?aF ?aO ?aB ?aS ?aL ?_; (case aP => exact Kd.M_row (Kd.R_mono (Kd.R_tight rfl (Kd.R_mono (ok' := fun k_ => ((fun _ => True)) k_ ∧ some k_ ≠ (u4 : Value).ownBlock) (Kd.R_apart' (HO1809.out) (Kd.S_typed HO_4.out) (by decide)) (fun k_ hk => ⟨trivial, hk.2⟩))) (fun _ h_ => h_))); (case aB => exact (have z0_ := GE1800; Zf)); (case aF => exact (fun _ _ => trivial)); (case aO => exact (have z0_ := HO_4; Zbd)); (case aS => exact (below_size (have z0_ := GE1800; Zf))); (case aL => have := LMc22.out; omega); intro v1811 w29 ho hb hg hat; rw [← Ny1810.out] at ho; have n0_ := Aside0.mk (blk_grown (g := gb1800) (o := .cells #[.slice A0_0 l0_0.length c0_0, .slice A0_1 l0_1.length c0_1, .slice A0_2 l0_2.length c0_2] 32 (0, 0)) (have z0_ := BK1800; Ze) hg (Kd.S_ne HO_4.out BK1800.out (by decide))); have n1_ := Aside0.mk (hb); have n2_ := Aside0.mk (ho); clear BK1800; clear HB; clear HO_4; clear HO1809; have BK1800 := n0_; have HB := n1_; have HO1812 := n2_; clear n0_ n1_ n2_; clear ho hb hg hat))
           go_roundg k2
           case measure => have := HK1.out; have := HK2.out; omega
           case rel => exact ⟨(y1810), (wrap64 (x7_2 + 1)), Za, H', ⟨Zbc⟩, ⟨(have z0_ := HO1812; Zba)⟩, ⟨(have z0_ := BK1800; Ze)⟩, ⟨(have z0_ := GE1800; Zf)⟩⟩
          ·rw [if_neg c22] at H
           exact absurd H (by simp)
       ·rw [if_neg c11] at H
        have c11b0 := decide_eq_false c11
        clear c11
        have H' := Aside0.mk H
        clear H
        go_wp2
        go_roundg k2
        case measure => have := HK1.out; have := HK2.out; omega
        case rel => exact ⟨(x4_2), (wrap64 (x6_1 + 1)), Za, H', ⟨Zbc⟩, ⟨(have z0_ := HO_4; Zba)⟩, ⟨(have z0_ := BK1800; Ze)⟩, ⟨(have z0_ := GE1800; Zf)⟩⟩
    ·rw [if_neg c10] at H
     have c10b0 := decide_eq_false c10
     clear c10
     simp only [Option.some.injEq, Prod.mk.injEq] at H
     obtain ⟨rfl, rfl⟩ := H
     go_wp2
     go_ret2
     exact ⟨_, Zk, (have z0_ := HO_4; Zba), (have z0_ := GE1800; Zf)⟩
 ·replace c3 := Bool.eq_false_iff.mpr c3
  subst c3
  have H1 : (some (([] : List (List Int)), 1)) = some (r1, r2) := by rw [if_neg (show ¬ (false = true) by decide)] at H; exact H
  clear H
  have H := H1
  clear H1
  simp only [Option.some.injEq, Prod.mk.injEq] at H
  obtain ⟨rfl, rfl⟩ := H
  go_enter Try.func63, Try.ntmps63
  go_wp2_with (first | ((with_reducible refine gate_dst (N := 1) rfl ?_); refine boxZ 1 #[.slice A0_0 l0_0.length c0_0, .slice A0_1 l0_1.length c0_1, .slice A0_2 l0_2.length c0_2] 32 ?_; intro gb1800 hg w31 hbox hb; have n0_ := Aside0.mk (below_step Zc hb); have n1_ := Aside0.mk (hbox); have n2_ := Aside0.mk ((Zd : w.heap.size ≤ gb1800)); have n3_ := Aside0.mk ((Zd : w.heap.size ≤ gb1800)); clear HB; have HB := n0_; have BK1800 := n1_; have GW1800 := n2_; have GE1800 := n3_; clear n0_ n1_ n2_ n3_; clear hb hbox hg; obtain ⟨hcz32_0, hcz32_1, hcz32_2, hfz32_0, hfz32_1, hfz32_2⟩ := cz3 BK1800) | ((with_reducible refine gate_callee (f := 36) rfl ?_); refine goesL_ (some 9) rfl rfl Try.func36 Zj rfl #[.agg #[.slice A0_0 l0_0.length c0_0, .slice A0_1 l0_1.length c0_1, .slice A0_2 l0_2.length c0_2]] rfl Zo ?_; (with_reducible refine (spec_IsShow.calls k _ _ l0_0 _ _ l0_1 _ _ l0_2 false _ ?side1 ?side2 ?side3 ?side4 ?side5 ?side6 A2.out).mono ?_); (case side1 => exact (have z0_ := HR0_0; Zad)); (case side2 => exact HC0_0.out); (case side3 => exact (have z0_ := HR0_1; Zad)); (case side4 => exact HC0_1.out); (case side5 => exact (have z0_ := HR0_2; Zad)); (case side6 => exact HC0_2.out); rintro e w33 ⟨rfl, hb⟩; refine ⟨_, rfl, ?_⟩; have n0_ := Aside0.mk (blk_below (g := gb1800) (o := .cells #[.slice A0_0 l0_0.length c0_0, .slice A0_1 l0_1.length c0_1, .slice A0_2 l0_2.length c0_2] 32 (0, 0)) (have z0_ := BK1800; Ze) hb); have n1_ := Aside0.mk (below_step (have z0_ := GE1800; Zf) hb); clear BK1800; clear HB; have BK1800 := n0_; have HB := n1_; clear n0_ n1_; (try clear hb); (try clear hb2); (try clear hk); (try clear hi)))
  go_ret2
  exact ⟨_, Zk, Zbe, (have z0_ := GE1800; Zf)⟩
def impl_within.f (a0 : Int) (a1 : Int) (a2 : Int) : Option (Bool) := if a1 ≤ a0 then (some (decide (a0 ≤ a2))) else (some false)
set_option maxHeartbeats 8000000 in
set_option maxRecDepth 100000 in
theorem impl_within.calls (a0 : Int) (a1 : Int) (a2 : Int) (r : Bool) (w : World) (h : impl_within.f a0 a1 a2 = some r) :
  Calls Try.prog 89 #[.int .i64 a0, .int .i64 a1, .int .i64 a2] w fun e w' => e = .returned (.bool r) ∧ Drawn0 w w' := by
 have H : (if a1 ≤ a0 then (some (decide (a0 ≤ a2))) else (some false)) = some r := h
 clear h
 by_cases c4 : a1 ≤ a0
 ·rw [if_pos c4] at H
  have c4b0 := decide_eq_true c4
  clear c4
  obtain rfl := Option.some.inj H
  go_enter Try.func89, Try.ntmps89
  go_wp2
  go_ret
  exact ⟨Za, Zb⟩
 ·rw [if_neg c4] at H
  have c4b0 := decide_eq_false c4
  clear c4
  obtain rfl := Option.some.inj H
  go_enter Try.func89, Try.ntmps89
  go_wp2
  go_ret
  exact ⟨Za, Zb⟩
mutual
def impl_IsScore.j0 : Nat → List (S108) → Bool → Option (Bool)
 | 0, _, _ => none
 | k + 1, x0, x12 => if x12 = true then (some false) else (impl_IsScore.l0 k x0 (x0.length : Int) 0)
def impl_IsScore.l0 : Nat → List (S108) → Int → Int → Option (Bool)
 | 0, _, _, _ => none
 | k + 1, x13, x14, x15 => if x15 < x14 then (if 0 ≤ x15 then (if x15 < (x13.length : Int) then ((impl_within.f ((rd_T108 x13 x15).f0) 1 16).bind fun t288 => (if t288 = true then ((impl_within.f ((rd_T108 x13 x15).f1) 100 5000).bind fun t289 => (if t289 = true then (impl_IsScore.l0 k x13 x14 (wrap64 (x15 + 1))) else (some false))) else (some false))) else (none)) else (none)) else (some true)
end
def impl_IsScore.f (k : Nat) (l0 : List (S108)) : Option (Bool) := if (l0.length : Int) < 1 then (impl_IsScore.j0 k l0 true) else (impl_IsScore.j0 k l0 (decide ((l0.length : Int) > 20)))
set_option maxHeartbeats 8000000 in
set_option maxRecDepth 100000 in
theorem impl_IsScore.calls (k : Nat) (A0 : Option Addr) (c0 : Nat) (l0 : List (S108)) (r : Bool) (w : World) (hr0 : Kd.C k108 w A0 l0.length l0) (hc0 : l0.length ≤ c0) (h : impl_IsScore.f k l0 = some r) :
  Calls Try.prog 96 #[.slice A0 l0.length c0] w fun e w' => e = .returned (.bool r) ∧ Below w.heap.size w w' := by
 have hu108 := Try.underlying108
 have HR0 := Aside0.mk hr0
 have HC0 := Aside0.mk hc0
 clear hr0 hc0
 have HB := Aside0.mk (Below.refl w.heap.size w)
 have H : (if (l0.length : Int) < 1 then (impl_IsScore.j0 k l0 true) else (impl_IsScore.j0 k l0 (decide ((l0.length : Int) > 20)))) = some r := h
 clear h
 have HC2 := Aside0.mk H
 clear H
 go_enter Try.func96, Try.ntmps96
 go_upto_region 1 with (fail)
 go_cut [12] (fun v12 wc => ∃ (kq : Nat) (x12_1 : Bool), v12 = .bool x12_1 ∧ Aside0 (impl_IsScore.j0 kq l0 x12_1 = some r) ∧ Aside0 (kq ≤ k) ∧ Aside0 (Below w.heap.size w wc))
 case first =>
  have H := HC2.out
  clear HC2
  by_cases c3 : (l0.length : Int) < 1
  ·rw [if_pos c3] at H
   have c3b0 := decide_eq_true c3
   have c3b1 : decide (l0.length < 1) = true := decide_eq_true (by omega)
   clear c3
   (first | rw [c3b0] | (simp only [i64_w, i32_w]; rw [c3b0]) | skip)
   have H' := Aside0.mk H
   clear H
   go_wp2
   go_meet
   case rel => exact ⟨_, (true), Za, H', ⟨Zm⟩, ⟨Zc⟩⟩
  ·rw [if_neg c3] at H
   have c3b0 := decide_eq_false c3
   have c3b1 : decide (l0.length < 1) = false := decide_eq_false (by omega)
   clear c3
   (first | rw [c3b0] | (simp only [i64_w, i32_w]; rw [c3b0]) | skip)
   have H' := Aside0.mk H
   clear H
   go_wp2
   go_meet
   case rel => exact ⟨_, (decide ((l0.length : Int) > 20)), Za, H', ⟨Zm⟩, ⟨Zc⟩⟩
 case rest =>
  clear HC2
  try clear p2
  try clear c3
  try clear c3b0
  try clear c3b1
  obtain ⟨kq, x12_1, rfl, HA, HJ1, HB⟩ := hcut
  cases kq with
  | zero => exact absurd HA.out (by simp [impl_IsScore.j0])
  | succ kj1 =>
   have H := HA.out
   clear HA
   simp only [impl_IsScore.j0] at H
   by_cases c4 : x12_1 = true
   ·subst c4
    have H1 : (some false) = some r := by rw [if_pos rfl] at H; exact H
    clear H
    have H := H1
    clear H1
    obtain rfl := Option.some.inj H
    go_wp2
    go_ret
    exact ⟨Zk, Zc⟩
   ·replace c4 := Bool.eq_false_iff.mpr c4
    subst c4
    have H1 : (impl_IsScore.l0 kj1 l0 (l0.length : Int) 0) = some r := by rw [if_neg (show ¬ (false = true) by decide)] at H; exact H
    clear H
    have H := H1
    clear H1
    have H' := Aside0.mk H
    clear H
    go_wp2
    go_loopg [15] kj1 (fun kq v15 w' => ∃ (x15_2 : Int), v15 = .int .i64 x15_2 ∧ Aside0 (impl_IsScore.l0 kq l0 (l0.length : Int) x15_2 = some r) ∧ Aside0 (kq ≤ kj1) ∧ Aside0 (Below w.heap.size w w'))
    case atStart => exact ⟨(0), Za, H', ⟨Nat.le_refl _⟩, ⟨Zc⟩⟩
    case round =>
     clear H'
     try clear p2
     try clear c3
     try clear c3b0
     try clear c3b1
     try clear c4
     try clear p2
     obtain ⟨x15_2, rfl, HA, HK2, HB⟩ := hrel
     cases gk with
     | zero => exact absurd HA.out (by simp [impl_IsScore.l0])
     | succ k2 =>
      have H := HA.out
      clear HA
      simp only [impl_IsScore.l0] at H
      by_cases c5 : x15_2 < (l0.length : Int)
      ·rw [if_pos c5] at H
       have c5b0 := decide_eq_true c5
       clear c5
       by_cases c6 : 0 ≤ x15_2
       ·rw [if_pos c6] at H
        have c6b0 := decide_eq_true c6
        clear c6
        by_cases c7 : x15_2 < (l0.length : Int)
        ·rw [if_pos c7] at H
         have c7b0 := decide_eq_true c7
         clear c7
         replace H := Option.bind_eq_some_iff.mp H
         obtain ⟨t288, A80, H⟩ := H
         have A8 := Aside0.mk A80
         clear A80
         by_cases c9 : t288 = true
         ·subst c9
          have H1 : ((impl_within.f ((rd_T108 l0 x15_2).f1) 100 5000).bind fun t289 => (if t289 = true then (impl_IsScore.l0 k2 l0 (l0.length : Int) (wrap64 (x15_2 + 1))) else (some false))) = some r := by rw [if_pos rfl] at H; exact H
          clear H
          have H := H1
          clear H1
          replace H := Option.bind_eq_some_iff.mp H
          obtain ⟨t289, A100, H⟩ := H
          have A10 := Aside0.mk A100
          clear A100
          by_cases c11 : t289 = true
          ·subst c11
           have H1 : (impl_IsScore.l0 k2 l0 (l0.length : Int) (wrap64 (x15_2 + 1))) = some r := by rw [if_pos rfl] at H; exact H
           clear H
           have H := H1
           clear H1
           have H' := Aside0.mk H
           clear H
           have p286 : 0 ≤ (x15_2 : Int) := of_decide_eq_true Zp
           have q286 : x15_2 < (l0.length : Int) := of_decide_eq_true Zp
           obtain ⟨ad286, e286, hx286_0, hx286_1⟩ := at_T108 HR0.out x15_2 p286 q286
           cases e286
           replace hx286_0 := cbH HB hx286_0
           replace hx286_1 := cbH HB hx286_1
           replace p286 := eq_true p286
           replace q286 := eq_true q286
           go_wp2_with (first | ((with_reducible refine gate_dst (N := 4) rfl ?_); (try (refine gate_guard (by rfl) ?_; dsimp only)); refine boxZ 4 #[.int .i64 0, .int .i64 0] 108 ?_; intro gb287 hg w12 hbox hb; have n0_ := Aside0.mk (below_step Zc hb); have n1_ := Aside0.mk (hbox); have n2_ := Aside0.mk ((Zd : w.heap.size ≤ gb287)); have n3_ := Aside0.mk ((Zd : w.heap.size ≤ gb287)); clear HB; have HB := n0_; have BK287 := n1_; have GW287 := n2_; have GE287 := n3_; clear n0_ n1_ n2_ n3_; clear hb hbox hg; obtain ⟨hcz13_0, hcz13_1, hfz13_0, hfz13_1⟩ := cz2 BK287) | ((with_reducible refine gate_callee (f := 89) rfl ?_); refine goesL_ (some 21) rfl rfl Try.func89 Zj rfl #[.int .i64 ((rd_T108 l0 x15_2).f0), .int .i64 1, .int .i64 16] rfl Zo ?_; (with_reducible refine (impl_within.calls ((rd_T108 l0 x15_2).f0) 1 16 true _ A8.out).mono ?_); rintro e w' ⟨rfl, ⟨nd, rfl⟩⟩; refine ⟨_, rfl, ?_⟩) | (go_at_call 89; (with_reducible refine (impl_within.calls ((rd_T108 l0 x15_2).f1) 100 5000 true _ A10.out).mono ?_); rintro e w' ⟨rfl, ⟨nd, rfl⟩⟩))
           go_roundg k2
           case measure => have := HJ1.out; have := HK2.out; omega
           case rel => exact ⟨(wrap64 (x15_2 + 1)), Za, H', ⟨by have := HJ1.out; have := HK2.out; omega⟩, ⟨(have z0_ := GE287; Zf)⟩⟩
          ·replace c11 := Bool.eq_false_iff.mpr c11
           subst c11
           have H1 : (some false) = some r := by rw [if_neg (show ¬ (false = true) by decide)] at H; exact H
           clear H
           have H := H1
           clear H1
           obtain rfl := Option.some.inj H
           have p286 : 0 ≤ (x15_2 : Int) := of_decide_eq_true Zp
           have q286 : x15_2 < (l0.length : Int) := of_decide_eq_true Zp
           obtain ⟨ad286, e286, hx286_0, hx286_1⟩ := at_T108 HR0.out x15_2 p286 q286
           cases e286
           replace hx286_0 := cbH HB hx286_0
           replace hx286_1 := cbH HB hx286_1
           replace p286 := eq_true p286
           replace q286 := eq_true q286
           go_wp2_with (first | ((with_reducible refine gate_dst (N := 4) rfl ?_); (try (refine gate_guard (by rfl) ?_; dsimp only)); refine boxZ 4 #[.int .i64 0, .int .i64 0] 108 ?_; intro gb287 hg w14 hbox hb; have n0_ := Aside0.mk (below_step Zc hb); have n1_ := Aside0.mk (hbox); have n2_ := Aside0.mk ((Zd : w.heap.size ≤ gb287)); have n3_ := Aside0.mk ((Zd : w.heap.size ≤ gb287)); clear HB; have HB := n0_; have BK287 := n1_; have GW287 := n2_; have GE287 := n3_; clear n0_ n1_ n2_ n3_; clear hb hbox hg; obtain ⟨hcz15_0, hcz15_1, hfz15_0, hfz15_1⟩ := cz2 BK287) | ((with_reducible refine gate_callee (f := 89) rfl ?_); refine goesL_ (some 21) rfl rfl Try.func89 Zj rfl #[.int .i64 ((rd_T108 l0 x15_2).f0), .int .i64 1, .int .i64 16] rfl Zo ?_; (with_reducible refine (impl_within.calls ((rd_T108 l0 x15_2).f0) 1 16 true _ A8.out).mono ?_); rintro e w' ⟨rfl, ⟨nd, rfl⟩⟩; refine ⟨_, rfl, ?_⟩) | (go_at_call 89; (with_reducible refine (impl_within.calls ((rd_T108 l0 x15_2).f1) 100 5000 false _ A10.out).mono ?_); rintro e w' ⟨rfl, ⟨nd, rfl⟩⟩))
           go_ret
           exact ⟨Zk, (have z0_ := GE287; Zf)⟩
         ·replace c9 := Bool.eq_false_iff.mpr c9
          subst c9
          have H1 : (some false) = some r := by rw [if_neg (show ¬ (false = true) by decide)] at H; exact H
          clear H
          have H := H1
          clear H1
          obtain rfl := Option.some.inj H
          have p286 : 0 ≤ (x15_2 : Int) := of_decide_eq_true Zp
          have q286 : x15_2 < (l0.length : Int) := of_decide_eq_true Zp
          obtain ⟨ad286, e286, hx286_0, hx286_1⟩ := at_T108 HR0.out x15_2 p286 q286
          cases e286
          replace hx286_0 := cbH HB hx286_0
          replace hx286_1 := cbH HB hx286_1
          replace p286 := eq_true p286
          replace q286 := eq_true q286
          go_wp2_with (first | ((with_reducible refine gate_dst (N := 4) rfl ?_); (try (refine gate_guard (by rfl) ?_; dsimp only)); refine boxZ 4 #[.int .i64 0, .int .i64 0] 108 ?_; intro gb287 hg w16 hbox hb; have n0_ := Aside0.mk (below_step Zc hb); have n1_ := Aside0.mk (hbox); have n2_ := Aside0.mk ((Zd : w.heap.size ≤ gb287)); have n3_ := Aside0.mk ((Zd : w.heap.size ≤ gb287)); clear HB; have HB := n0_; have BK287 := n1_; have GW287 := n2_; have GE287 := n3_; clear n0_ n1_ n2_ n3_; clear hb hbox hg; obtain ⟨hcz17_0, hcz17_1, hfz17_0, hfz17_1⟩ := cz2 BK287) | ((with_reducible refine gate_callee (f := 89) rfl ?_); refine goesL_ (some 21) rfl rfl Try.func89 Zj rfl #[.int .i64 ((rd_T108 l0 x15_2).f0), .int .i64 1, .int .i64 16] rfl Zo ?_; (with_reducible refine (impl_within.calls ((rd_T108 l0 x15_2).f0) 1 16 false _ A8.out).mono ?_); rintro e w' ⟨rfl, ⟨nd, rfl⟩⟩; refine ⟨_, rfl, ?_⟩))
          go_ret
          exact ⟨Zk, (have z0_ := GE287; Zf)⟩
        ·rw [if_neg c7] at H
         exact absurd H (by simp)
       ·rw [if_neg c6] at H
        exact absurd H (by simp)
      ·rw [if_neg c5] at H
       have c5b0 := decide_eq_false c5
       clear c5
       obtain rfl := Option.some.inj H
       go_wp2
       go_ret
       exact ⟨Zk, Zc⟩
mutual
def impl_IsWord.j0 : Nat → ByteArray → Bool → Option (Bool)
 | 0, _, _ => none
 | k + 1, x0, x11 => if x11 = true then (some false) else (impl_IsWord.l0 k x0 0)
def impl_IsWord.l0 : Nat → ByteArray → Int → Option (Bool)
 | 0, _, _ => none
 | k + 1, x0, x3 => if x3 < (x0.size : Int) then (if 0 ≤ x3 then (if (bt x0 x3) < 97 then (some false) else (if (bt x0 x3) > 122 then (some false) else (impl_IsWord.l0 k x0 (wrap64 (x3 + 1))))) else (none)) else (some true)
end
def impl_IsWord.f (k : Nat) (a0 : ByteArray) : Option (Bool) := if (a0.size : Int) < 1 then (impl_IsWord.j0 k a0 true) else (impl_IsWord.j0 k a0 (decide ((a0.size : Int) > 16)))
set_option maxHeartbeats 8000000 in
set_option maxRecDepth 100000 in
theorem impl_IsWord.calls (k : Nat) (a0 : ByteArray) (r : Bool) (w : World) (h : impl_IsWord.f k a0 = some r) :
  Calls Try.prog 135 #[.string a0] w fun e w' => e = .returned (.bool r) ∧ Drawn0 w w' := by
 have H : (if (a0.size : Int) < 1 then (impl_IsWord.j0 k a0 true) else (impl_IsWord.j0 k a0 (decide ((a0.size : Int) > 16)))) = some r := h
 clear h
 have HC2 := Aside0.mk H
 clear H
 go_enter Try.func135, Try.ntmps135
 go_upto_region 1 with (fail)
 go_cut [11] (fun v11 wc => ∃ (kq : Nat) (x11_1 : Bool), v11 = .bool x11_1 ∧ Aside0 (impl_IsWord.j0 kq a0 x11_1 = some r) ∧ Aside0 (kq ≤ k) ∧ Drawn0 w wc)
 case first =>
  have H := HC2.out
  clear HC2
  by_cases c3 : (a0.size : Int) < 1
  ·rw [if_pos c3] at H
   have c3b0 := decide_eq_true c3
   have c3b1 : decide (a0.size < 1) = true := decide_eq_true (by omega)
   clear c3
   (first | rw [c3b0] | (simp only [i64_w, i32_w]; rw [c3b0]) | skip)
   have H' := Aside0.mk H
   clear H
   go_wp2
   go_meet
   case rel => exact ⟨_, (true), Za, H', ⟨Zm⟩, Zb⟩
  ·rw [if_neg c3] at H
   have c3b0 := decide_eq_false c3
   have c3b1 : decide (a0.size < 1) = false := decide_eq_false (by omega)
   clear c3
   (first | rw [c3b0] | (simp only [i64_w, i32_w]; rw [c3b0]) | skip)
   have H' := Aside0.mk H
   clear H
   go_wp2
   go_meet
   case rel => exact ⟨_, (decide ((a0.size : Int) > 16)), Za, H', ⟨Zm⟩, Zb⟩
 case rest =>
  clear HC2
  try clear c1
  try clear p2
  try clear c3
  try clear c3b0
  try clear c3b1
  obtain ⟨kq, x11_1, rfl, HA, HJ1, ⟨mc1, rfl⟩⟩ := hcut
  cases kq with
  | zero => exact absurd HA.out (by simp [impl_IsWord.j0])
  | succ kj1 =>
   have H := HA.out
   clear HA
   simp only [impl_IsWord.j0] at H
   by_cases c4 : x11_1 = true
   ·subst c4
    have H1 : (some false) = some r := by rw [if_pos rfl] at H; exact H
    clear H
    have H := H1
    clear H1
    obtain rfl := Option.some.inj H
    go_wp2
    go_ret
    exact ⟨Za, Zb⟩
   ·replace c4 := Bool.eq_false_iff.mpr c4
    subst c4
    have H1 : (impl_IsWord.l0 kj1 a0 0) = some r := by rw [if_neg (show ¬ (false = true) by decide)] at H; exact H
    clear H
    have H := H1
    clear H1
    have H' := Aside0.mk H
    clear H
    go_wp2
    go_loopg [3] kj1 (fun kq v3 w' => ∃ (x3_2 : Int), v3 = .int .i64 x3_2 ∧ Aside0 (impl_IsWord.l0 kq a0 x3_2 = some r) ∧ Aside0 (kq ≤ kj1) ∧ Drawn0 w w')
    case atStart => exact ⟨(0), Za, H', ⟨Nat.le_refl _⟩, Zb⟩
    case round =>
     clear H'
     try clear c1
     try clear p2
     try clear c3
     try clear c3b0
     try clear c3b1
     try clear c4
     try clear p2
     obtain ⟨x3_2, rfl, HA, HK2, ⟨m2, rfl⟩⟩ := hrel
     cases gk with
     | zero => exact absurd HA.out (by simp [impl_IsWord.l0])
     | succ k2 =>
      have H := HA.out
      clear HA
      simp only [impl_IsWord.l0] at H
      by_cases c5 : x3_2 < (a0.size : Int)
      ·rw [if_pos c5] at H
       have c5b0 := decide_eq_true c5
       clear c5
       by_cases c6 : 0 ≤ x3_2
       ·rw [if_pos c6] at H
        have c6b0 := decide_eq_true c6
        clear c6
        by_cases c8 : (bt a0 x3_2) < 97
        ·rw [if_pos c8] at H
         have c8b0 := decide_eq_true c8
         clear c8
         obtain rfl := Option.some.inj H
         have p7 : 0 ≤ (x3_2 : Int) := of_decide_eq_true Zp
         have q7 : x3_2 < (a0.size : Int) := of_decide_eq_true Zp
         have hx7 := bt_at a0 x3_2
         replace p7 := eq_true p7
         replace q7 := eq_true q7
         go_wp2
         go_ret
         exact ⟨Za, Zb⟩
        ·rw [if_neg c8] at H
         have c8b0 := decide_eq_false c8
         clear c8
         by_cases c10 : (bt a0 x3_2) > 122
         ·rw [if_pos c10] at H
          have c10b0 : decide (122 < (bt a0 x3_2)) = true := decide_eq_true c10
          clear c10
          obtain rfl := Option.some.inj H
          have p7 : 0 ≤ (x3_2 : Int) := of_decide_eq_true Zp
          have q7 : x3_2 < (a0.size : Int) := of_decide_eq_true Zp
          have hx7 := bt_at a0 x3_2
          replace p7 := eq_true p7
          replace q7 := eq_true q7
          have p9 : 0 ≤ (x3_2 : Int) := of_decide_eq_true Zp
          have q9 : x3_2 < (a0.size : Int) := of_decide_eq_true Zp
          have hx9 := bt_at a0 x3_2
          replace p9 := eq_true p9
          replace q9 := eq_true q9
          go_wp2
          go_ret
          exact ⟨Za, Zb⟩
         ·rw [if_neg c10] at H
          have c10b0 : decide (122 < (bt a0 x3_2)) = false := decide_eq_false c10
          clear c10
          have H' := Aside0.mk H
          clear H
          have p7 : 0 ≤ (x3_2 : Int) := of_decide_eq_true Zp
          have q7 : x3_2 < (a0.size : Int) := of_decide_eq_true Zp
          have hx7 := bt_at a0 x3_2
          replace p7 := eq_true p7
          replace q7 := eq_true q7
          have p9 : 0 ≤ (x3_2 : Int) := of_decide_eq_true Zp
          have q9 : x3_2 < (a0.size : Int) := of_decide_eq_true Zp
          have hx9 := bt_at a0 x3_2
          replace p9 := eq_true p9
          replace q9 := eq_true q9
          go_wp2
          go_roundg k2
          case measure => have := HJ1.out; have := HK2.out; omega
          case rel => exact ⟨(wrap64 (x3_2 + 1)), Za, H', ⟨by have := HJ1.out; have := HK2.out; omega⟩, Zb⟩
       ·rw [if_neg c6] at H
        exact absurd H (by simp)
      ·rw [if_neg c5] at H
       have c5b0 := decide_eq_false c5
       clear c5
       obtain rfl := Option.some.inj H
       go_wp2
       go_ret
       exact ⟨Za, Zb⟩
end Go.Proofs.Ytnlbaflbhicooaa.F
