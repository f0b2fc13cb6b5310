import Derived.Test.YtnlbaflbhicooaaJFnExactDropCue4
import Derived.Below
import Derived.Deep.Draws
import Derived.Deep.AppendLies
import Derived.Maps.AppendAt
import Derived.OwnWalk
import Derived.Laws.BytesArg
import Derived.Laws.MakeOwn
import Derived.Laws.OwnMore
import Derived.Tactics
import Derived.Lib.ConvBytes
import Derived.Laws.Slices
import Derived.WalkKit
import Derived.KernelRfl
import Derived.RowKit3
import Derived.Deep.LoopGhost
import Derived.Deep.QuietTactic
import Derived.BigQuiet
import Derived.WideLaws
import Derived.Deep.DeepCutAuto
import Derived.Deep.CutBlock
import Derived.Deep.RegionHeld3
import Derived.Lib.AppendStr
import Derived.ArgAppend
import Derived.Laws.IdiomCopy
import Derived.RowKit
import Derived.OrdersHeld
import Derived.Laws.BitsLemmas
import Derived.Laws.StructEq
import Derived.Test.YtnlbaflbhicooaaProg
import Derived.ChangeSlices
import Derived.OpenShut
import Derived.Laws.Cover1
namespace Go.Proofs.Ytnlbaflbhicooaa.F
open Go.RowKit Go.Proofs.YtnlbaflbhicooaaW.PrintWords Go.Proofs.YtnlbaflbhicooaaW.PrintLast Go.Proofs.YtnlbaflbhicooaaW.PrintMore
attribute [local go_sem] max2_int min2_int max_two min_two max_three min_three max_four min_four
set_option linter.unusedVariables false
set_option linter.unusedSimpArgs false
def spec_AreArticles.l0 : Nat → List (S92) → Int → Option (Bool)
 | 0, _, _ => none
 | k + 1, x0, x3 => if x3 < (x0.length : Int) then (if 0 ≤ x3 then ((spec_IsArticle.f k ((rd_T92 x0 x3).f0) ((rd_T92 x0 x3).f1) ((rd_T92 x0 x3).f2) ((rd_T92 x0 x3).f3) ((rd_T92 x0 x3).f4) ((rd_T92 x0 x3).f5) ((rd_T92 x0 x3).f6) ((rd_T92 x0 x3).f7) ((rd_T92 x0 x3).f8)).bind fun t128 => (if t128 = true then (if x3 > 0 then (if 0 ≤ (wrap64 (x3 - 1)) then (if (wrap64 (x3 - 1)) < (x0.length : Int) then (if ((Op.bytesLess (((rd_T92 x0 (wrap64 (x3 - 1))).f0).toList) (((rd_T92 x0 x3).f0).toList)) = true) then (spec_AreArticles.l0 k x0 (wrap64 (x3 + 1))) else (some false)) else (none)) else (none)) else (spec_AreArticles.l0 k x0 (wrap64 (x3 + 1)))) else (some false))) else (none)) else (some (decide ((x0.length : Int) ≤ 12)))
def spec_AreArticles.f (k : Nat) (l0 : List (S92)) : Option (Bool) := spec_AreArticles.l0 k l0 0
def spec_AreArticles.T4 : Bool × List (List Nat × List Nat) := (true, [([], []), ([], []), ([0, 1], [0, 1]), ([2], [2]), ([3], [3]), ([4], [4]), ([5, 4], [5]), ([6], [6]), ([7, 6], [6, 7]), ([8, 6, 6], [6, 8]), ([9], [9]), ([9], [9]), ([11, 9], [9, 11]), ([10, 12, 9], [9, 10, 12]), ([13, 9], [9, 13]), ([14, 9], [9, 14]), ([9], [9]), ([9], [9]), ([16, 17, 9], [9, 16, 17]), ([18, 9], [9, 18]), ([19, 9], [9, 19]), ([15, 20, 9], [9, 15, 20]), ([9, 21, 6], [6, 9, 21]), ([6, 22], [6, 22])])
def spec_AreArticles.B4 : List Nat := [0, 0, 3, 7, 15, 31, 63, 127, 255, 511, 1023, 1023, 3071, 8191, 16383, 32767, 1023, 1023, 197631, 459775, 984063, 2097151, 4194303, 8388607]
theorem spec_AreArticles.tab4 : rtab .any (opsOf Try.f92 4) = spec_AreArticles.T4 := by kernel_rfl
theorem spec_AreArticles.bits4 : waitsOk spec_AreArticles.T4.2 spec_AreArticles.B4 = true := by kernel_rfl
set_option maxHeartbeats 8000000 in
set_option maxRecDepth 100000 in
theorem spec_AreArticles.calls (k : Nat) (A0 : Option Addr) (c0 : Nat) (l0 : List (S92)) (r : Bool) (w : World) (hr0 : Kd.C k92 w A0 l0.length l0) (hc0 : l0.length ≤ c0) (h : spec_AreArticles.f k l0 = some r) :
  Calls Try.prog 92 #[.slice A0 l0.length c0] w fun e w' => e = .returned (.bool r) ∧ Below w.heap.size w w' := by
 have hu92 := Try.underlying92; have HR0 := Aside0.mk hr0; have HC0 := Aside0.mk hc0; clear hr0 hc0; have HB := Aside0.mk (Below.refl w.heap.size w); have H : (spec_AreArticles.l0 k l0 0) = some r := h; clear h; have H' := Aside0.mk H; clear H
 go_enter Try.func92, Try.ntmps92
 go_wp2
 go_loopg [3] k (fun kq v3 w' => ∃ (x3_1 : Int), v3 = .int .i64 x3_1 ∧ Aside0 (spec_AreArticles.l0 kq l0 x3_1 = some r) ∧ Aside0 (kq ≤ k) ∧ Aside0 (Below w.heap.size w w'))
 case atStart => exact ⟨(0), Za, H', ⟨Nat.le_refl _⟩, ⟨Zc⟩⟩
 case round =>
  clear H'; obtain ⟨x3_1, rfl, HA, HK1, HB⟩ := hrel
  cases gk with
  | zero => exact absurd HA.out (by simp [spec_AreArticles.l0])
  | succ k1 =>
   have H := HA.out; clear HA; simp only [spec_AreArticles.l0] at H
   by_cases c2 : x3_1 < (l0.length : Int)
   ·rw [if_pos c2] at H
    have c2b0 := decide_eq_true c2; clear c2
    by_cases c3 : 0 ≤ x3_1
    ·rw [if_pos c3] at H
     have c3b0 := decide_eq_true c3; clear c3; replace H := Option.bind_eq_some_iff.mp H; obtain ⟨t128, A40, H⟩ := H; have A4 := Aside0.mk A40; clear A40
     by_cases c5 : t128 = true
     ·subst c5
      have H1 : (if x3_1 > 0 then (if 0 ≤ (wrap64 (x3_1 - 1)) then (if (wrap64 (x3_1 - 1)) < (l0.length : Int) then (if ((Op.bytesLess (((rd_T92 l0 (wrap64 (x3_1 - 1))).f0).toList) (((rd_T92 l0 x3_1).f0).toList)) = true) then (spec_AreArticles.l0 k1 l0 (wrap64 (x3_1 + 1))) else (some false)) else (none)) else (none)) else (spec_AreArticles.l0 k1 l0 (wrap64 (x3_1 + 1)))) = some r := by rw [if_pos rfl] at H; exact H
      clear H; have H := H1; clear H1
      by_cases c6 : x3_1 > 0
      ·rw [if_pos c6] at H
       have c6b0 : decide (0 < x3_1) = true := decide_eq_true c6; clear c6; obtain ⟨ji7, hji7⟩ : ∃ j_ : Int, (wrap64 (x3_1 - 1)) = j_ := ⟨_, rfl⟩
       replace H : (if 0 ≤ (ji7) then (if (ji7) < (l0.length : Int) then (if ((Op.bytesLess (((rd_T92 l0 (ji7)).f0).toList) (((rd_T92 l0 x3_1).f0).toList)) = true) then (spec_AreArticles.l0 k1 l0 (wrap64 (x3_1 + 1))) else (some false)) else (none)) else (none)) = some r := by first | (rw [hji7] at H; exact H) | (simp only [hji7] at H ⊢; exact H)
       (try rw [hji7] at A4)
       have hji7w : (IntKind.i64.wrap (x3_1 - 1)) = ji7 := (i64_w _).trans hji7
       by_cases c8 : 0 ≤ (ji7)
       ·rw [if_pos c8] at H
        have c8b0 := decide_eq_true c8; clear c8
        by_cases c9 : (ji7) < (l0.length : Int)
        ·rw [if_pos c9] at H
         have c9b0 := decide_eq_true c9; clear c9
         by_cases c10 : ((Op.bytesLess (((rd_T92 l0 (ji7)).f0).toList) (((rd_T92 l0 x3_1).f0).toList)) = true)
         ·rw [if_pos c10] at H
          have c10b0 : (Op.bytesLess (((rd_T92 l0 (ji7)).f0).toList) (((rd_T92 l0 x3_1).f0).toList)) = true := c10; clear c10; have H' := Aside0.mk H; clear H
          try go_wp2
          replace HB := Aside0.mk (below_drew1 HB.out); have p127 : 0 ≤ (x3_1 : Int) := of_decide_eq_true Zp; have q127 : x3_1 < (l0.length : Int) := of_decide_eq_true Zp; obtain ⟨ad127, e127, hx127_0, hx127_1, hx127_2, hx127_3, hx127_4, hx127_5, hx127_6, hx127_7, hx127_8⟩ := at_T92 HR0.out x3_1 p127 q127; have hw127_8 := hx127_8; have hw127_7 := hx127_7; have hw127_6 := hx127_6; have hw127_5 := hx127_5; have hw127_4 := hx127_4; have hw127_3 := hx127_3; have hw127_2 := hx127_2; have hw127_1 := hx127_1; have hw127_0 := hx127_0
          cases e127
          replace hx127_0 := cbH HB hx127_0; replace hx127_1 := cbH HB hx127_1; replace hx127_2 := cbH HB hx127_2; replace hx127_3 := cbH HB hx127_3; replace hx127_4 := cbH HB hx127_4; replace hx127_5 := cbH HB hx127_5; replace hx127_6 := cbH HB hx127_6; replace hx127_7 := cbH HB hx127_7; replace hx127_8 := cbH HB hx127_8; replace p127 := eq_true p127; replace q127 := eq_true q127; have p129 : 0 ≤ ((ji7) : Int) := of_decide_eq_true Zp; have q129 : (ji7) < (l0.length : Int) := of_decide_eq_true Zp; obtain ⟨ad129, e129, hx129_0, hx129_1, hx129_2, hx129_3, hx129_4, hx129_5, hx129_6, hx129_7, hx129_8⟩ := at_T92 HR0.out (ji7) p129 q129; have hw129_8 := hx129_8; have hw129_7 := hx129_7; have hw129_6 := hx129_6; have hw129_5 := hx129_5; have hw129_4 := hx129_4; have hw129_3 := hx129_3; have hw129_2 := hx129_2; have hw129_1 := hx129_1; have hw129_0 := hx129_0; obtain rfl : ad127 = ad129 := (by injection e129); replace hx129_0 := cbH HB hx129_0; replace hx129_1 := cbH HB hx129_1; replace hx129_2 := cbH HB hx129_2; replace hx129_3 := cbH HB hx129_3; replace hx129_4 := cbH HB hx129_4; replace hx129_5 := cbH HB hx129_5; replace hx129_6 := cbH HB hx129_6; replace hx129_7 := cbH HB hx129_7; replace hx129_8 := cbH HB hx129_8; replace p129 := eq_true p129; replace q129 := eq_true q129; have p130 : 0 ≤ (x3_1 : Int) := of_decide_eq_true Zp; have q130 : x3_1 < (l0.length : Int) := of_decide_eq_true Zp; obtain ⟨ad130, e130, hx130_0, hx130_1, hx130_2, hx130_3, hx130_4, hx130_5, hx130_6, hx130_7, hx130_8⟩ := at_T92 HR0.out x3_1 p130 q130; have hw130_8 := hx130_8; have hw130_7 := hx130_7; have hw130_6 := hx130_6; have hw130_5 := hx130_5; have hw130_4 := hx130_4; have hw130_3 := hx130_3; have hw130_2 := hx130_2; have hw130_1 := hx130_1; have hw130_0 := hx130_0; obtain rfl : ad127 = ad130 := (by injection e130); replace hx130_0 := cbH HB hx130_0; replace hx130_1 := cbH HB hx130_1; replace hx130_2 := cbH HB hx130_2; replace hx130_3 := cbH HB hx130_3; replace hx130_4 := cbH HB hx130_4; replace hx130_5 := cbH HB hx130_5; replace hx130_6 := cbH HB hx130_6; replace hx130_7 := cbH HB hx130_7; replace hx130_8 := cbH HB hx130_8; replace p130 := eq_true p130; replace q130 := eq_true q130; refine start_ (n := 24) (S := fun w' => w'.cell? (ad127.add ((x3_1).toNat * 9)) = some (.string ((rd_T92 l0 x3_1).f0)) ∧ w'.cell? ⟨(ad127.add ((x3_1).toNat * 9)).block, (ad127.add ((x3_1).toNat * 9)).off + 1, none⟩ = some (.int .i64 ((rd_T92 l0 x3_1).f1)) ∧ w'.cell? ⟨(ad127.add ((x3_1).toNat * 9)).block, (ad127.add ((x3_1).toNat * 9)).off + 2, none⟩ = some (.int .i64 ((rd_T92 l0 x3_1).f2)) ∧ w'.cell? ⟨(ad127.add ((x3_1).toNat * 9)).block, (ad127.add ((x3_1).toNat * 9)).off + 3, none⟩ = some (.int .i64 ((rd_T92 l0 x3_1).f3)) ∧ w'.cell? ⟨(ad127.add ((x3_1).toNat * 9)).block, (ad127.add ((x3_1).toNat * 9)).off + 4, none⟩ = some (.int .i64 ((rd_T92 l0 x3_1).f4)) ∧ w'.cell? ⟨(ad127.add ((x3_1).toNat * 9)).block, (ad127.add ((x3_1).toNat * 9)).off + 5, none⟩ = some (.int .i64 ((rd_T92 l0 x3_1).f5)) ∧ w'.cell? ⟨(ad127.add ((x3_1).toNat * 9)).block, (ad127.add ((x3_1).toNat * 9)).off + 6, none⟩ = some (.int .i64 ((rd_T92 l0 x3_1).f6)) ∧ w'.cell? ⟨(ad127.add ((x3_1).toNat * 9)).block, (ad127.add ((x3_1).toNat * 9)).off + 7, none⟩ = some (.int .i64 ((rd_T92 l0 x3_1).f7)) ∧ w'.cell? ⟨(ad127.add ((x3_1).toNat * 9)).block, (ad127.add ((x3_1).toNat * 9)).off + 8, none⟩ = some (.int .i64 ((rd_T92 l0 x3_1).f8)) ∧ w'.cell? (ad127.add (((ji7)).toNat * 9)) = some (.string ((rd_T92 l0 (ji7)).f0)) ∧ w'.cell? ⟨(ad127.add (((ji7)).toNat * 9)).block, (ad127.add (((ji7)).toNat * 9)).off + 1, none⟩ = some (.int .i64 ((rd_T92 l0 (ji7)).f1)) ∧ w'.cell? ⟨(ad127.add (((ji7)).toNat * 9)).block, (ad127.add (((ji7)).toNat * 9)).off + 2, none⟩ = some (.int .i64 ((rd_T92 l0 (ji7)).f2)) ∧ w'.cell? ⟨(ad127.add (((ji7)).toNat * 9)).block, (ad127.add (((ji7)).toNat * 9)).off + 3, none⟩ = some (.int .i64 ((rd_T92 l0 (ji7)).f3)) ∧ w'.cell? ⟨(ad127.add (((ji7)).toNat * 9)).block, (ad127.add (((ji7)).toNat * 9)).off + 4, none⟩ = some (.int .i64 ((rd_T92 l0 (ji7)).f4)) ∧ w'.cell? ⟨(ad127.add (((ji7)).toNat * 9)).block, (ad127.add (((ji7)).toNat * 9)).off + 5, none⟩ = some (.int .i64 ((rd_T92 l0 (ji7)).f5)) ∧ w'.cell? ⟨(ad127.add (((ji7)).toNat * 9)).block, (ad127.add (((ji7)).toNat * 9)).off + 6, none⟩ = some (.int .i64 ((rd_T92 l0 (ji7)).f6)) ∧ w'.cell? ⟨(ad127.add (((ji7)).toNat * 9)).block, (ad127.add (((ji7)).toNat * 9)).off + 7, none⟩ = some (.int .i64 ((rd_T92 l0 (ji7)).f7)) ∧ w'.cell? ⟨(ad127.add (((ji7)).toNat * 9)).block, (ad127.add (((ji7)).toNat * 9)).off + 8, none⟩ = some (.int .i64 ((rd_T92 l0 (ji7)).f8)) ∧ w'.cell? (ad127.add ((x3_1).toNat * 9)) = some (.string ((rd_T92 l0 x3_1).f0)) ∧ w'.cell? ⟨(ad127.add ((x3_1).toNat * 9)).block, (ad127.add ((x3_1).toNat * 9)).off + 1, none⟩ = some (.int .i64 ((rd_T92 l0 x3_1).f1)) ∧ w'.cell? ⟨(ad127.add ((x3_1).toNat * 9)).block, (ad127.add ((x3_1).toNat * 9)).off + 2, none⟩ = some (.int .i64 ((rd_T92 l0 x3_1).f2)) ∧ w'.cell? ⟨(ad127.add ((x3_1).toNat * 9)).block, (ad127.add ((x3_1).toNat * 9)).off + 3, none⟩ = some (.int .i64 ((rd_T92 l0 x3_1).f3)) ∧ w'.cell? ⟨(ad127.add ((x3_1).toNat * 9)).block, (ad127.add ((x3_1).toNat * 9)).off + 4, none⟩ = some (.int .i64 ((rd_T92 l0 x3_1).f4)) ∧ w'.cell? ⟨(ad127.add ((x3_1).toNat * 9)).block, (ad127.add ((x3_1).toNat * 9)).off + 5, none⟩ = some (.int .i64 ((rd_T92 l0 x3_1).f5)) ∧ w'.cell? ⟨(ad127.add ((x3_1).toNat * 9)).block, (ad127.add ((x3_1).toNat * 9)).off + 6, none⟩ = some (.int .i64 ((rd_T92 l0 x3_1).f6)) ∧ w'.cell? ⟨(ad127.add ((x3_1).toNat * 9)).block, (ad127.add ((x3_1).toNat * 9)).off + 7, none⟩ = some (.int .i64 ((rd_T92 l0 x3_1).f7)) ∧ w'.cell? ⟨(ad127.add ((x3_1).toNat * 9)).block, (ad127.add ((x3_1).toNat * 9)).off + 8, none⟩ = some (.int .i64 ((rd_T92 l0 x3_1).f8))) (ds := []) (bT 24 0) Zj rfl rfl ⟨(cbH HB hw127_0 :), (cbH HB hw127_1 :), (cbH HB hw127_2 :), (cbH HB hw127_3 :), (cbH HB hw127_4 :), (cbH HB hw127_5 :), (cbH HB hw127_6 :), (cbH HB hw127_7 :), (cbH HB hw127_8 :), (cbH HB hw129_0 :), (cbH HB hw129_1 :), (cbH HB hw129_2 :), (cbH HB hw129_3 :), (cbH HB hw129_4 :), (cbH HB hw129_5 :), (cbH HB hw129_6 :), (cbH HB hw129_7 :), (cbH HB hw129_8 :), (cbH HB hw130_0 :), (cbH HB hw130_1 :), (cbH HB hw130_2 :), (cbH HB hw130_3 :), (cbH HB hw130_4 :), (cbH HB hw130_5 :), (cbH HB hw130_6 :), (cbH HB hw130_7 :), (cbH HB hw130_8 :)⟩ (fun hHeld => ?_); refine with_tabW spec_AreArticles.tab4 spec_AreArticles.bits4 (fun HT_ HW_ => ?_)
          generalize wr.drew = w11 at HB hx127_0 hx127_1 hx127_2 hx127_3 hx127_4 hx127_5 hx127_6 hx127_7 hx127_8 hx129_0 hx129_1 hx129_2 hx129_3 hx129_4 hx129_5 hx129_6 hx129_7 hx129_8 hx130_0 hx130_1 hx130_2 hx130_3 hx130_4 hx130_5 hx130_6 hx130_7 hx130_8 hHeld ⊢; refine pureZ HT_ 0 (some 10) (bT 24 1) ?_; refine pureZ HT_ 1 (some 11) (bT 24 2) ?_; refine pureZ HT_ 2 (some 12) (bT 24 3) ?_; refine takeZ27 HT_ HW_ 3 (some 13) (bT 24 4) hHeld ?_; refine one_ (i := 4) (N := some 14) (bT 24 5) rfl rfl (one_of HT_.out Zj) (by decide) (fun K hK => ?_); refine goes_ Try.func127 Zj rfl #[.agg #[.string ((rd_T92 l0 x3_1).f0), .int .i64 ((rd_T92 l0 x3_1).f1), .int .i64 ((rd_T92 l0 x3_1).f2), .int .i64 ((rd_T92 l0 x3_1).f3), .int .i64 ((rd_T92 l0 x3_1).f4), .int .i64 ((rd_T92 l0 x3_1).f5), .int .i64 ((rd_T92 l0 x3_1).f6), .int .i64 ((rd_T92 l0 x3_1).f7), .int .i64 ((rd_T92 l0 x3_1).f8)]] (by rfl) rfl rfl Zo ?_
          with_reducible refine (spec_IsArticle.calls k1 ((rd_T92 l0 x3_1).f0) ((rd_T92 l0 x3_1).f1) ((rd_T92 l0 x3_1).f2) ((rd_T92 l0 x3_1).f3) ((rd_T92 l0 x3_1).f4) ((rd_T92 l0 x3_1).f5) ((rd_T92 l0 x3_1).f6) ((rd_T92 l0 x3_1).f7) ((rd_T92 l0 x3_1).f8) true _ A4.out).mono ?_
          rintro e w12 ⟨rfl, hb⟩; refine ⟨_, rfl, ?_⟩; replace HB := Aside0.mk (below_step Zc hb)
          (try clear hb)
          (try clear hb2)
          (try clear hk)
          (try clear hi)
          refine hK.out _ _ ⟨(cbH HB hw127_0 :), (cbH HB hw127_1 :), (cbH HB hw127_2 :), (cbH HB hw127_3 :), (cbH HB hw127_4 :), (cbH HB hw127_5 :), (cbH HB hw127_6 :), (cbH HB hw127_7 :), (cbH HB hw127_8 :), (cbH HB hw129_0 :), (cbH HB hw129_1 :), (cbH HB hw129_2 :), (cbH HB hw129_3 :), (cbH HB hw129_4 :), (cbH HB hw129_5 :), (cbH HB hw129_6 :), (cbH HB hw129_7 :), (cbH HB hw129_8 :), (cbH HB hw130_0 :), (cbH HB hw130_1 :), (cbH HB hw130_2 :), (cbH HB hw130_3 :), (cbH HB hw130_4 :), (cbH HB hw130_5 :), (cbH HB hw130_6 :), (cbH HB hw130_7 :), (cbH HB hw130_8 :)⟩ (fun hHeld => ?_); clear hK K; refine normZ 14 ?_; refine pureZ HT_ 5 (some 15) (bT 24 6) ?_; refine pureZ HT_ 6 (some 16) (bT 24 7) ?_; refine pureZ HT_ 7 (some 17) (bT 24 8) ?_; refine pureZ HT_ 8 (some 18) (bT 24 9) ?_; refine pureZ HT_ 9 (some 19) (bT 24 10) ?_; refine pureZ HT_ 10 (some 20) (bT 24 11) ?_; refine pureZ HT_ 11 (some 21) (bT 24 12) ?_; refine pureZ HT_ 12 (some 22) (bT 24 13) ?_; refine pureZ HT_ 13 (some 23) (bT 24 14) ?_; refine pureZ HT_ 14 (some 24) (bT 24 15) ?_; refine pureZ HT_ 16 (some 26) #[true, true, true, true, true, true, true, true, true, true, true, true, true, true, true, false, true, false, false, false, false, false, false, false] ?_; refine pureZ HT_ 17 (some 27) #[true, true, true, true, true, true, true, true, true, true, true, true, true, true, true, false, true, true, false, false, false, false, false, false] ?_; refine pureZ HT_ 18 (some 28) #[true, true, true, true, true, true, true, true, true, true, true, true, true, true, true, false, true, true, true, false, false, false, false, false] ?_; refine pureZ HT_ 19 (some 29) #[true, true, true, true, true, true, true, true, true, true, true, true, true, true, true, false, true, true, true, true, false, false, false, false] ?_; refine takeZ27 HT_ HW_ 15 (some 25) (bT 24 20) hHeld ?_; refine takeZ27 HT_ HW_ 20 (some 30) (bT 24 21) hHeld ?_; refine pureZ HT_ 21 (some 31) (bT 24 22) ?_; refine pureZ HT_ 22 (some 32) (bT 24 23) ?_; refine pureZ HT_ 23 (some 33) (bT 24 24) ?_; refine done_ (done_of HT_.out Zj) ?_
          try go_wp2
          go_roundg k1
          case measure => have := HK1.out; omega
          case rel => exact ⟨(wrap64 (x3_1 + 1)), Za, H', ⟨Zt⟩, ⟨Zc⟩⟩
         ·rw [if_neg c10] at H
          have c10b0 : (Op.bytesLess (((rd_T92 l0 (ji7)).f0).toList) (((rd_T92 l0 x3_1).f0).toList)) = false := by simpa using c10
          clear c10; obtain rfl := Option.some.inj H
          try go_wp2
          replace HB := Aside0.mk (below_drew1 HB.out); have p127 : 0 ≤ (x3_1 : Int) := of_decide_eq_true Zp; have q127 : x3_1 < (l0.length : Int) := of_decide_eq_true Zp; obtain ⟨ad127, e127, hx127_0, hx127_1, hx127_2, hx127_3, hx127_4, hx127_5, hx127_6, hx127_7, hx127_8⟩ := at_T92 HR0.out x3_1 p127 q127; have hw127_8 := hx127_8; have hw127_7 := hx127_7; have hw127_6 := hx127_6; have hw127_5 := hx127_5; have hw127_4 := hx127_4; have hw127_3 := hx127_3; have hw127_2 := hx127_2; have hw127_1 := hx127_1; have hw127_0 := hx127_0
          cases e127
          replace hx127_0 := cbH HB hx127_0; replace hx127_1 := cbH HB hx127_1; replace hx127_2 := cbH HB hx127_2; replace hx127_3 := cbH HB hx127_3; replace hx127_4 := cbH HB hx127_4; replace hx127_5 := cbH HB hx127_5; replace hx127_6 := cbH HB hx127_6; replace hx127_7 := cbH HB hx127_7; replace hx127_8 := cbH HB hx127_8; replace p127 := eq_true p127; replace q127 := eq_true q127; have p129 : 0 ≤ ((ji7) : Int) := of_decide_eq_true Zp; have q129 : (ji7) < (l0.length : Int) := of_decide_eq_true Zp; obtain ⟨ad129, e129, hx129_0, hx129_1, hx129_2, hx129_3, hx129_4, hx129_5, hx129_6, hx129_7, hx129_8⟩ := at_T92 HR0.out (ji7) p129 q129; have hw129_8 := hx129_8; have hw129_7 := hx129_7; have hw129_6 := hx129_6; have hw129_5 := hx129_5; have hw129_4 := hx129_4; have hw129_3 := hx129_3; have hw129_2 := hx129_2; have hw129_1 := hx129_1; have hw129_0 := hx129_0; obtain rfl : ad127 = ad129 := (by injection e129); replace hx129_0 := cbH HB hx129_0; replace hx129_1 := cbH HB hx129_1; replace hx129_2 := cbH HB hx129_2; replace hx129_3 := cbH HB hx129_3; replace hx129_4 := cbH HB hx129_4; replace hx129_5 := cbH HB hx129_5; replace hx129_6 := cbH HB hx129_6; replace hx129_7 := cbH HB hx129_7; replace hx129_8 := cbH HB hx129_8; replace p129 := eq_true p129; replace q129 := eq_true q129; have p130 : 0 ≤ (x3_1 : Int) := of_decide_eq_true Zp; have q130 : x3_1 < (l0.length : Int) := of_decide_eq_true Zp; obtain ⟨ad130, e130, hx130_0, hx130_1, hx130_2, hx130_3, hx130_4, hx130_5, hx130_6, hx130_7, hx130_8⟩ := at_T92 HR0.out x3_1 p130 q130; have hw130_8 := hx130_8; have hw130_7 := hx130_7; have hw130_6 := hx130_6; have hw130_5 := hx130_5; have hw130_4 := hx130_4; have hw130_3 := hx130_3; have hw130_2 := hx130_2; have hw130_1 := hx130_1; have hw130_0 := hx130_0; obtain rfl : ad127 = ad130 := (by injection e130); replace hx130_0 := cbH HB hx130_0; replace hx130_1 := cbH HB hx130_1; replace hx130_2 := cbH HB hx130_2; replace hx130_3 := cbH HB hx130_3; replace hx130_4 := cbH HB hx130_4; replace hx130_5 := cbH HB hx130_5; replace hx130_6 := cbH HB hx130_6; replace hx130_7 := cbH HB hx130_7; replace hx130_8 := cbH HB hx130_8; replace p130 := eq_true p130; replace q130 := eq_true q130; refine start_ (n := 24) (S := fun w' => w'.cell? (ad127.add ((x3_1).toNat * 9)) = some (.string ((rd_T92 l0 x3_1).f0)) ∧ w'.cell? ⟨(ad127.add ((x3_1).toNat * 9)).block, (ad127.add ((x3_1).toNat * 9)).off + 1, none⟩ = some (.int .i64 ((rd_T92 l0 x3_1).f1)) ∧ w'.cell? ⟨(ad127.add ((x3_1).toNat * 9)).block, (ad127.add ((x3_1).toNat * 9)).off + 2, none⟩ = some (.int .i64 ((rd_T92 l0 x3_1).f2)) ∧ w'.cell? ⟨(ad127.add ((x3_1).toNat * 9)).block, (ad127.add ((x3_1).toNat * 9)).off + 3, none⟩ = some (.int .i64 ((rd_T92 l0 x3_1).f3)) ∧ w'.cell? ⟨(ad127.add ((x3_1).toNat * 9)).block, (ad127.add ((x3_1).toNat * 9)).off + 4, none⟩ = some (.int .i64 ((rd_T92 l0 x3_1).f4)) ∧ w'.cell? ⟨(ad127.add ((x3_1).toNat * 9)).block, (ad127.add ((x3_1).toNat * 9)).off + 5, none⟩ = some (.int .i64 ((rd_T92 l0 x3_1).f5)) ∧ w'.cell? ⟨(ad127.add ((x3_1).toNat * 9)).block, (ad127.add ((x3_1).toNat * 9)).off + 6, none⟩ = some (.int .i64 ((rd_T92 l0 x3_1).f6)) ∧ w'.cell? ⟨(ad127.add ((x3_1).toNat * 9)).block, (ad127.add ((x3_1).toNat * 9)).off + 7, none⟩ = some (.int .i64 ((rd_T92 l0 x3_1).f7)) ∧ w'.cell? ⟨(ad127.add ((x3_1).toNat * 9)).block, (ad127.add ((x3_1).toNat * 9)).off + 8, none⟩ = some (.int .i64 ((rd_T92 l0 x3_1).f8)) ∧ w'.cell? (ad127.add (((ji7)).toNat * 9)) = some (.string ((rd_T92 l0 (ji7)).f0)) ∧ w'.cell? ⟨(ad127.add (((ji7)).toNat * 9)).block, (ad127.add (((ji7)).toNat * 9)).off + 1, none⟩ = some (.int .i64 ((rd_T92 l0 (ji7)).f1)) ∧ w'.cell? ⟨(ad127.add (((ji7)).toNat * 9)).block, (ad127.add (((ji7)).toNat * 9)).off + 2, none⟩ = some (.int .i64 ((rd_T92 l0 (ji7)).f2)) ∧ w'.cell? ⟨(ad127.add (((ji7)).toNat * 9)).block, (ad127.add (((ji7)).toNat * 9)).off + 3, none⟩ = some (.int .i64 ((rd_T92 l0 (ji7)).f3)) ∧ w'.cell? ⟨(ad127.add (((ji7)).toNat * 9)).block, (ad127.add (((ji7)).toNat * 9)).off + 4, none⟩ = some (.int .i64 ((rd_T92 l0 (ji7)).f4)) ∧ w'.cell? ⟨(ad127.add (((ji7)).toNat * 9)).block, (ad127.add (((ji7)).toNat * 9)).off + 5, none⟩ = some (.int .i64 ((rd_T92 l0 (ji7)).f5)) ∧ w'.cell? ⟨(ad127.add (((ji7)).toNat * 9)).block, (ad127.add (((ji7)).toNat * 9)).off + 6, none⟩ = some (.int .i64 ((rd_T92 l0 (ji7)).f6)) ∧ w'.cell? ⟨(ad127.add (((ji7)).toNat * 9)).block, (ad127.add (((ji7)).toNat * 9)).off + 7, none⟩ = some (.int .i64 ((rd_T92 l0 (ji7)).f7)) ∧ w'.cell? ⟨(ad127.add (((ji7)).toNat * 9)).block, (ad127.add (((ji7)).toNat * 9)).off + 8, none⟩ = some (.int .i64 ((rd_T92 l0 (ji7)).f8)) ∧ w'.cell? (ad127.add ((x3_1).toNat * 9)) = some (.string ((rd_T92 l0 x3_1).f0)) ∧ w'.cell? ⟨(ad127.add ((x3_1).toNat * 9)).block, (ad127.add ((x3_1).toNat * 9)).off + 1, none⟩ = some (.int .i64 ((rd_T92 l0 x3_1).f1)) ∧ w'.cell? ⟨(ad127.add ((x3_1).toNat * 9)).block, (ad127.add ((x3_1).toNat * 9)).off + 2, none⟩ = some (.int .i64 ((rd_T92 l0 x3_1).f2)) ∧ w'.cell? ⟨(ad127.add ((x3_1).toNat * 9)).block, (ad127.add ((x3_1).toNat * 9)).off + 3, none⟩ = some (.int .i64 ((rd_T92 l0 x3_1).f3)) ∧ w'.cell? ⟨(ad127.add ((x3_1).toNat * 9)).block, (ad127.add ((x3_1).toNat * 9)).off + 4, none⟩ = some (.int .i64 ((rd_T92 l0 x3_1).f4)) ∧ w'.cell? ⟨(ad127.add ((x3_1).toNat * 9)).block, (ad127.add ((x3_1).toNat * 9)).off + 5, none⟩ = some (.int .i64 ((rd_T92 l0 x3_1).f5)) ∧ w'.cell? ⟨(ad127.add ((x3_1).toNat * 9)).block, (ad127.add ((x3_1).toNat * 9)).off + 6, none⟩ = some (.int .i64 ((rd_T92 l0 x3_1).f6)) ∧ w'.cell? ⟨(ad127.add ((x3_1).toNat * 9)).block, (ad127.add ((x3_1).toNat * 9)).off + 7, none⟩ = some (.int .i64 ((rd_T92 l0 x3_1).f7)) ∧ w'.cell? ⟨(ad127.add ((x3_1).toNat * 9)).block, (ad127.add ((x3_1).toNat * 9)).off + 8, none⟩ = some (.int .i64 ((rd_T92 l0 x3_1).f8))) (ds := []) (bT 24 0) Zj rfl rfl ⟨(cbH HB hw127_0 :), (cbH HB hw127_1 :), (cbH HB hw127_2 :), (cbH HB hw127_3 :), (cbH HB hw127_4 :), (cbH HB hw127_5 :), (cbH HB hw127_6 :), (cbH HB hw127_7 :), (cbH HB hw127_8 :), (cbH HB hw129_0 :), (cbH HB hw129_1 :), (cbH HB hw129_2 :), (cbH HB hw129_3 :), (cbH HB hw129_4 :), (cbH HB hw129_5 :), (cbH HB hw129_6 :), (cbH HB hw129_7 :), (cbH HB hw129_8 :), (cbH HB hw130_0 :), (cbH HB hw130_1 :), (cbH HB hw130_2 :), (cbH HB hw130_3 :), (cbH HB hw130_4 :), (cbH HB hw130_5 :), (cbH HB hw130_6 :), (cbH HB hw130_7 :), (cbH HB hw130_8 :)⟩ (fun hHeld => ?_); refine with_tabW spec_AreArticles.tab4 spec_AreArticles.bits4 (fun HT_ HW_ => ?_)
          generalize wr.drew = w13 at HB hx127_0 hx127_1 hx127_2 hx127_3 hx127_4 hx127_5 hx127_6 hx127_7 hx127_8 hx129_0 hx129_1 hx129_2 hx129_3 hx129_4 hx129_5 hx129_6 hx129_7 hx129_8 hx130_0 hx130_1 hx130_2 hx130_3 hx130_4 hx130_5 hx130_6 hx130_7 hx130_8 hHeld ⊢; refine pureZ HT_ 0 (some 10) (bT 24 1) ?_; refine pureZ HT_ 1 (some 11) (bT 24 2) ?_; refine pureZ HT_ 2 (some 12) (bT 24 3) ?_; refine takeZ27 HT_ HW_ 3 (some 13) (bT 24 4) hHeld ?_; refine one_ (i := 4) (N := some 14) (bT 24 5) rfl rfl (one_of HT_.out Zj) (by decide) (fun K hK => ?_); refine goes_ Try.func127 Zj rfl #[.agg #[.string ((rd_T92 l0 x3_1).f0), .int .i64 ((rd_T92 l0 x3_1).f1), .int .i64 ((rd_T92 l0 x3_1).f2), .int .i64 ((rd_T92 l0 x3_1).f3), .int .i64 ((rd_T92 l0 x3_1).f4), .int .i64 ((rd_T92 l0 x3_1).f5), .int .i64 ((rd_T92 l0 x3_1).f6), .int .i64 ((rd_T92 l0 x3_1).f7), .int .i64 ((rd_T92 l0 x3_1).f8)]] (by rfl) rfl rfl Zo ?_
          with_reducible refine (spec_IsArticle.calls k1 ((rd_T92 l0 x3_1).f0) ((rd_T92 l0 x3_1).f1) ((rd_T92 l0 x3_1).f2) ((rd_T92 l0 x3_1).f3) ((rd_T92 l0 x3_1).f4) ((rd_T92 l0 x3_1).f5) ((rd_T92 l0 x3_1).f6) ((rd_T92 l0 x3_1).f7) ((rd_T92 l0 x3_1).f8) true _ A4.out).mono ?_
          rintro e w14 ⟨rfl, hb⟩; refine ⟨_, rfl, ?_⟩; replace HB := Aside0.mk (below_step Zc hb)
          (try clear hb)
          (try clear hb2)
          (try clear hk)
          (try clear hi)
          refine hK.out _ _ ⟨(cbH HB hw127_0 :), (cbH HB hw127_1 :), (cbH HB hw127_2 :), (cbH HB hw127_3 :), (cbH HB hw127_4 :), (cbH HB hw127_5 :), (cbH HB hw127_6 :), (cbH HB hw127_7 :), (cbH HB hw127_8 :), (cbH HB hw129_0 :), (cbH HB hw129_1 :), (cbH HB hw129_2 :), (cbH HB hw129_3 :), (cbH HB hw129_4 :), (cbH HB hw129_5 :), (cbH HB hw129_6 :), (cbH HB hw129_7 :), (cbH HB hw129_8 :), (cbH HB hw130_0 :), (cbH HB hw130_1 :), (cbH HB hw130_2 :), (cbH HB hw130_3 :), (cbH HB hw130_4 :), (cbH HB hw130_5 :), (cbH HB hw130_6 :), (cbH HB hw130_7 :), (cbH HB hw130_8 :)⟩ (fun hHeld => ?_); clear hK K; refine normZ 14 ?_; refine pureZ HT_ 5 (some 15) (bT 24 6) ?_; refine pureZ HT_ 6 (some 16) (bT 24 7) ?_; refine pureZ HT_ 7 (some 17) (bT 24 8) ?_; refine pureZ HT_ 8 (some 18) (bT 24 9) ?_; refine pureZ HT_ 9 (some 19) (bT 24 10) ?_; refine pureZ HT_ 10 (some 20) (bT 24 11) ?_; refine pureZ HT_ 11 (some 21) (bT 24 12) ?_; refine pureZ HT_ 12 (some 22) (bT 24 13) ?_; refine pureZ HT_ 13 (some 23) (bT 24 14) ?_; refine pureZ HT_ 14 (some 24) (bT 24 15) ?_; refine pureZ HT_ 16 (some 26) #[true, true, true, true, true, true, true, true, true, true, true, true, true, true, true, false, true, false, false, false, false, false, false, false] ?_; refine pureZ HT_ 17 (some 27) #[true, true, true, true, true, true, true, true, true, true, true, true, true, true, true, false, true, true, false, false, false, false, false, false] ?_; refine pureZ HT_ 18 (some 28) #[true, true, true, true, true, true, true, true, true, true, true, true, true, true, true, false, true, true, true, false, false, false, false, false] ?_; refine pureZ HT_ 19 (some 29) #[true, true, true, true, true, true, true, true, true, true, true, true, true, true, true, false, true, true, true, true, false, false, false, false] ?_; refine takeZ27 HT_ HW_ 15 (some 25) (bT 24 20) hHeld ?_; refine takeZ27 HT_ HW_ 20 (some 30) (bT 24 21) hHeld ?_; refine pureZ HT_ 21 (some 31) (bT 24 22) ?_; refine pureZ HT_ 22 (some 32) (bT 24 23) ?_; refine pureZ HT_ 23 (some 33) (bT 24 24) ?_; refine done_ (done_of HT_.out Zj) ?_
          try go_wp2
          go_ret
          exact ⟨Zs, Zc⟩
        ·rw [if_neg c9] at H
         exact absurd H (by simp)
       ·rw [if_neg c8] at H
        exact absurd H (by simp)
      ·rw [if_neg c6] at H
       have c6b0 : decide (0 < x3_1) = false := decide_eq_false c6; clear c6; have H' := Aside0.mk H; clear H
       try go_wp2
       replace HB := Aside0.mk (below_drew1 HB.out); have p127 : 0 ≤ (x3_1 : Int) := of_decide_eq_true Zp; have q127 : x3_1 < (l0.length : Int) := of_decide_eq_true Zp; obtain ⟨ad127, e127, hx127_0, hx127_1, hx127_2, hx127_3, hx127_4, hx127_5, hx127_6, hx127_7, hx127_8⟩ := at_T92 HR0.out x3_1 p127 q127; have hw127_8 := hx127_8; have hw127_7 := hx127_7; have hw127_6 := hx127_6; have hw127_5 := hx127_5; have hw127_4 := hx127_4; have hw127_3 := hx127_3; have hw127_2 := hx127_2; have hw127_1 := hx127_1; have hw127_0 := hx127_0
       cases e127
       replace hx127_0 := cbH HB hx127_0; replace hx127_1 := cbH HB hx127_1; replace hx127_2 := cbH HB hx127_2; replace hx127_3 := cbH HB hx127_3; replace hx127_4 := cbH HB hx127_4; replace hx127_5 := cbH HB hx127_5; replace hx127_6 := cbH HB hx127_6; replace hx127_7 := cbH HB hx127_7; replace hx127_8 := cbH HB hx127_8; replace p127 := eq_true p127; replace q127 := eq_true q127; refine start_ (n := 24) (S := fun w' => w'.cell? (ad127.add ((x3_1).toNat * 9)) = some (.string ((rd_T92 l0 x3_1).f0)) ∧ w'.cell? ⟨(ad127.add ((x3_1).toNat * 9)).block, (ad127.add ((x3_1).toNat * 9)).off + 1, none⟩ = some (.int .i64 ((rd_T92 l0 x3_1).f1)) ∧ w'.cell? ⟨(ad127.add ((x3_1).toNat * 9)).block, (ad127.add ((x3_1).toNat * 9)).off + 2, none⟩ = some (.int .i64 ((rd_T92 l0 x3_1).f2)) ∧ w'.cell? ⟨(ad127.add ((x3_1).toNat * 9)).block, (ad127.add ((x3_1).toNat * 9)).off + 3, none⟩ = some (.int .i64 ((rd_T92 l0 x3_1).f3)) ∧ w'.cell? ⟨(ad127.add ((x3_1).toNat * 9)).block, (ad127.add ((x3_1).toNat * 9)).off + 4, none⟩ = some (.int .i64 ((rd_T92 l0 x3_1).f4)) ∧ w'.cell? ⟨(ad127.add ((x3_1).toNat * 9)).block, (ad127.add ((x3_1).toNat * 9)).off + 5, none⟩ = some (.int .i64 ((rd_T92 l0 x3_1).f5)) ∧ w'.cell? ⟨(ad127.add ((x3_1).toNat * 9)).block, (ad127.add ((x3_1).toNat * 9)).off + 6, none⟩ = some (.int .i64 ((rd_T92 l0 x3_1).f6)) ∧ w'.cell? ⟨(ad127.add ((x3_1).toNat * 9)).block, (ad127.add ((x3_1).toNat * 9)).off + 7, none⟩ = some (.int .i64 ((rd_T92 l0 x3_1).f7)) ∧ w'.cell? ⟨(ad127.add ((x3_1).toNat * 9)).block, (ad127.add ((x3_1).toNat * 9)).off + 8, none⟩ = some (.int .i64 ((rd_T92 l0 x3_1).f8))) (ds := []) (bT 24 0) Zj rfl rfl ⟨(cbH HB hw127_0 :), (cbH HB hw127_1 :), (cbH HB hw127_2 :), (cbH HB hw127_3 :), (cbH HB hw127_4 :), (cbH HB hw127_5 :), (cbH HB hw127_6 :), (cbH HB hw127_7 :), (cbH HB hw127_8 :)⟩ (fun hHeld => ?_); refine with_tabW spec_AreArticles.tab4 spec_AreArticles.bits4 (fun HT_ HW_ => ?_); generalize wr.drew = w15 at HB hx127_0 hx127_1 hx127_2 hx127_3 hx127_4 hx127_5 hx127_6 hx127_7 hx127_8 hHeld ⊢; refine pureZ HT_ 0 (some 10) (bT 24 1) ?_; refine pureZ HT_ 1 (some 11) (bT 24 2) ?_; refine pureZ HT_ 2 (some 12) (bT 24 3) ?_; refine takeZ9 HT_ HW_ 3 (some 13) (bT 24 4) hHeld ?_; refine one_ (i := 4) (N := some 14) (bT 24 5) rfl rfl (one_of HT_.out Zj) (by decide) (fun K hK => ?_); refine goes_ Try.func127 Zj rfl #[.agg #[.string ((rd_T92 l0 x3_1).f0), .int .i64 ((rd_T92 l0 x3_1).f1), .int .i64 ((rd_T92 l0 x3_1).f2), .int .i64 ((rd_T92 l0 x3_1).f3), .int .i64 ((rd_T92 l0 x3_1).f4), .int .i64 ((rd_T92 l0 x3_1).f5), .int .i64 ((rd_T92 l0 x3_1).f6), .int .i64 ((rd_T92 l0 x3_1).f7), .int .i64 ((rd_T92 l0 x3_1).f8)]] (by rfl) rfl rfl Zo ?_
       with_reducible refine (spec_IsArticle.calls k1 ((rd_T92 l0 x3_1).f0) ((rd_T92 l0 x3_1).f1) ((rd_T92 l0 x3_1).f2) ((rd_T92 l0 x3_1).f3) ((rd_T92 l0 x3_1).f4) ((rd_T92 l0 x3_1).f5) ((rd_T92 l0 x3_1).f6) ((rd_T92 l0 x3_1).f7) ((rd_T92 l0 x3_1).f8) true _ A4.out).mono ?_
       rintro e w16 ⟨rfl, hb⟩; refine ⟨_, rfl, ?_⟩; replace HB := Aside0.mk (below_step Zc hb)
       (try clear hb)
       (try clear hb2)
       (try clear hk)
       (try clear hi)
       refine hK.out _ _ ⟨(cbH HB hw127_0 :), (cbH HB hw127_1 :), (cbH HB hw127_2 :), (cbH HB hw127_3 :), (cbH HB hw127_4 :), (cbH HB hw127_5 :), (cbH HB hw127_6 :), (cbH HB hw127_7 :), (cbH HB hw127_8 :)⟩ (fun hHeld => ?_); clear hK K; refine normZ 14 ?_; refine pureZ HT_ 5 (some 15) (bT 24 6) ?_; refine pureZ HT_ 6 (some 16) (bT 24 7) ?_; refine pureZ HT_ 7 (some 17) (bT 24 8) ?_; refine pureZ HT_ 8 (some 18) (bT 24 9) ?_; refine pureZ HT_ 9 (some 19) (bT 24 10) ?_; refine pureU HT_ 10 (some 20) (bT 24 11) ?_; refine pureU HT_ 11 (some 21) (bT 24 12) ?_; refine pureU HT_ 12 (some 22) (bT 24 13) ?_; refine pureU HT_ 13 (some 23) (bT 24 14) ?_; refine pureU HT_ 14 (some 24) (bT 24 15) ?_; refine pureU HT_ 15 (some 25) (bT 24 16) ?_; refine pureU HT_ 16 (some 26) (bT 24 17) ?_; refine pureU HT_ 17 (some 27) (bT 24 18) ?_; refine pureU HT_ 18 (some 28) (bT 24 19) ?_; refine pureU HT_ 19 (some 29) (bT 24 20) ?_; refine pureU HT_ 20 (some 30) (bT 24 21) ?_; refine pureU HT_ 21 (some 31) (bT 24 22) ?_; refine pureZ HT_ 22 (some 32) (bT 24 23) ?_; refine pureZ HT_ 23 (some 33) (bT 24 24) ?_; refine done_ (done_of HT_.out Zj) ?_
       try go_wp2
       go_roundg k1
       case measure => have := HK1.out; omega
       case rel => exact ⟨(wrap64 (x3_1 + 1)), Za, H', ⟨Zt⟩, ⟨Zc⟩⟩
     ·replace c5 := Bool.eq_false_iff.mpr c5
      subst c5
      have H1 : (some false) = some r := by rw [if_neg (show ¬ (false = true) by decide)] at H; exact H
      clear H; have H := H1; clear H1; obtain rfl := Option.some.inj H
      try go_wp2
      replace HB := Aside0.mk (below_drew1 HB.out); have p127 : 0 ≤ (x3_1 : Int) := of_decide_eq_true Zp; have q127 : x3_1 < (l0.length : Int) := of_decide_eq_true Zp; obtain ⟨ad127, e127, hx127_0, hx127_1, hx127_2, hx127_3, hx127_4, hx127_5, hx127_6, hx127_7, hx127_8⟩ := at_T92 HR0.out x3_1 p127 q127; have hw127_8 := hx127_8; have hw127_7 := hx127_7; have hw127_6 := hx127_6; have hw127_5 := hx127_5; have hw127_4 := hx127_4; have hw127_3 := hx127_3; have hw127_2 := hx127_2; have hw127_1 := hx127_1; have hw127_0 := hx127_0
      cases e127
      replace hx127_0 := cbH HB hx127_0; replace hx127_1 := cbH HB hx127_1; replace hx127_2 := cbH HB hx127_2; replace hx127_3 := cbH HB hx127_3; replace hx127_4 := cbH HB hx127_4; replace hx127_5 := cbH HB hx127_5; replace hx127_6 := cbH HB hx127_6; replace hx127_7 := cbH HB hx127_7; replace hx127_8 := cbH HB hx127_8; replace p127 := eq_true p127; replace q127 := eq_true q127; refine start_ (n := 24) (S := fun w' => w'.cell? (ad127.add ((x3_1).toNat * 9)) = some (.string ((rd_T92 l0 x3_1).f0)) ∧ w'.cell? ⟨(ad127.add ((x3_1).toNat * 9)).block, (ad127.add ((x3_1).toNat * 9)).off + 1, none⟩ = some (.int .i64 ((rd_T92 l0 x3_1).f1)) ∧ w'.cell? ⟨(ad127.add ((x3_1).toNat * 9)).block, (ad127.add ((x3_1).toNat * 9)).off + 2, none⟩ = some (.int .i64 ((rd_T92 l0 x3_1).f2)) ∧ w'.cell? ⟨(ad127.add ((x3_1).toNat * 9)).block, (ad127.add ((x3_1).toNat * 9)).off + 3, none⟩ = some (.int .i64 ((rd_T92 l0 x3_1).f3)) ∧ w'.cell? ⟨(ad127.add ((x3_1).toNat * 9)).block, (ad127.add ((x3_1).toNat * 9)).off + 4, none⟩ = some (.int .i64 ((rd_T92 l0 x3_1).f4)) ∧ w'.cell? ⟨(ad127.add ((x3_1).toNat * 9)).block, (ad127.add ((x3_1).toNat * 9)).off + 5, none⟩ = some (.int .i64 ((rd_T92 l0 x3_1).f5)) ∧ w'.cell? ⟨(ad127.add ((x3_1).toNat * 9)).block, (ad127.add ((x3_1).toNat * 9)).off + 6, none⟩ = some (.int .i64 ((rd_T92 l0 x3_1).f6)) ∧ w'.cell? ⟨(ad127.add ((x3_1).toNat * 9)).block, (ad127.add ((x3_1).toNat * 9)).off + 7, none⟩ = some (.int .i64 ((rd_T92 l0 x3_1).f7)) ∧ w'.cell? ⟨(ad127.add ((x3_1).toNat * 9)).block, (ad127.add ((x3_1).toNat * 9)).off + 8, none⟩ = some (.int .i64 ((rd_T92 l0 x3_1).f8))) (ds := []) (bT 24 0) Zj rfl rfl ⟨(cbH HB hw127_0 :), (cbH HB hw127_1 :), (cbH HB hw127_2 :), (cbH HB hw127_3 :), (cbH HB hw127_4 :), (cbH HB hw127_5 :), (cbH HB hw127_6 :), (cbH HB hw127_7 :), (cbH HB hw127_8 :)⟩ (fun hHeld => ?_); refine with_tabW spec_AreArticles.tab4 spec_AreArticles.bits4 (fun HT_ HW_ => ?_); generalize wr.drew = w17 at HB hx127_0 hx127_1 hx127_2 hx127_3 hx127_4 hx127_5 hx127_6 hx127_7 hx127_8 hHeld ⊢; refine pureZ HT_ 0 (some 10) (bT 24 1) ?_; refine pureZ HT_ 1 (some 11) (bT 24 2) ?_; refine pureZ HT_ 2 (some 12) (bT 24 3) ?_; refine takeZ9 HT_ HW_ 3 (some 13) (bT 24 4) hHeld ?_; refine one_ (i := 4) (N := some 14) (bT 24 5) rfl rfl (one_of HT_.out Zj) (by decide) (fun K hK => ?_); refine goes_ Try.func127 Zj rfl #[.agg #[.string ((rd_T92 l0 x3_1).f0), .int .i64 ((rd_T92 l0 x3_1).f1), .int .i64 ((rd_T92 l0 x3_1).f2), .int .i64 ((rd_T92 l0 x3_1).f3), .int .i64 ((rd_T92 l0 x3_1).f4), .int .i64 ((rd_T92 l0 x3_1).f5), .int .i64 ((rd_T92 l0 x3_1).f6), .int .i64 ((rd_T92 l0 x3_1).f7), .int .i64 ((rd_T92 l0 x3_1).f8)]] (by rfl) rfl rfl Zo ?_
      with_reducible refine (spec_IsArticle.calls k1 ((rd_T92 l0 x3_1).f0) ((rd_T92 l0 x3_1).f1) ((rd_T92 l0 x3_1).f2) ((rd_T92 l0 x3_1).f3) ((rd_T92 l0 x3_1).f4) ((rd_T92 l0 x3_1).f5) ((rd_T92 l0 x3_1).f6) ((rd_T92 l0 x3_1).f7) ((rd_T92 l0 x3_1).f8) false _ A4.out).mono ?_
      rintro e w18 ⟨rfl, hb⟩; refine ⟨_, rfl, ?_⟩; replace HB := Aside0.mk (below_step Zc hb)
      (try clear hb)
      (try clear hb2)
      (try clear hk)
      (try clear hi)
      refine hK.out _ _ ⟨(cbH HB hw127_0 :), (cbH HB hw127_1 :), (cbH HB hw127_2 :), (cbH HB hw127_3 :), (cbH HB hw127_4 :), (cbH HB hw127_5 :), (cbH HB hw127_6 :), (cbH HB hw127_7 :), (cbH HB hw127_8 :)⟩ (fun hHeld => ?_); clear hK K; refine normZ 14 ?_; refine pureZ HT_ 5 (some 15) (bT 24 6) ?_; refine pureZ HT_ 6 (some 16) (bT 24 7) ?_; refine pureU HT_ 7 (some 17) (bT 24 8) ?_; refine pureU HT_ 8 (some 18) (bT 24 9) ?_; refine pureU HT_ 9 (some 19) (bT 24 10) ?_; refine pureU HT_ 10 (some 20) (bT 24 11) ?_; refine pureU HT_ 11 (some 21) (bT 24 12) ?_; refine pureU HT_ 12 (some 22) (bT 24 13) ?_; refine pureU HT_ 13 (some 23) (bT 24 14) ?_; refine pureU HT_ 14 (some 24) (bT 24 15) ?_; refine pureU HT_ 15 (some 25) (bT 24 16) ?_; refine pureU HT_ 16 (some 26) (bT 24 17) ?_; refine pureU HT_ 17 (some 27) (bT 24 18) ?_; refine pureU HT_ 18 (some 28) (bT 24 19) ?_; refine pureU HT_ 19 (some 29) (bT 24 20) ?_; refine pureU HT_ 20 (some 30) (bT 24 21) ?_; refine pureU HT_ 21 (some 31) (bT 24 22) ?_; refine pureU HT_ 22 (some 32) (bT 24 23) ?_; refine pureZ HT_ 23 (some 33) (bT 24 24) ?_; refine done_ (done_of HT_.out Zj) ?_
      try go_wp2
      go_ret
      exact ⟨Zk, Zc⟩
    ·rw [if_neg c3] at H
     exact absurd H (by simp)
   ·rw [if_neg c2] at H
    have c2b0 := decide_eq_false c2; clear c2; obtain rfl := Option.some.inj H
    go_wp2
    go_ret
    exact ⟨Zk, Zc⟩
def spec_l07Has.f (l0 : List (S108)) (a1 : Int) (a2 : Int) : Option (Bool) := (spec_l01In.f a1 0 (wrap64 ((l0.length : Int) - 1))).bind fun t131 => (if t131 = true then (if 0 ≤ a1 then (if a1 < (l0.length : Int) then ((spec_l01In.f a2 0 (wrap64 (((rd_T108 l0 a1).f0) - 1))).bind fun t133 => (some t133)) else (none)) else (none)) else (some false))
set_option maxHeartbeats 8000000 in
set_option maxRecDepth 100000 in
theorem spec_l07Has.calls (A0 : Option Addr) (c0 : Nat) (l0 : List (S108)) (a1 : Int) (a2 : Int) (r : Bool) (w : World) (hr0 : Kd.C k108 w A0 l0.length l0) (hc0 : l0.length ≤ c0) (h : spec_l07Has.f l0 a1 a2 = some r) :
  Calls Try.prog 93 #[.slice A0 l0.length c0, .int .i64 a1, .int .i64 a2] w fun e w' => e = .returned (.bool r) ∧ Drawn0 w w' := by
 have HR0 := Aside0.mk hr0; have HC0 := Aside0.mk hc0; clear hr0 hc0; have H : ((spec_l01In.f a1 0 (wrap64 ((l0.length : Int) - 1))).bind fun t131 => (if t131 = true then (if 0 ≤ a1 then (if a1 < (l0.length : Int) then ((spec_l01In.f a2 0 (wrap64 (((rd_T108 l0 a1).f0) - 1))).bind fun t133 => (some t133)) else (none)) else (none)) else (some false))) = some r := h; clear h; replace H := Option.bind_eq_some_iff.mp H; obtain ⟨t131, A40, H⟩ := H; have A4 := Aside0.mk A40; clear A40
 by_cases c5 : t131 = true
 ·subst c5
  have H1 : (if 0 ≤ a1 then (if a1 < (l0.length : Int) then ((spec_l01In.f a2 0 (wrap64 (((rd_T108 l0 a1).f0) - 1))).bind fun t133 => (some t133)) else (none)) else (none)) = some r := by rw [if_pos rfl] at H; exact H
  clear H; have H := H1; clear H1
  by_cases c6 : 0 ≤ a1
  ·rw [if_pos c6] at H
   have c6b0 := decide_eq_true c6; clear c6
   by_cases c7 : a1 < (l0.length : Int)
   ·rw [if_pos c7] at H
    have c7b0 := decide_eq_true c7; clear c7; replace H := Option.bind_eq_some_iff.mp H; obtain ⟨t133, A80, H⟩ := H; have A8 := Aside0.mk A80; clear A80; obtain rfl := Option.some.inj H
    go_enter Try.func93, Try.ntmps93
    go_wp2_with (first | ((with_reducible refine gate_callee (f := 68) rfl ?_); refine goesL_ (some 11) rfl rfl Try.func68 Zj rfl #[.int .i64 a1, .int .i64 0, .int .i64 (wrap64 ((l0.length : Int) - 1))] rfl Zo ?_; (with_reducible refine (spec_l01In.calls a1 0 (wrap64 ((l0.length : Int) - 1)) true _ A4.out).mono ?_); rintro e w' ⟨rfl, ⟨nd, rfl⟩⟩; refine ⟨_, rfl, ?_⟩; have p132 : 0 ≤ (a1 : Int) := of_decide_eq_true Zp; have q132 : a1 < (l0.length : Int) := of_decide_eq_true Zp; obtain ⟨ad132, e132, hx132_0, hx132_1⟩ := at_T108 HR0.out a1 p132 q132; cases e132; replace p132 := eq_true p132; replace q132 := eq_true q132) | (go_at_call 68; (with_reducible refine (spec_l01In.calls a2 0 (wrap64 (((rd_T108 l0 a1).f0) - 1)) t133 _ A8.out).mono ?_); rintro e w' ⟨rfl, ⟨nd, rfl⟩⟩))
    go_ret
    exact ⟨Za, Zb⟩
   ·rw [if_neg c7] at H
    exact absurd H (by simp)
  ·rw [if_neg c6] at H
   exact absurd H (by simp)
 ·replace c5 := Bool.eq_false_iff.mpr c5
  subst c5
  have H1 : (some false) = some r := by rw [if_neg (show ¬ (false = true) by decide)] at H; exact H
  clear H; have H := H1; clear H1; obtain rfl := Option.some.inj H
  go_enter Try.func93, Try.ntmps93
  go_wp2_with (first | ((with_reducible refine gate_callee (f := 68) rfl ?_); refine goesL_ (some 11) rfl rfl Try.func68 Zj rfl #[.int .i64 a1, .int .i64 0, .int .i64 (wrap64 ((l0.length : Int) - 1))] rfl Zo ?_; (with_reducible refine (spec_l01In.calls a1 0 (wrap64 ((l0.length : Int) - 1)) false _ A4.out).mono ?_); rintro e w' ⟨rfl, ⟨nd, rfl⟩⟩; refine ⟨_, rfl, ?_⟩))
  go_ret
  exact ⟨Za, Zb⟩
def spec_l03Find.l0 : Nat → List (S92) → ByteArray → Int → Option (Int)
 | 0, _, _, _ => none
 | k + 1, x0, x1, x5 => if x5 < (x0.length : Int) then (if 0 ≤ x5 then (if ((rd_T92 x0 x5).f0).toList = x1.toList then (some x5) else (spec_l03Find.l0 k x0 x1 (wrap64 (x5 + 1)))) else (none)) else (some (-1))
def spec_l03Find.f (k : Nat) (l0 : List (S92)) (a1 : ByteArray) : Option (Int) := spec_l03Find.l0 k l0 a1 0
set_option maxHeartbeats 8000000 in
set_option maxRecDepth 100000 in
theorem spec_l03Find.calls (k : Nat) (A0 : Option Addr) (c0 : Nat) (l0 : List (S92)) (a1 : ByteArray) (r : Int) (w : World) (hr0 : Kd.C k92 w A0 l0.length l0) (hc0 : l0.length ≤ c0) (h : spec_l03Find.f k l0 a1 = some r) :
  Calls Try.prog 94 #[.slice A0 l0.length c0, .string a1] w fun e w' => e = .returned (.int .i64 r) ∧ Drawn0 w w' := by
 have HR0 := Aside0.mk hr0; have HC0 := Aside0.mk hc0; clear hr0 hc0; have H : (spec_l03Find.l0 k l0 a1 0) = some r := h; clear h; have H' := Aside0.mk H; clear H
 go_enter Try.func94, Try.ntmps94
 go_wp2
 go_loopg [5] k (fun kq v5 w' => ∃ (x5_1 : Int), v5 = .int .i64 x5_1 ∧ Aside0 (spec_l03Find.l0 kq l0 a1 x5_1 = some r) ∧ Aside0 (kq ≤ k) ∧ Drawn0 w w')
 case atStart => exact ⟨(0), Za, H', ⟨Nat.le_refl _⟩, Zb⟩
 case round =>
  clear H'
  try clear p2
  obtain ⟨x5_1, rfl, HA, HK1, ⟨m1, rfl⟩⟩ := hrel
  cases gk with
  | zero => exact absurd HA.out (by simp [spec_l03Find.l0])
  | succ k1 =>
   have H := HA.out; clear HA; simp only [spec_l03Find.l0] at H
   by_cases c3 : x5_1 < (l0.length : Int)
   ·rw [if_pos c3] at H
    have c3b0 := decide_eq_true c3; clear c3
    by_cases c4 : 0 ≤ x5_1
    ·rw [if_pos c4] at H
     have c4b0 := decide_eq_true c4; clear c4
     by_cases c5 : ((rd_T92 l0 x5_1).f0).toList = a1.toList
     ·rw [if_pos c5] at H
      have c5b0 := beq_iff_eq.mpr c5; have c5b1 := bne_eq_false_iff_eq.mpr c5; clear c5; obtain rfl := Option.some.inj H; have p134 : 0 ≤ (x5_1 : Int) := of_decide_eq_true Zp; have q134 : x5_1 < (l0.length : Int) := of_decide_eq_true Zp; obtain ⟨ad134, e134, hx134_0, hx134_1, hx134_2, hx134_3, hx134_4, hx134_5, hx134_6, hx134_7, hx134_8⟩ := at_T92 HR0.out x5_1 p134 q134
      cases e134
      replace p134 := eq_true p134; replace q134 := eq_true q134
      go_wp2
      go_ret
      exact ⟨Za, Zb⟩
     ·rw [if_neg c5] at H
      have c5b0 := beq_eq_false_iff_ne.mpr c5; have c5b1 := bne_iff_ne.mpr c5; have H' := Aside0.mk H; clear H; have p134 : 0 ≤ (x5_1 : Int) := of_decide_eq_true Zp; have q134 : x5_1 < (l0.length : Int) := of_decide_eq_true Zp; obtain ⟨ad134, e134, hx134_0, hx134_1, hx134_2, hx134_3, hx134_4, hx134_5, hx134_6, hx134_7, hx134_8⟩ := at_T92 HR0.out x5_1 p134 q134
      cases e134
      replace p134 := eq_true p134; replace q134 := eq_true q134
      go_wp2
      go_roundg k1
      case measure => have := HK1.out; omega
      case rel => exact ⟨(wrap64 (x5_1 + 1)), Za, H', ⟨Zt⟩, Zb⟩
    ·rw [if_neg c4] at H
     exact absurd H (by simp)
   ·rw [if_neg c3] at H
    have c3b0 := decide_eq_false c3; clear c3; obtain rfl := Option.some.inj H
    go_wp2
    go_ret
    exact ⟨Za, Zb⟩
def spec_l07Time.l0 : Nat → List (S108) → Int → Int → Int → Int → Option (Int)
 | 0, _, _, _, _, _ => none
 | k + 1, x0, x1, x2, x7, x8 => if x8 < x1 then (if 0 ≤ x8 then (if x8 < (x0.length : Int) then (spec_l07Time.l0 k x0 x1 x2 (wrap64 (x7 + (wrap64 (((rd_T108 x0 x8).f0) * ((rd_T108 x0 x8).f1))))) (wrap64 (x8 + 1))) else (none)) else (none)) else (if 0 ≤ x1 then (if x1 < (x0.length : Int) then (some (wrap64 (x7 + (wrap64 (x2 * ((rd_T108 x0 x1).f1)))))) else (none)) else (none))
def spec_l07Time.f (k : Nat) (l0 : List (S108)) (a1 : Int) (a2 : Int) : Option (Int) := spec_l07Time.l0 k l0 a1 a2 0 0
set_option maxHeartbeats 8000000 in
set_option maxRecDepth 100000 in
theorem spec_l07Time.calls (k : Nat) (A0 : Option Addr) (c0 : Nat) (l0 : List (S108)) (a1 : Int) (a2 : Int) (r : Int) (w : World) (hr0 : Kd.C k108 w A0 l0.length l0) (hc0 : l0.length ≤ c0) (h : spec_l07Time.f k l0 a1 a2 = some r) :
  Calls Try.prog 128 #[.slice A0 l0.length c0, .int .i64 a1, .int .i64 a2] w fun e w' => e = .returned (.int .i64 r) ∧ Drawn0 w w' := by
 have HR0 := Aside0.mk hr0; have HC0 := Aside0.mk hc0; clear hr0 hc0; have H : (spec_l07Time.l0 k l0 a1 a2 0 0) = some r := h; clear h; have H' := Aside0.mk H; clear H
 go_enter Try.func128, Try.ntmps128
 go_wp2
 repeat (go_quiet (fail); try go_wp2)
 go_loopg [7, 8] k (fun kq v7 v8 w' => ∃ (x7_1 : Int) (x8_1 : Int), v7 = .int .i64 x7_1 ∧ v8 = .int .i64 x8_1 ∧ Aside0 (spec_l07Time.l0 kq l0 a1 a2 x7_1 x8_1 = some r) ∧ Aside0 (kq ≤ k) ∧ Drawn0 w w')
 case atStart => exact ⟨(0), (0), Za, Za, H', ⟨Nat.le_refl _⟩, Zb⟩
 case round =>
  clear H'
  try clear c1
  try clear p2
  obtain ⟨x7_1, x8_1, rfl, rfl, HA, HK1, ⟨m1, rfl⟩⟩ := hrel
  cases gk with
  | zero => exact absurd HA.out (by simp [spec_l07Time.l0])
  | succ k1 =>
   have H := HA.out; clear HA; simp only [spec_l07Time.l0] at H
   by_cases c4 : x8_1 < a1
   ·rw [if_pos c4] at H
    have c4b0 := decide_eq_true c4; clear c4
    by_cases c5 : 0 ≤ x8_1
    ·rw [if_pos c5] at H
     have c5b0 := decide_eq_true c5; clear c5
     by_cases c6 : x8_1 < (l0.length : Int)
     ·rw [if_pos c6] at H
      have c6b0 := decide_eq_true c6; clear c6; have H' := Aside0.mk H; clear H; have p135 : 0 ≤ (x8_1 : Int) := of_decide_eq_true Zp; have q135 : x8_1 < (l0.length : Int) := of_decide_eq_true Zp; obtain ⟨ad135, e135, hx135_0, hx135_1⟩ := at_T108 HR0.out x8_1 p135 q135
      cases e135
      replace p135 := eq_true p135; replace q135 := eq_true q135; have p136 : 0 ≤ (x8_1 : Int) := of_decide_eq_true Zp; have q136 : x8_1 < (l0.length : Int) := of_decide_eq_true Zp; obtain ⟨ad136, e136, hx136_0, hx136_1⟩ := at_T108 HR0.out x8_1 p136 q136; obtain rfl : ad135 = ad136 := (by injection e136); replace p136 := eq_true p136; replace q136 := eq_true q136
      go_wp2
      repeat (go_quiet (fail); try go_wp2)
      go_roundg k1
      case measure => have := HK1.out; omega
      case rel => exact ⟨(wrap64 (x7_1 + (wrap64 (((rd_T108 l0 x8_1).f0) * ((rd_T108 l0 x8_1).f1))))), (wrap64 (x8_1 + 1)), Za, Za, H', ⟨Zt⟩, Zb⟩
     ·rw [if_neg c6] at H
      exact absurd H (by simp)
    ·rw [if_neg c5] at H
     exact absurd H (by simp)
   ·rw [if_neg c4] at H
    have c4b0 := decide_eq_false c4; clear c4
    by_cases c7 : 0 ≤ a1
    ·rw [if_pos c7] at H
     have c7b0 := decide_eq_true c7; clear c7
     by_cases c8 : a1 < (l0.length : Int)
     ·rw [if_pos c8] at H
      have c8b0 := decide_eq_true c8; clear c8; obtain rfl := Option.some.inj H; have p137 : 0 ≤ (a1 : Int) := of_decide_eq_true Zp; have q137 : a1 < (l0.length : Int) := of_decide_eq_true Zp; obtain ⟨ad137, e137, hx137_0, hx137_1⟩ := at_T108 HR0.out a1 p137 q137
      cases e137
      replace p137 := eq_true p137; replace q137 := eq_true q137
      go_wp2
      repeat (go_quiet (fail); try go_wp2)
      go_ret
      exact ⟨Za, Zb⟩
     ·rw [if_neg c8] at H
      exact absurd H (by simp)
    ·rw [if_neg c7] at H
     exact absurd H (by simp)
def spec_l08Time.f (k : Nat) (l0_0 : List (S108)) (l0_1 : List (S92)) (l0_2 : List (S43)) (a1_0 : Int) (a1_1 : Int) (a1_2 : ByteArray) (a1_3 : Int) : Option (Int) := (spec_l07Time.f k l0_0 a1_0 a1_1).bind fun t140 => ((spec_l03Find.f k l0_1 a1_2).bind fun t141 => (if 0 ≤ t141 then (if t141 < (l0_1.length : Int) then (some (wrap64 (t140 - ((rd_T92 l0_1 t141).f3)))) else (none)) else (none)))
set_option maxHeartbeats 8000000 in
set_option maxRecDepth 100000 in
theorem spec_l08Time.calls (k : Nat) (A0_0 : Option Addr) (c0_0 : Nat) (l0_0 : List (S108)) (A0_1 : Option Addr) (c0_1 : Nat) (l0_1 : List (S92)) (A0_2 : Option Addr) (c0_2 : Nat) (l0_2 : List (S43)) (a1_0 : Int) (a1_1 : Int) (a1_2 : ByteArray) (a1_3 : Int) (r : Int) (w : World) (hr0_0 : Kd.C k108 w A0_0 l0_0.length l0_0) (hc0_0 : l0_0.length ≤ c0_0) (hr0_1 : Kd.C k92 w A0_1 l0_1.length l0_1) (hc0_1 : l0_1.length ≤ c0_1) (hr0_2 : Kd.C k43 w A0_2 l0_2.length l0_2) (hc0_2 : l0_2.length ≤ c0_2) (h : spec_l08Time.f k l0_0 l0_1 l0_2 a1_0 a1_1 a1_2 a1_3 = some r) :
  Calls Try.prog 95 #[.agg #[.slice A0_0 l0_0.length c0_0, .slice A0_1 l0_1.length c0_1, .slice A0_2 l0_2.length c0_2], .agg #[.int .i64 a1_0, .int .i64 a1_1, .string a1_2, .int .i64 a1_3]] w fun e w' => e = .returned (.int .i64 r) ∧ Below w.heap.size w w' := by
 have hu32 := Try.underlying32; have hu43 := Try.underlying43; have HR0_0 := Aside0.mk hr0_0; have HC0_0 := Aside0.mk hc0_0; clear hr0_0 hc0_0; have HR0_1 := Aside0.mk hr0_1; have HC0_1 := Aside0.mk hc0_1; clear hr0_1 hc0_1; have HR0_2 := Aside0.mk hr0_2; have HC0_2 := Aside0.mk hc0_2; clear hr0_2 hc0_2; have HB := Aside0.mk (Below.refl w.heap.size w); have H : ((spec_l07Time.f k l0_0 a1_0 a1_1).bind fun t140 => ((spec_l03Find.f k l0_1 a1_2).bind fun t141 => (if 0 ≤ t141 then (if t141 < (l0_1.length : Int) then (some (wrap64 (t140 - ((rd_T92 l0_1 t141).f3)))) else (none)) else (none)))) = some r := h; clear h; replace H := Option.bind_eq_some_iff.mp H; obtain ⟨t140, A30, H⟩ := H; have A3 := Aside0.mk A30; clear A30; replace H := Option.bind_eq_some_iff.mp H; obtain ⟨t141, A40, H⟩ := H; have A4 := Aside0.mk A40; clear A40
 by_cases c5 : 0 ≤ t141
 ·rw [if_pos c5] at H
  have c5b0 := decide_eq_true c5; clear c5
  by_cases c6 : t141 < (l0_1.length : Int)
  ·rw [if_pos c6] at H
   have c6b0 := decide_eq_true c6; clear c6; obtain rfl := Option.some.inj H
   go_enter Try.func95, Try.ntmps95
   go_wp2_with (first | ((with_reducible refine gate_dst (N := 2) rfl ?_); refine boxZ 2 #[.slice A0_0 l0_0.length c0_0, .slice A0_1 l0_1.length c0_1, .slice A0_2 l0_2.length c0_2] 32 ?_; intro gb138 hg w7 hbox hb; have n0_ := Aside0.mk (below_step Zc hb); have n1_ := Aside0.mk (hbox); have n2_ := Aside0.mk ((Zd : w.heap.size ≤ gb138)); have n3_ := Aside0.mk ((Zd : w.heap.size ≤ gb138)); clear HB; have HB := n0_; have BK138 := n1_; have GW138 := n2_; have GE138 := n3_; clear n0_ n1_ n2_ n3_; clear hb hbox hg) | ((with_reducible refine gate_dst (N := 3) rfl ?_); refine boxZ 3 #[.int .i64 a1_0, .int .i64 a1_1, .string a1_2, .int .i64 a1_3] 43 ?_; intro gb139 hg w8 hbox hb; have n0_ := (have z0_ := BK138; bkZ hb); have n1_ := Aside0.mk (below_step (have z0_ := GE138; Ze) hb); have n2_ := Aside0.mk (hbox); have n3_ := Aside0.mk (((have z0_ := GE138; Zf) : w.heap.size ≤ gb139)); have n4_ := Aside0.mk (((have z0_ := GE138; Zf) : w.heap.size ≤ gb139)); have n5_ := Aside0.mk (((have z0_ := BK138; Zap) : gb138 ≠ gb139)); have n6_ := Aside0.mk (((have z0_ := BK138; Zaq) : gb139 ≠ gb138)); clear BK138; clear HB; have BK138 := n0_; have HB := n1_; have BK139 := n2_; have GW139 := n3_; have GE139 := n4_; have NB138_139 := n5_; have NB139_138 := n6_; clear n0_ n1_ n2_ n3_ n4_ n5_ n6_; clear hb hbox hg; have hnb9 := NB138_139.out; have hnc9 := NB139_138.out; obtain ⟨hcz10_0, hcz10_1, hcz10_2, hfz10_0, hfz10_1, hfz10_2⟩ := cz3 BK138; obtain ⟨hcz11_0, hcz11_1, hcz11_2, hcz11_3, hfz11_0, hfz11_1, hfz11_2, hfz11_3⟩ := cz4 BK139) | (go_at_call 128; (with_reducible refine (spec_l07Time.calls k _ _ l0_0 a1_0 a1_1 t140 _ ?side1 ?side2 A3.out).mono ?_); (case side1 => exact (have z0_ := HR0_0; Zae)); (case side2 => exact HC0_0.out); rintro e w' ⟨rfl, ⟨nd, rfl⟩⟩; (try first | exact ⟨rfl, _, World.drewN_drewN _ _ _⟩ | exact ⟨rfl, _, Eq.trans (World.drewN_drewN _ _ _) (congrArg (World.drewN _) (Nat.add_assoc _ _ _))⟩)) | (go_at_call 94; (with_reducible refine (spec_l03Find.calls k _ _ l0_1 a1_2 t141 _ ?side1 ?side2 A4.out).mono ?_); (case side1 => repeat (first | exact (Kd.C_below HR0_1.out (have z0_ := GE138; have z1_ := GE139; Zh)) | (with_reducible refine Kd.C_alloc ?_ _) | (with_reducible refine Kd.C_drewN ?_ _) | (with_reducible refine Kd.C_drew ?_))); (case side2 => exact HC0_1.out); rintro e w' ⟨rfl, ⟨nd, rfl⟩⟩; (try first | exact ⟨rfl, _, World.drewN_drewN _ _ _⟩ | exact ⟨rfl, _, Eq.trans (World.drewN_drewN _ _ _) (congrArg (World.drewN _) (Nat.add_assoc _ _ _))⟩); have p142 : 0 ≤ (t141 : Int) := of_decide_eq_true Zp; have q142 : t141 < (l0_1.length : Int) := of_decide_eq_true Zp; obtain ⟨ad142, e142, hx142_0, hx142_1, hx142_2, hx142_3, hx142_4, hx142_5, hx142_6, hx142_7, hx142_8⟩ := at_T92 HR0_1.out t141 p142 q142; cases e142; replace hx142_0 := cbH HB hx142_0; replace hx142_1 := cbH HB hx142_1; replace hx142_2 := cbH HB hx142_2; replace hx142_3 := cbH HB hx142_3; replace hx142_4 := cbH HB hx142_4; replace hx142_5 := cbH HB hx142_5; replace hx142_6 := cbH HB hx142_6; replace hx142_7 := cbH HB hx142_7; replace hx142_8 := cbH HB hx142_8; replace p142 := eq_true p142; replace q142 := eq_true q142))
   repeat (go_quiet (first | ((with_reducible refine gate_dst (N := 2) rfl ?_); refine boxZ 2 #[.slice A0_0 l0_0.length c0_0, .slice A0_1 l0_1.length c0_1, .slice A0_2 l0_2.length c0_2] 32 ?_; intro gb138 hg w7 hbox hb; have n0_ := Aside0.mk (below_step Zc hb); have n1_ := Aside0.mk (hbox); have n2_ := Aside0.mk ((Zd : w.heap.size ≤ gb138)); have n3_ := Aside0.mk ((Zd : w.heap.size ≤ gb138)); clear HB; have HB := n0_; have BK138 := n1_; have GW138 := n2_; have GE138 := n3_; clear n0_ n1_ n2_ n3_; clear hb hbox hg) | ((with_reducible refine gate_dst (N := 3) rfl ?_); refine boxZ 3 #[.int .i64 a1_0, .int .i64 a1_1, .string a1_2, .int .i64 a1_3] 43 ?_; intro gb139 hg w8 hbox hb; have n0_ := (have z0_ := BK138; bkZ hb); have n1_ := Aside0.mk (below_step (have z0_ := GE138; Ze) hb); have n2_ := Aside0.mk (hbox); have n3_ := Aside0.mk (((have z0_ := GE138; Zf) : w.heap.size ≤ gb139)); have n4_ := Aside0.mk (((have z0_ := GE138; Zf) : w.heap.size ≤ gb139)); have n5_ := Aside0.mk (((have z0_ := BK138; Zap) : gb138 ≠ gb139)); have n6_ := Aside0.mk (((have z0_ := BK138; Zaq) : gb139 ≠ gb138)); clear BK138; clear HB; have BK138 := n0_; have HB := n1_; have BK139 := n2_; have GW139 := n3_; have GE139 := n4_; have NB138_139 := n5_; have NB139_138 := n6_; clear n0_ n1_ n2_ n3_ n4_ n5_ n6_; clear hb hbox hg; have hnb9 := NB138_139.out; have hnc9 := NB139_138.out; obtain ⟨hcz10_0, hcz10_1, hcz10_2, hfz10_0, hfz10_1, hfz10_2⟩ := cz3 BK138; obtain ⟨hcz11_0, hcz11_1, hcz11_2, hcz11_3, hfz11_0, hfz11_1, hfz11_2, hfz11_3⟩ := cz4 BK139) | (go_at_call 128; (with_reducible refine (spec_l07Time.calls k _ _ l0_0 a1_0 a1_1 t140 _ ?side1 ?side2 A3.out).mono ?_); (case side1 => exact (have z0_ := HR0_0; Zae)); (case side2 => exact HC0_0.out); rintro e w' ⟨rfl, ⟨nd, rfl⟩⟩; (try first | exact ⟨rfl, _, World.drewN_drewN _ _ _⟩ | exact ⟨rfl, _, Eq.trans (World.drewN_drewN _ _ _) (congrArg (World.drewN _) (Nat.add_assoc _ _ _))⟩)) | (go_at_call 94; (with_reducible refine (spec_l03Find.calls k _ _ l0_1 a1_2 t141 _ ?side1 ?side2 A4.out).mono ?_); (case side1 => repeat (first | exact (Kd.C_below HR0_1.out (have z0_ := GE138; have z1_ := GE139; Zh)) | (with_reducible refine Kd.C_alloc ?_ _) | (with_reducible refine Kd.C_drewN ?_ _) | (with_reducible refine Kd.C_drew ?_))); (case side2 => exact HC0_1.out); rintro e w' ⟨rfl, ⟨nd, rfl⟩⟩; (try first | exact ⟨rfl, _, World.drewN_drewN _ _ _⟩ | exact ⟨rfl, _, Eq.trans (World.drewN_drewN _ _ _) (congrArg (World.drewN _) (Nat.add_assoc _ _ _))⟩); have p142 : 0 ≤ (t141 : Int) := of_decide_eq_true Zp; have q142 : t141 < (l0_1.length : Int) := of_decide_eq_true Zp; obtain ⟨ad142, e142, hx142_0, hx142_1, hx142_2, hx142_3, hx142_4, hx142_5, hx142_6, hx142_7, hx142_8⟩ := at_T92 HR0_1.out t141 p142 q142; cases e142; replace hx142_0 := cbH HB hx142_0; replace hx142_1 := cbH HB hx142_1; replace hx142_2 := cbH HB hx142_2; replace hx142_3 := cbH HB hx142_3; replace hx142_4 := cbH HB hx142_4; replace hx142_5 := cbH HB hx142_5; replace hx142_6 := cbH HB hx142_6; replace hx142_7 := cbH HB hx142_7; replace hx142_8 := cbH HB hx142_8; replace p142 := eq_true p142; replace q142 := eq_true q142)); try go_wp2_with (first | ((with_reducible refine gate_dst (N := 2) rfl ?_); refine boxZ 2 #[.slice A0_0 l0_0.length c0_0, .slice A0_1 l0_1.length c0_1, .slice A0_2 l0_2.length c0_2] 32 ?_; intro gb138 hg w7 hbox hb; have n0_ := Aside0.mk (below_step Zc hb); have n1_ := Aside0.mk (hbox); have n2_ := Aside0.mk ((Zd : w.heap.size ≤ gb138)); have n3_ := Aside0.mk ((Zd : w.heap.size ≤ gb138)); clear HB; have HB := n0_; have BK138 := n1_; have GW138 := n2_; have GE138 := n3_; clear n0_ n1_ n2_ n3_; clear hb hbox hg) | ((with_reducible refine gate_dst (N := 3) rfl ?_); refine boxZ 3 #[.int .i64 a1_0, .int .i64 a1_1, .string a1_2, .int .i64 a1_3] 43 ?_; intro gb139 hg w8 hbox hb; have n0_ := (have z0_ := BK138; bkZ hb); have n1_ := Aside0.mk (below_step (have z0_ := GE138; Ze) hb); have n2_ := Aside0.mk (hbox); have n3_ := Aside0.mk (((have z0_ := GE138; Zf) : w.heap.size ≤ gb139)); have n4_ := Aside0.mk (((have z0_ := GE138; Zf) : w.heap.size ≤ gb139)); have n5_ := Aside0.mk (((have z0_ := BK138; Zap) : gb138 ≠ gb139)); have n6_ := Aside0.mk (((have z0_ := BK138; Zaq) : gb139 ≠ gb138)); clear BK138; clear HB; have BK138 := n0_; have HB := n1_; have BK139 := n2_; have GW139 := n3_; have GE139 := n4_; have NB138_139 := n5_; have NB139_138 := n6_; clear n0_ n1_ n2_ n3_ n4_ n5_ n6_; clear hb hbox hg; have hnb9 := NB138_139.out; have hnc9 := NB139_138.out; obtain ⟨hcz10_0, hcz10_1, hcz10_2, hfz10_0, hfz10_1, hfz10_2⟩ := cz3 BK138; obtain ⟨hcz11_0, hcz11_1, hcz11_2, hcz11_3, hfz11_0, hfz11_1, hfz11_2, hfz11_3⟩ := cz4 BK139) | (go_at_call 128; (with_reducible refine (spec_l07Time.calls k _ _ l0_0 a1_0 a1_1 t140 _ ?side1 ?side2 A3.out).mono ?_); (case side1 => exact (have z0_ := HR0_0; Zae)); (case side2 => exact HC0_0.out); rintro e w' ⟨rfl, ⟨nd, rfl⟩⟩; (try first | exact ⟨rfl, _, World.drewN_drewN _ _ _⟩ | exact ⟨rfl, _, Eq.trans (World.drewN_drewN _ _ _) (congrArg (World.drewN _) (Nat.add_assoc _ _ _))⟩)) | (go_at_call 94; (with_reducible refine (spec_l03Find.calls k _ _ l0_1 a1_2 t141 _ ?side1 ?side2 A4.out).mono ?_); (case side1 => repeat (first | exact (Kd.C_below HR0_1.out (have z0_ := GE138; have z1_ := GE139; Zh)) | (with_reducible refine Kd.C_alloc ?_ _) | (with_reducible refine Kd.C_drewN ?_ _) | (with_reducible refine Kd.C_drew ?_))); (case side2 => exact HC0_1.out); rintro e w' ⟨rfl, ⟨nd, rfl⟩⟩; (try first | exact ⟨rfl, _, World.drewN_drewN _ _ _⟩ | exact ⟨rfl, _, Eq.trans (World.drewN_drewN _ _ _) (congrArg (World.drewN _) (Nat.add_assoc _ _ _))⟩); have p142 : 0 ≤ (t141 : Int) := of_decide_eq_true Zp; have q142 : t141 < (l0_1.length : Int) := of_decide_eq_true Zp; obtain ⟨ad142, e142, hx142_0, hx142_1, hx142_2, hx142_3, hx142_4, hx142_5, hx142_6, hx142_7, hx142_8⟩ := at_T92 HR0_1.out t141 p142 q142; cases e142; replace hx142_0 := cbH HB hx142_0; replace hx142_1 := cbH HB hx142_1; replace hx142_2 := cbH HB hx142_2; replace hx142_3 := cbH HB hx142_3; replace hx142_4 := cbH HB hx142_4; replace hx142_5 := cbH HB hx142_5; replace hx142_6 := cbH HB hx142_6; replace hx142_7 := cbH HB hx142_7; replace hx142_8 := cbH HB hx142_8; replace p142 := eq_true p142; replace q142 := eq_true q142)))
   go_ret
   exact ⟨by first | rfl | (simp only [i64_w]; done) | (simp only [i64_w]; rfl) | (simp [errW_none, errW_some] <;> rfl) | (simp [*, errW_none, errW_some] <;> rfl), (have z0_ := GE138; have z1_ := GE139; Zh)⟩
  ·rw [if_neg c6] at H
   exact absurd H (by simp)
 ·rw [if_neg c5] at H
  exact absurd H (by simp)
mutual
def spec_IsShow.j0 : Nat → Bool → List (S108) → List (S92) → List (S43) → Option (Bool)
 | 0, _, _, _, _ => none
 | k + 1, x20, x144000, x144001, x144002 => if x20 = true then (some false) else (spec_IsShow.l0 k 0 x144000 x144001 x144002)
def spec_IsShow.l0 : Nat → Int → List (S108) → List (S92) → List (S43) → Option (Bool)
 | 0, _, _, _, _ => none
 | k + 1, x3, x144000, x144001, x144002 => if x3 < (x144002.length : Int) then (if 0 ≤ x3 then ((spec_l07Has.f x144000 ((rd_T43 x144002 x3).f0) ((rd_T43 x144002 x3).f1)).bind fun t148 => (if t148 = true then ((spec_l03Find.f k x144001 ((rd_T43 x144002 x3).f2)).bind fun t149 => (if t149 < 0 then (some false) else ((spec_l01In.f ((rd_T43 x144002 x3).f3) 0 11).bind fun t150 => (if t150 = true then ((spec_l08Time.f k x144000 x144001 x144002 ((rd_T43 x144002 x3).f0) ((rd_T43 x144002 x3).f1) ((rd_T43 x144002 x3).f2) ((rd_T43 x144002 x3).f3)).bind fun t151 => (if t151 < 0 then (some false) else (spec_IsShow.l0 k (wrap64 (x3 + 1)) x144000 x144001 x144002))) else (some false))))) else (some false))) else (none)) else (some true)
end
def spec_IsShow.f (k : Nat) (l0_0 : List (S108)) (l0_1 : List (S92)) (l0_2 : List (S43)) : Option (Bool) := (spec_IsScore.f k l0_0).bind fun t144 => (if t144 = true then ((spec_AreArticles.f k l0_1).bind fun t145 => (if t145 = true then (spec_IsShow.j0 k (decide ((l0_2.length : Int) > 20)) l0_0 l0_1 l0_2) else (spec_IsShow.j0 k true l0_0 l0_1 l0_2))) else (spec_IsShow.j0 k true l0_0 l0_1 l0_2))
set_option maxHeartbeats 8000000 in
set_option maxRecDepth 100000 in
theorem spec_IsShow.calls (k : Nat) (A0_0 : Option Addr) (c0_0 : Nat) (l0_0 : List (S108)) (A0_1 : Option Addr) (c0_1 : Nat) (l0_1 : List (S92)) (A0_2 : Option Addr) (c0_2 : Nat) (l0_2 : List (S43)) (r : Bool) (w : World) (hr0_0 : Kd.C k108 w A0_0 l0_0.length l0_0) (hc0_0 : l0_0.length ≤ c0_0) (hr0_1 : Kd.C k92 w A0_1 l0_1.length l0_1) (hc0_1 : l0_1.length ≤ c0_1) (hr0_2 : Kd.C k43 w A0_2 l0_2.length l0_2) (hc0_2 : l0_2.length ≤ c0_2) (h : spec_IsShow.f k l0_0 l0_1 l0_2 = some r) :
  Calls Try.prog 36 #[.agg #[.slice A0_0 l0_0.length c0_0, .slice A0_1 l0_1.length c0_1, .slice A0_2 l0_2.length c0_2]] w fun e w' => e = .returned (.bool r) ∧ Below w.heap.size w w' := by
 have hu32 := Try.underlying32; have hu43 := Try.underlying43; have HR0_0 := Aside0.mk hr0_0; have HC0_0 := Aside0.mk hc0_0; clear hr0_0 hc0_0; have HR0_1 := Aside0.mk hr0_1; have HC0_1 := Aside0.mk hc0_1; clear hr0_1 hc0_1; have HR0_2 := Aside0.mk hr0_2; have HC0_2 := Aside0.mk hc0_2; clear hr0_2 hc0_2; have HB := Aside0.mk (Below.refl w.heap.size w); have H : ((spec_IsScore.f k l0_0).bind fun t144 => (if t144 = true then ((spec_AreArticles.f k l0_1).bind fun t145 => (if t145 = true then (spec_IsShow.j0 k (decide ((l0_2.length : Int) > 20)) l0_0 l0_1 l0_2) else (spec_IsShow.j0 k true l0_0 l0_1 l0_2))) else (spec_IsShow.j0 k true l0_0 l0_1 l0_2))) = some r := h; clear h; have HC2 := Aside0.mk H; clear H
 go_enter Try.func36, Try.ntmps36
 go_upto_region 1 with (first | ((with_reducible refine gate_dst (N := 1) rfl ?_); (try (refine gate_guard (by rfl) ?_; dsimp only)); refine boxZ 1 #[.slice A0_0 l0_0.length c0_0, .slice A0_1 l0_1.length c0_1, .slice A0_2 l0_2.length c0_2] 32 ?_; intro gb143 hg w3 hbox hb; have n0_ := Aside0.mk (below_step Zc hb); have n1_ := Aside0.mk (hbox); have n2_ := Aside0.mk ((Zd : w.heap.size ≤ gb143)); have n3_ := Aside0.mk ((Zd : w.heap.size ≤ gb143)); clear HB; have HB := n0_; have BK143 := n1_; have GW143 := n2_; have GE143 := n3_; clear n0_ n1_ n2_ n3_; clear hb hbox hg))
 (try simp only [Act.put, List.setIfInBounds_toArray, List.set_cons_zero, List.set_cons_succ])
 go_cut [20] (fun v20 wc => ∃ (kq : Nat) (x20_1 : Bool), v20 = .bool x20_1 ∧ Aside0 (spec_IsShow.j0 kq x20_1 l0_0 l0_1 l0_2 = some r) ∧ Aside0 (kq ≤ k) ∧ Aside0 (wc.heap[gb143]? = some (.cells #[(.slice A0_0 l0_0.length c0_0), (.slice A0_1 l0_1.length c0_1), (.slice A0_2 l0_2.length c0_2)] 32 (0, 0))) ∧ Aside0 (Below w.heap.size w wc))
 case first =>
  have H := HC2.out; clear HC2; replace H := Option.bind_eq_some_iff.mp H; obtain ⟨t144, A40, H⟩ := H; have A4 := Aside0.mk A40; clear A40
  by_cases c5 : t144 = true
  ·subst c5
   have H1 : ((spec_AreArticles.f k l0_1).bind fun t145 => (if t145 = true then (spec_IsShow.j0 k (decide ((l0_2.length : Int) > 20)) l0_0 l0_1 l0_2) else (spec_IsShow.j0 k true l0_0 l0_1 l0_2))) = some r := by rw [if_pos rfl] at H; exact H
   clear H; have H := H1; clear H1; replace H := Option.bind_eq_some_iff.mp H; obtain ⟨t145, A60, H⟩ := H; have A6 := Aside0.mk A60; clear A60
   by_cases c7 : t145 = true
   ·subst c7
    have H1 : (spec_IsShow.j0 k (decide ((l0_2.length : Int) > 20)) l0_0 l0_1 l0_2) = some r := by rw [if_pos rfl] at H; exact H
    clear H; have H := H1; clear H1; have H' := Aside0.mk H; clear H; obtain ⟨hcz8_0, hcz8_1, hcz8_2, hfz8_0, hfz8_1, hfz8_2⟩ := cz3 BK143
    go_wp2_with (first | ((with_reducible refine gate_callee (f := 91) rfl ?_); refine goesL_ (some 7) rfl rfl Try.func91 Zj rfl #[.slice A0_0 l0_0.length c0_0] rfl Zo ?_; (with_reducible refine (spec_IsScore.calls k _ _ l0_0 true _ ?side1 ?side2 A4.out).mono ?_); (case side1 => exact (have z0_ := HR0_0; Zae)); (case side2 => exact HC0_0.out); rintro e w' ⟨rfl, ⟨nd, rfl⟩⟩; refine ⟨_, rfl, ?_⟩) | (go_at_call 92; (with_reducible refine (spec_AreArticles.calls k _ _ l0_1 true _ ?side1 ?side2 A6.out).mono ?_); (case side1 => repeat (first | exact (Kd.C_below HR0_1.out (have z0_ := GE143; Ze)) | (with_reducible refine Kd.C_alloc ?_ _) | (with_reducible refine Kd.C_drewN ?_ _) | (with_reducible refine Kd.C_drew ?_))); (case side2 => exact HC0_1.out); rintro e w9 ⟨rfl, hb⟩; replace BK143 := (have z0_ := BK143; bkZ hb); replace HB := Aside0.mk (below_step (have z0_ := GE143; Ze) hb); (try clear hb); (try clear hb2); (try clear hk); (try clear hi); obtain ⟨hcz10_0, hcz10_1, hcz10_2, hfz10_0, hfz10_1, hfz10_2⟩ := cz3 BK143))
    go_meet
    case rel => exact ⟨_, (decide ((l0_2.length : Int) > 20)), Za, H', ⟨Zm⟩, ⟨(have z0_ := BK143; Zg)⟩, ⟨(have z0_ := GE143; Ze)⟩⟩
   ·replace c7 := Bool.eq_false_iff.mpr c7
    subst c7
    have H1 : (spec_IsShow.j0 k true l0_0 l0_1 l0_2) = some r := by rw [if_neg (show ¬ (false = true) by decide)] at H; exact H
    clear H; have H := H1; clear H1; have H' := Aside0.mk H; clear H; obtain ⟨hcz11_0, hcz11_1, hcz11_2, hfz11_0, hfz11_1, hfz11_2⟩ := cz3 BK143
    go_wp2_with (first | ((with_reducible refine gate_callee (f := 91) rfl ?_); refine goesL_ (some 7) rfl rfl Try.func91 Zj rfl #[.slice A0_0 l0_0.length c0_0] rfl Zo ?_; (with_reducible refine (spec_IsScore.calls k _ _ l0_0 true _ ?side1 ?side2 A4.out).mono ?_); (case side1 => exact (have z0_ := HR0_0; Zae)); (case side2 => exact HC0_0.out); rintro e w' ⟨rfl, ⟨nd, rfl⟩⟩; refine ⟨_, rfl, ?_⟩) | (go_at_call 92; (with_reducible refine (spec_AreArticles.calls k _ _ l0_1 false _ ?side1 ?side2 A6.out).mono ?_); (case side1 => repeat (first | exact (Kd.C_below HR0_1.out (have z0_ := GE143; Ze)) | (with_reducible refine Kd.C_alloc ?_ _) | (with_reducible refine Kd.C_drewN ?_ _) | (with_reducible refine Kd.C_drew ?_))); (case side2 => exact HC0_1.out); rintro e w12 ⟨rfl, hb⟩; replace BK143 := (have z0_ := BK143; bkZ hb); replace HB := Aside0.mk (below_step (have z0_ := GE143; Ze) hb); (try clear hb); (try clear hb2); (try clear hk); (try clear hi)))
    go_meet
    case rel => exact ⟨_, (true), Za, H', ⟨Zm⟩, ⟨(have z0_ := BK143; Zg)⟩, ⟨(have z0_ := GE143; Ze)⟩⟩
  ·replace c5 := Bool.eq_false_iff.mpr c5
   subst c5
   have H1 : (spec_IsShow.j0 k true l0_0 l0_1 l0_2) = some r := by rw [if_neg (show ¬ (false = true) by decide)] at H; exact H
   clear H; have H := H1; clear H1; have H' := Aside0.mk H; clear H; obtain ⟨hcz13_0, hcz13_1, hcz13_2, hfz13_0, hfz13_1, hfz13_2⟩ := cz3 BK143
   go_wp2_with (first | ((with_reducible refine gate_callee (f := 91) rfl ?_); refine goesL_ (some 7) rfl rfl Try.func91 Zj rfl #[.slice A0_0 l0_0.length c0_0] rfl Zo ?_; (with_reducible refine (spec_IsScore.calls k _ _ l0_0 false _ ?side1 ?side2 A4.out).mono ?_); (case side1 => exact (have z0_ := HR0_0; Zae)); (case side2 => exact HC0_0.out); rintro e w' ⟨rfl, ⟨nd, rfl⟩⟩; refine ⟨_, rfl, ?_⟩))
   go_meet
   case rel => exact ⟨_, (true), Za, H', ⟨Zm⟩, ⟨(have z0_ := BK143; Zg)⟩, ⟨(have z0_ := GE143; Ze)⟩⟩
 case rest =>
  clear HC2
  try clear p2
  try clear c3
  try clear c5
  try clear c7
  try clear c9
  try clear hcz10_0
  try clear hcz10_1
  try clear hcz10_2
  try clear hcz11_0
  try clear hcz11_1
  try clear hcz11_2
  try clear hcz13_0
  try clear hcz13_1
  try clear hcz13_2
  try clear hcz8_0
  try clear hcz8_1
  try clear hcz8_2
  try clear hfz10_0
  try clear hfz10_1
  try clear hfz10_2
  try clear hfz11_0
  try clear hfz11_1
  try clear hfz11_2
  try clear hfz13_0
  try clear hfz13_1
  try clear hfz13_2
  try clear hfz8_0
  try clear hfz8_1
  try clear hfz8_2
  obtain ⟨kq, x20_1, rfl, HA, HJ1, BK143, HB⟩ := hcut
  cases kq with
  | zero => exact absurd HA.out (by simp [spec_IsShow.j0])
  | succ kj1 =>
   have H := HA.out; clear HA; simp only [spec_IsShow.j0] at H
   by_cases c14 : x20_1 = true
   ·subst c14
    have H1 : (some false) = some r := by rw [if_pos rfl] at H; exact H
    clear H; have H := H1; clear H1; obtain rfl := Option.some.inj H
    go_wp2
    go_ret
    exact ⟨Zk, (have z0_ := GE143; Ze)⟩
   ·replace c14 := Bool.eq_false_iff.mpr c14
    subst c14
    have H1 : (spec_IsShow.l0 kj1 0 l0_0 l0_1 l0_2) = some r := by rw [if_neg (show ¬ (false = true) by decide)] at H; exact H
    clear H; have H := H1; clear H1; have H' := Aside0.mk H; clear H
    go_wp2
    go_loopg [3] kj1 (fun kq v3 w' => ∃ (x3_2 : Int), v3 = .int .i64 x3_2 ∧ Aside0 (spec_IsShow.l0 kq x3_2 l0_0 l0_1 l0_2 = some r) ∧ Aside0 (kq ≤ kj1) ∧ Aside0 (w'.heap[gb143]? = some (.cells #[(.slice A0_0 l0_0.length c0_0), (.slice A0_1 l0_1.length c0_1), (.slice A0_2 l0_2.length c0_2)] 32 (0, 0))) ∧ Aside0 (Below w.heap.size w w'))
    case atStart => exact ⟨(0), Za, H', ⟨Nat.le_refl _⟩, ⟨(have z0_ := BK143; Zg)⟩, ⟨(have z0_ := GE143; Ze)⟩⟩
    case round =>
     clear H'
     try clear c1
     try clear p2
     try clear c3
     try clear c5
     try clear c7
     try clear c9
     try clear c14
     try clear hcz10_0
     try clear hcz10_1
     try clear hcz10_2
     try clear hcz11_0
     try clear hcz11_1
     try clear hcz11_2
     try clear hcz13_0
     try clear hcz13_1
     try clear hcz13_2
     try clear hcz8_0
     try clear hcz8_1
     try clear hcz8_2
     try clear hfz10_0
     try clear hfz10_1
     try clear hfz10_2
     try clear hfz11_0
     try clear hfz11_1
     try clear hfz11_2
     try clear hfz13_0
     try clear hfz13_1
     try clear hfz13_2
     try clear hfz8_0
     try clear hfz8_1
     try clear hfz8_2
     try clear p2
     obtain ⟨x3_2, rfl, HA, HK2, BK143, HB⟩ := hrel
     cases gk with
     | zero => exact absurd HA.out (by simp [spec_IsShow.l0])
     | succ k2 =>
      have H := HA.out; clear HA; simp only [spec_IsShow.l0] at H
      by_cases c15 : x3_2 < (l0_2.length : Int)
      ·rw [if_pos c15] at H
       have c15b0 := decide_eq_true c15; clear c15
       by_cases c16 : 0 ≤ x3_2
       ·rw [if_pos c16] at H
        have c16b0 := decide_eq_true c16; clear c16; replace H := Option.bind_eq_some_iff.mp H; obtain ⟨t148, A170, H⟩ := H; have A17 := Aside0.mk A170; clear A170
        by_cases c18 : t148 = true
        ·subst c18
         have H1 : ((spec_l03Find.f k2 l0_1 ((rd_T43 l0_2 x3_2).f2)).bind fun t149 => (if t149 < 0 then (some false) else ((spec_l01In.f ((rd_T43 l0_2 x3_2).f3) 0 11).bind fun t150 => (if t150 = true then ((spec_l08Time.f k2 l0_0 l0_1 l0_2 ((rd_T43 l0_2 x3_2).f0) ((rd_T43 l0_2 x3_2).f1) ((rd_T43 l0_2 x3_2).f2) ((rd_T43 l0_2 x3_2).f3)).bind fun t151 => (if t151 < 0 then (some false) else (spec_IsShow.l0 k2 (wrap64 (x3_2 + 1)) l0_0 l0_1 l0_2))) else (some false))))) = some r := by rw [if_pos rfl] at H; exact H
         clear H; have H := H1; clear H1; replace H := Option.bind_eq_some_iff.mp H; obtain ⟨t149, A190, H⟩ := H; have A19 := Aside0.mk A190; clear A190
         by_cases c20 : t149 < 0
         ·rw [if_pos c20] at H
          have c20b0 := decide_eq_true c20; clear c20; obtain rfl := Option.some.inj H; obtain ⟨_, _, _, _, _, _⟩ := cz3 BK143; have p146 : 0 ≤ (x3_2 : Int) := of_decide_eq_true Zp; have q146 : x3_2 < (l0_2.length : Int) := of_decide_eq_true Zp; obtain ⟨ad146, e146, hx146_0, hx146_1, hx146_2, hx146_3⟩ := at_T43 HR0_2.out x3_2 p146 q146
          cases e146
          replace hx146_0 := cbH HB hx146_0; replace hx146_1 := cbH HB hx146_1; replace hx146_2 := cbH HB hx146_2; replace hx146_3 := cbH HB hx146_3; replace p146 := eq_true p146; replace q146 := eq_true q146
          go_wp2_with (first | ((with_reducible refine gate_dst (N := 4) rfl ?_); (try (refine gate_guard (by rfl) ?_; dsimp only)); refine boxZ 4 #[.int .i64 0, .int .i64 0, .string (⟨#[]⟩ : ByteArray), .int .i64 0] 43 ?_; intro gb147 hg w22 hbox hb; have n0_ := (have z0_ := BK143; bkZ hb); have n1_ := Aside0.mk (below_step (have z0_ := GE143; Ze) hb); have n2_ := Aside0.mk (hbox); have n3_ := Aside0.mk (((have z0_ := GE143; Zf) : w.heap.size ≤ gb147)); have n4_ := Aside0.mk (((have z0_ := GE143; Zf) : w.heap.size ≤ gb147)); have n5_ := Aside0.mk (((have z0_ := BK143; Zar) : gb143 ≠ gb147)); have n6_ := Aside0.mk (((have z0_ := BK143; Zas) : gb147 ≠ gb143)); clear BK143; clear HB; have BK143 := n0_; have HB := n1_; have BK147 := n2_; have GW147 := n3_; have GE147 := n4_; have NB143_147 := n5_; have NB147_143 := n6_; clear n0_ n1_ n2_ n3_ n4_ n5_ n6_; clear hb hbox hg; have hnb23 := NB147_143.out; have hnc23 := NB143_147.out; obtain ⟨_, _, _, _, _, _, _, _⟩ := cz4 BK147; obtain ⟨_, _, _, _, _, _⟩ := cz3 BK143) | ((with_reducible refine gate_callee (f := 93) rfl ?_); refine goesL_ (some 39) rfl rfl Try.func93 Zj rfl #[.slice A0_0 l0_0.length c0_0, .int .i64 ((rd_T43 l0_2 x3_2).f0), .int .i64 ((rd_T43 l0_2 x3_2).f1)] rfl Zo ?_; (with_reducible refine (spec_l07Has.calls _ _ l0_0 ((rd_T43 l0_2 x3_2).f0) ((rd_T43 l0_2 x3_2).f1) true _ ?side1 ?side2 A17.out).mono ?_); (case side1 => exact Kd.C_below HR0_0.out (have z0_ := GE143; have z1_ := GE147; Zh)); (case side2 => exact HC0_0.out); rintro e w' ⟨rfl, ⟨nd, rfl⟩⟩; refine ⟨_, rfl, ?_⟩) | (go_at_call 94; (with_reducible refine (spec_l03Find.calls k2 _ _ l0_1 ((rd_T43 l0_2 x3_2).f2) t149 _ ?side1 ?side2 A19.out).mono ?_); (case side1 => exact Kd.C_below HR0_1.out (have z0_ := GE143; have z1_ := GE147; Zh)); (case side2 => exact HC0_1.out); rintro e w' ⟨rfl, ⟨nd, rfl⟩⟩))
          go_ret
          exact ⟨Zk, (have z0_ := GE143; have z1_ := GE147; Zh)⟩
         ·rw [if_neg c20] at H
          have c20b0 := decide_eq_false c20; clear c20; replace H := Option.bind_eq_some_iff.mp H; obtain ⟨t150, A260, H⟩ := H; have A26 := Aside0.mk A260; clear A260
          by_cases c27 : t150 = true
          ·subst c27
           have H1 : ((spec_l08Time.f k2 l0_0 l0_1 l0_2 ((rd_T43 l0_2 x3_2).f0) ((rd_T43 l0_2 x3_2).f1) ((rd_T43 l0_2 x3_2).f2) ((rd_T43 l0_2 x3_2).f3)).bind fun t151 => (if t151 < 0 then (some false) else (spec_IsShow.l0 k2 (wrap64 (x3_2 + 1)) l0_0 l0_1 l0_2))) = some r := by rw [if_pos rfl] at H; exact H
           clear H; have H := H1; clear H1; replace H := Option.bind_eq_some_iff.mp H; obtain ⟨t151, A280, H⟩ := H; have A28 := Aside0.mk A280; clear A280
           by_cases c29 : t151 < 0
           ·rw [if_pos c29] at H
            have c29b0 := decide_eq_true c29; clear c29; obtain rfl := Option.some.inj H; obtain ⟨_, _, _, _, _, _⟩ := cz3 BK143; have p146 : 0 ≤ (x3_2 : Int) := of_decide_eq_true Zp; have q146 : x3_2 < (l0_2.length : Int) := of_decide_eq_true Zp; obtain ⟨ad146, e146, hx146_0, hx146_1, hx146_2, hx146_3⟩ := at_T43 HR0_2.out x3_2 p146 q146
            cases e146
            replace hx146_0 := cbH HB hx146_0; replace hx146_1 := cbH HB hx146_1; replace hx146_2 := cbH HB hx146_2; replace hx146_3 := cbH HB hx146_3; replace p146 := eq_true p146; replace q146 := eq_true q146
            go_wp2_with (first | ((with_reducible refine gate_dst (N := 4) rfl ?_); (try (refine gate_guard (by rfl) ?_; dsimp only)); refine boxZ 4 #[.int .i64 0, .int .i64 0, .string (⟨#[]⟩ : ByteArray), .int .i64 0] 43 ?_; intro gb147 hg w31 hbox hb; have n0_ := (have z0_ := BK143; bkZ hb); have n1_ := Aside0.mk (below_step (have z0_ := GE143; Ze) hb); have n2_ := Aside0.mk (hbox); have n3_ := Aside0.mk (((have z0_ := GE143; Zf) : w.heap.size ≤ gb147)); have n4_ := Aside0.mk (((have z0_ := GE143; Zf) : w.heap.size ≤ gb147)); have n5_ := Aside0.mk (((have z0_ := BK143; Zar) : gb143 ≠ gb147)); have n6_ := Aside0.mk (((have z0_ := BK143; Zas) : gb147 ≠ gb143)); clear BK143; clear HB; have BK143 := n0_; have HB := n1_; have BK147 := n2_; have GW147 := n3_; have GE147 := n4_; have NB143_147 := n5_; have NB147_143 := n6_; clear n0_ n1_ n2_ n3_ n4_ n5_ n6_; clear hb hbox hg; have hnb32 := NB147_143.out; have hnc32 := NB143_147.out; obtain ⟨_, _, _, _, _, _, _, _⟩ := cz4 BK147; obtain ⟨_, _, _, _, _, _⟩ := cz3 BK143) | ((with_reducible refine gate_callee (f := 93) rfl ?_); refine goesL_ (some 39) rfl rfl Try.func93 Zj rfl #[.slice A0_0 l0_0.length c0_0, .int .i64 ((rd_T43 l0_2 x3_2).f0), .int .i64 ((rd_T43 l0_2 x3_2).f1)] rfl Zo ?_; (with_reducible refine (spec_l07Has.calls _ _ l0_0 ((rd_T43 l0_2 x3_2).f0) ((rd_T43 l0_2 x3_2).f1) true _ ?side1 ?side2 A17.out).mono ?_); (case side1 => exact Kd.C_below HR0_0.out (have z0_ := GE143; have z1_ := GE147; Zh)); (case side2 => exact HC0_0.out); rintro e w' ⟨rfl, ⟨nd, rfl⟩⟩; refine ⟨_, rfl, ?_⟩) | (go_at_call 94; (with_reducible refine (spec_l03Find.calls k2 _ _ l0_1 ((rd_T43 l0_2 x3_2).f2) t149 _ ?side1 ?side2 A19.out).mono ?_); (case side1 => exact Kd.C_below HR0_1.out (have z0_ := GE143; have z1_ := GE147; Zh)); (case side2 => exact HC0_1.out); rintro e w' ⟨rfl, ⟨nd, rfl⟩⟩) | (go_at_call 68; (with_reducible refine (spec_l01In.calls ((rd_T43 l0_2 x3_2).f3) 0 11 true _ A26.out).mono ?_); rintro e w' ⟨rfl, ⟨nd, rfl⟩⟩) | (go_at_call 95; (with_reducible refine (spec_l08Time.calls k2 _ _ l0_0 _ _ l0_1 _ _ l0_2 ((rd_T43 l0_2 x3_2).f0) ((rd_T43 l0_2 x3_2).f1) ((rd_T43 l0_2 x3_2).f2) ((rd_T43 l0_2 x3_2).f3) t151 _ ?side1 ?side2 ?side3 ?side4 ?side5 ?side6 A28.out).mono ?_); (case side1 => exact Kd.C_below HR0_0.out (have z0_ := GE143; have z1_ := GE147; Zh)); (case side2 => exact HC0_0.out); (case side3 => exact Kd.C_below HR0_1.out (have z0_ := GE143; have z1_ := GE147; Zh)); (case side4 => exact HC0_1.out); (case side5 => exact Kd.C_below HR0_2.out (have z0_ := GE143; have z1_ := GE147; Zh)); (case side6 => exact HC0_2.out); rintro e w35 ⟨rfl, hb⟩; replace BK143 := Aside0.mk (blk_below (g := gb143) (o := .cells #[.slice A0_0 l0_0.length c0_0, .slice A0_1 l0_1.length c0_1, .slice (some ad146) l0_2.length c0_2] 32 (0, 0)) (have z0_ := NB143_147; have z1_ := BK143; Zat) hb); replace BK147 := Aside0.mk (blk_below (g := gb147) (o := .cells #[.int .i64 ((rd_T43 l0_2 x3_2).f0), .int .i64 ((rd_T43 l0_2 x3_2).f1), .string ((rd_T43 l0_2 x3_2).f2), .int .i64 ((rd_T43 l0_2 x3_2).f3)] 43 (0, 0)) (have z0_ := BK147; Zau) hb); replace HB := Aside0.mk (below_step (have z0_ := GE143; have z1_ := GE147; Zh) hb); (try clear hb); (try clear hb2); (try clear hk); (try clear hi)))
            go_ret
            exact ⟨Zk, (have z0_ := GE143; have z1_ := GE147; Zh)⟩
           ·rw [if_neg c29] at H
            have c29b0 := decide_eq_false c29; clear c29; have H' := Aside0.mk H; clear H; obtain ⟨_, _, _, _, _, _⟩ := cz3 BK143; have p146 : 0 ≤ (x3_2 : Int) := of_decide_eq_true Zp; have q146 : x3_2 < (l0_2.length : Int) := of_decide_eq_true Zp; obtain ⟨ad146, e146, hx146_0, hx146_1, hx146_2, hx146_3⟩ := at_T43 HR0_2.out x3_2 p146 q146
            cases e146
            replace hx146_0 := cbH HB hx146_0; replace hx146_1 := cbH HB hx146_1; replace hx146_2 := cbH HB hx146_2; replace hx146_3 := cbH HB hx146_3; replace p146 := eq_true p146; replace q146 := eq_true q146
            go_wp2_with (first | ((with_reducible refine gate_dst (N := 4) rfl ?_); (try (refine gate_guard (by rfl) ?_; dsimp only)); refine boxZ 4 #[.int .i64 0, .int .i64 0, .string (⟨#[]⟩ : ByteArray), .int .i64 0] 43 ?_; intro gb147 hg w37 hbox hb; have n0_ := (have z0_ := BK143; bkZ hb); have n1_ := Aside0.mk (below_step (have z0_ := GE143; Ze) hb); have n2_ := Aside0.mk (hbox); have n3_ := Aside0.mk (((have z0_ := GE143; Zf) : w.heap.size ≤ gb147)); have n4_ := Aside0.mk (((have z0_ := GE143; Zf) : w.heap.size ≤ gb147)); have n5_ := Aside0.mk (((have z0_ := BK143; Zar) : gb143 ≠ gb147)); have n6_ := Aside0.mk (((have z0_ := BK143; Zas) : gb147 ≠ gb143)); clear BK143; clear HB; have BK143 := n0_; have HB := n1_; have BK147 := n2_; have GW147 := n3_; have GE147 := n4_; have NB143_147 := n5_; have NB147_143 := n6_; clear n0_ n1_ n2_ n3_ n4_ n5_ n6_; clear hb hbox hg; have hnb38 := NB147_143.out; have hnc38 := NB143_147.out; obtain ⟨_, _, _, _, _, _, _, _⟩ := cz4 BK147; obtain ⟨_, _, _, _, _, _⟩ := cz3 BK143) | ((with_reducible refine gate_callee (f := 93) rfl ?_); refine goesL_ (some 39) rfl rfl Try.func93 Zj rfl #[.slice A0_0 l0_0.length c0_0, .int .i64 ((rd_T43 l0_2 x3_2).f0), .int .i64 ((rd_T43 l0_2 x3_2).f1)] rfl Zo ?_; (with_reducible refine (spec_l07Has.calls _ _ l0_0 ((rd_T43 l0_2 x3_2).f0) ((rd_T43 l0_2 x3_2).f1) true _ ?side1 ?side2 A17.out).mono ?_); (case side1 => exact Kd.C_below HR0_0.out (have z0_ := GE143; have z1_ := GE147; Zh)); (case side2 => exact HC0_0.out); rintro e w' ⟨rfl, ⟨nd, rfl⟩⟩; refine ⟨_, rfl, ?_⟩) | (go_at_call 94; (with_reducible refine (spec_l03Find.calls k2 _ _ l0_1 ((rd_T43 l0_2 x3_2).f2) t149 _ ?side1 ?side2 A19.out).mono ?_); (case side1 => exact Kd.C_below HR0_1.out (have z0_ := GE143; have z1_ := GE147; Zh)); (case side2 => exact HC0_1.out); rintro e w' ⟨rfl, ⟨nd, rfl⟩⟩) | (go_at_call 68; (with_reducible refine (spec_l01In.calls ((rd_T43 l0_2 x3_2).f3) 0 11 true _ A26.out).mono ?_); rintro e w' ⟨rfl, ⟨nd, rfl⟩⟩) | (go_at_call 95; (with_reducible refine (spec_l08Time.calls k2 _ _ l0_0 _ _ l0_1 _ _ l0_2 ((rd_T43 l0_2 x3_2).f0) ((rd_T43 l0_2 x3_2).f1) ((rd_T43 l0_2 x3_2).f2) ((rd_T43 l0_2 x3_2).f3) t151 _ ?side1 ?side2 ?side3 ?side4 ?side5 ?side6 A28.out).mono ?_); (case side1 => exact Kd.C_below HR0_0.out (have z0_ := GE143; have z1_ := GE147; Zh)); (case side2 => exact HC0_0.out); (case side3 => exact Kd.C_below HR0_1.out (have z0_ := GE143; have z1_ := GE147; Zh)); (case side4 => exact HC0_1.out); (case side5 => exact Kd.C_below HR0_2.out (have z0_ := GE143; have z1_ := GE147; Zh)); (case side6 => exact HC0_2.out); rintro e w41 ⟨rfl, hb⟩; replace BK143 := Aside0.mk (blk_below (g := gb143) (o := .cells #[.slice A0_0 l0_0.length c0_0, .slice A0_1 l0_1.length c0_1, .slice (some ad146) l0_2.length c0_2] 32 (0, 0)) (have z0_ := NB143_147; have z1_ := BK143; Zat) hb); replace BK147 := Aside0.mk (blk_below (g := gb147) (o := .cells #[.int .i64 ((rd_T43 l0_2 x3_2).f0), .int .i64 ((rd_T43 l0_2 x3_2).f1), .string ((rd_T43 l0_2 x3_2).f2), .int .i64 ((rd_T43 l0_2 x3_2).f3)] 43 (0, 0)) (have z0_ := BK147; Zau) hb); replace HB := Aside0.mk (below_step (have z0_ := GE143; have z1_ := GE147; Zh) hb); (try clear hb); (try clear hb2); (try clear hk); (try clear hi)))
            go_roundg k2
            case measure => have := HJ1.out; have := HK2.out; omega
            case rel => exact ⟨(wrap64 (x3_2 + 1)), Za, H', ⟨by have := HJ1.out; have := HK2.out; omega⟩, ⟨(have z0_ := BK143; Zg)⟩, ⟨(have z0_ := GE143; have z1_ := GE147; Zh)⟩⟩
          ·replace c27 := Bool.eq_false_iff.mpr c27
           subst c27
           have H1 : (some false) = some r := by rw [if_neg (show ¬ (false = true) by decide)] at H; exact H
           clear H; have H := H1; clear H1; obtain rfl := Option.some.inj H; obtain ⟨_, _, _, _, _, _⟩ := cz3 BK143; have p146 : 0 ≤ (x3_2 : Int) := of_decide_eq_true Zp; have q146 : x3_2 < (l0_2.length : Int) := of_decide_eq_true Zp; obtain ⟨ad146, e146, hx146_0, hx146_1, hx146_2, hx146_3⟩ := at_T43 HR0_2.out x3_2 p146 q146
           cases e146
           replace hx146_0 := cbH HB hx146_0; replace hx146_1 := cbH HB hx146_1; replace hx146_2 := cbH HB hx146_2; replace hx146_3 := cbH HB hx146_3; replace p146 := eq_true p146; replace q146 := eq_true q146
           go_wp2_with (first | ((with_reducible refine gate_dst (N := 4) rfl ?_); (try (refine gate_guard (by rfl) ?_; dsimp only)); refine boxZ 4 #[.int .i64 0, .int .i64 0, .string (⟨#[]⟩ : ByteArray), .int .i64 0] 43 ?_; intro gb147 hg w43 hbox hb; have n0_ := (have z0_ := BK143; bkZ hb); have n1_ := Aside0.mk (below_step (have z0_ := GE143; Ze) hb); have n2_ := Aside0.mk (hbox); have n3_ := Aside0.mk (((have z0_ := GE143; Zf) : w.heap.size ≤ gb147)); have n4_ := Aside0.mk (((have z0_ := GE143; Zf) : w.heap.size ≤ gb147)); have n5_ := Aside0.mk (((have z0_ := BK143; Zar) : gb143 ≠ gb147)); have n6_ := Aside0.mk (((have z0_ := BK143; Zas) : gb147 ≠ gb143)); clear BK143; clear HB; have BK143 := n0_; have HB := n1_; have BK147 := n2_; have GW147 := n3_; have GE147 := n4_; have NB143_147 := n5_; have NB147_143 := n6_; clear n0_ n1_ n2_ n3_ n4_ n5_ n6_; clear hb hbox hg; have hnb44 := NB147_143.out; have hnc44 := NB143_147.out; obtain ⟨_, _, _, _, _, _, _, _⟩ := cz4 BK147; obtain ⟨_, _, _, _, _, _⟩ := cz3 BK143) | ((with_reducible refine gate_callee (f := 93) rfl ?_); refine goesL_ (some 39) rfl rfl Try.func93 Zj rfl #[.slice A0_0 l0_0.length c0_0, .int .i64 ((rd_T43 l0_2 x3_2).f0), .int .i64 ((rd_T43 l0_2 x3_2).f1)] rfl Zo ?_; (with_reducible refine (spec_l07Has.calls _ _ l0_0 ((rd_T43 l0_2 x3_2).f0) ((rd_T43 l0_2 x3_2).f1) true _ ?side1 ?side2 A17.out).mono ?_); (case side1 => exact Kd.C_below HR0_0.out (have z0_ := GE143; have z1_ := GE147; Zh)); (case side2 => exact HC0_0.out); rintro e w' ⟨rfl, ⟨nd, rfl⟩⟩; refine ⟨_, rfl, ?_⟩) | (go_at_call 94; (with_reducible refine (spec_l03Find.calls k2 _ _ l0_1 ((rd_T43 l0_2 x3_2).f2) t149 _ ?side1 ?side2 A19.out).mono ?_); (case side1 => exact Kd.C_below HR0_1.out (have z0_ := GE143; have z1_ := GE147; Zh)); (case side2 => exact HC0_1.out); rintro e w' ⟨rfl, ⟨nd, rfl⟩⟩) | (go_at_call 68; (with_reducible refine (spec_l01In.calls ((rd_T43 l0_2 x3_2).f3) 0 11 false _ A26.out).mono ?_); rintro e w' ⟨rfl, ⟨nd, rfl⟩⟩))
           go_ret
           exact ⟨Zk, (have z0_ := GE143; have z1_ := GE147; Zh)⟩
        ·replace c18 := Bool.eq_false_iff.mpr c18
         subst c18
         have H1 : (some false) = some r := by rw [if_neg (show ¬ (false = true) by decide)] at H; exact H
         clear H; have H := H1; clear H1; obtain rfl := Option.some.inj H; obtain ⟨_, _, _, _, _, _⟩ := cz3 BK143; have p146 : 0 ≤ (x3_2 : Int) := of_decide_eq_true Zp; have q146 : x3_2 < (l0_2.length : Int) := of_decide_eq_true Zp; obtain ⟨ad146, e146, hx146_0, hx146_1, hx146_2, hx146_3⟩ := at_T43 HR0_2.out x3_2 p146 q146
         cases e146
         replace hx146_0 := cbH HB hx146_0; replace hx146_1 := cbH HB hx146_1; replace hx146_2 := cbH HB hx146_2; replace hx146_3 := cbH HB hx146_3; replace p146 := eq_true p146; replace q146 := eq_true q146
         go_wp2_with (first | ((with_reducible refine gate_dst (N := 4) rfl ?_); (try (refine gate_guard (by rfl) ?_; dsimp only)); refine boxZ 4 #[.int .i64 0, .int .i64 0, .string (⟨#[]⟩ : ByteArray), .int .i64 0] 43 ?_; intro gb147 hg w48 hbox hb; have n0_ := (have z0_ := BK143; bkZ hb); have n1_ := Aside0.mk (below_step (have z0_ := GE143; Ze) hb); have n2_ := Aside0.mk (hbox); have n3_ := Aside0.mk (((have z0_ := GE143; Zf) : w.heap.size ≤ gb147)); have n4_ := Aside0.mk (((have z0_ := GE143; Zf) : w.heap.size ≤ gb147)); have n5_ := Aside0.mk (((have z0_ := BK143; Zar) : gb143 ≠ gb147)); have n6_ := Aside0.mk (((have z0_ := BK143; Zas) : gb147 ≠ gb143)); clear BK143; clear HB; have BK143 := n0_; have HB := n1_; have BK147 := n2_; have GW147 := n3_; have GE147 := n4_; have NB143_147 := n5_; have NB147_143 := n6_; clear n0_ n1_ n2_ n3_ n4_ n5_ n6_; clear hb hbox hg; have hnb49 := NB147_143.out; have hnc49 := NB143_147.out; obtain ⟨_, _, _, _, _, _, _, _⟩ := cz4 BK147; obtain ⟨_, _, _, _, _, _⟩ := cz3 BK143) | ((with_reducible refine gate_callee (f := 93) rfl ?_); refine goesL_ (some 39) rfl rfl Try.func93 Zj rfl #[.slice A0_0 l0_0.length c0_0, .int .i64 ((rd_T43 l0_2 x3_2).f0), .int .i64 ((rd_T43 l0_2 x3_2).f1)] rfl Zo ?_; (with_reducible refine (spec_l07Has.calls _ _ l0_0 ((rd_T43 l0_2 x3_2).f0) ((rd_T43 l0_2 x3_2).f1) false _ ?side1 ?side2 A17.out).mono ?_); (case side1 => exact Kd.C_below HR0_0.out (have z0_ := GE143; have z1_ := GE147; Zh)); (case side2 => exact HC0_0.out); rintro e w' ⟨rfl, ⟨nd, rfl⟩⟩; refine ⟨_, rfl, ?_⟩))
         go_ret
         exact ⟨Zk, (have z0_ := GE143; have z1_ := GE147; Zh)⟩
       ·rw [if_neg c16] at H
        exact absurd H (by simp)
      ·rw [if_neg c15] at H
       have c15b0 := decide_eq_false c15; clear c15; obtain rfl := Option.some.inj H; obtain ⟨_, _, _, _, _, _⟩ := cz3 BK143
       go_wp2
       go_ret
       exact ⟨Zk, (have z0_ := GE143; Ze)⟩
def spec_l08With.f (l0_0 : List (S108)) (l0_1 : List (S92)) (l0_2 : List (S43)) (l1 : List (S43)) : Option ((List (S108)) × (List (S92)) × (List (S43))) := (some (([] : List (S108)) : List (S108))).bind fun y154 => (if y154.length + l0_0.length < 8796093022208 then ((some (([] : List (S92)) : List (S92))).bind fun y160 => (if y160.length + l0_1.length < 1759218604441 then ((some (([] : List (S43)) : List (S43))).bind fun y166 => (if y166.length + l1.length < 3518437208883 then (some ((y154 ++ l0_0), (y160 ++ l0_1), (y166 ++ l1))) else (none))) else (none))) else (none))
def spec_l08With.T1 : Bool × List (List Nat × List Nat) := (true, [([], []), ([], []), ([1], [1]), ([0, 2], [0, 2]), ([], []), ([], []), ([5], [5]), ([4, 6, 3], [4, 6]), ([], []), ([], []), ([8, 9, 7], [8, 9]), ([3, 7, 10], [3, 7, 10]), ([11, 10, 0, 1, 2, 3, 4, 5, 6, 7, 8, 9, 10, 11], [11])])
def spec_l08With.B1 : List Nat := [0, 0, 2, 7, 0, 0, 32, 127, 0, 0, 1023, 2047, 4095]
theorem spec_l08With.tab1 : rtab .any (opsOf Try.f69 1) = spec_l08With.T1 := by kernel_rfl
theorem spec_l08With.bits1 : waitsOk spec_l08With.T1.2 spec_l08With.B1 = true := by kernel_rfl
set_option maxHeartbeats 8000000 in
set_option maxRecDepth 100000 in
theorem spec_l08With.calls (A0_0 : Option Addr) (c0_0 : Nat) (l0_0 : List (S108)) (A0_1 : Option Addr) (c0_1 : Nat) (l0_1 : List (S92)) (A0_2 : Option Addr) (c0_2 : Nat) (l0_2 : List (S43)) (A1 : Option Addr) (c1 : Nat) (l1 : List (S43)) (r1 : List (S108)) (r2 : List (S92)) (r3 : List (S43)) (w : World) (hr0_0 : Kd.C k108 w A0_0 l0_0.length l0_0) (hc0_0 : l0_0.length ≤ c0_0) (hr0_1 : Kd.C k92 w A0_1 l0_1.length l0_1) (hc0_1 : l0_1.length ≤ c0_1) (hr0_2 : Kd.C k43 w A0_2 l0_2.length l0_2) (hc0_2 : l0_2.length ≤ c0_2) (hr1 : Kd.C k43 w A1 l1.length l1) (hc1 : l1.length ≤ c1) (h : spec_l08With.f l0_0 l0_1 l0_2 l1 = some (r1, r2, r3)) :
  Calls Try.prog 69 #[.agg #[.slice A0_0 l0_0.length c0_0, .slice A0_1 l0_1.length c0_1, .slice A0_2 l0_2.length c0_2], .slice A1 l1.length c1] w fun e w' => ∃ v0_ v1_ v2_ : Value, e = .returned (.agg #[v0_, v1_, v2_]) ∧ Kd.R k108 108 w' w.heap.size (fun _ => True) v0_ r1 ∧ Kd.R k92 92 w' w.heap.size (fun _ => True) v1_ r2 ∧ Kd.R k43 43 w' w.heap.size (fun _ => True) v2_ r3 ∧ Below w.heap.size w w' := by
 have hu32 := Try.underlying32; have HR0_0 := Aside0.mk hr0_0; have HC0_0 := Aside0.mk hc0_0; clear hr0_0 hc0_0; have HR0_1 := Aside0.mk hr0_1; have HC0_1 := Aside0.mk hc0_1; clear hr0_1 hc0_1; have HR0_2 := Aside0.mk hr0_2; have HC0_2 := Aside0.mk hc0_2; clear hr0_2 hc0_2; have HR1 := Aside0.mk hr1; have HC1 := Aside0.mk hc1; clear hr1 hc1; have HB := Aside0.mk (Below.refl w.heap.size w); have H : ((some (([] : List (S108)) : List (S108))).bind fun y154 => (if y154.length + l0_0.length < 8796093022208 then ((some (([] : List (S92)) : List (S92))).bind fun y160 => (if y160.length + l0_1.length < 1759218604441 then ((some (([] : List (S43)) : List (S43))).bind fun y166 => (if y166.length + l1.length < 3518437208883 then (some ((y154 ++ l0_0), (y160 ++ l0_1), (y166 ++ l1))) else (none))) else (none))) else (none))) = some (r1, r2, r3) := h; clear h; obtain ⟨y154, hy154⟩ : ∃ y_ : List (S108), y_ = (([] : List (S108))) := ⟨_, rfl⟩
 replace H : (if y154.length + l0_0.length < 8796093022208 then ((some (([] : List (S92)) : List (S92))).bind fun y160 => (if y160.length + l0_1.length < 1759218604441 then ((some (([] : List (S43)) : List (S43))).bind fun y166 => (if y166.length + l1.length < 3518437208883 then (some ((y154 ++ l0_0), (y160 ++ l0_1), (y166 ++ l1))) else (none))) else (none))) else (none)) = some (r1, r2, r3) := by (try rw [hy154]); first | with_reducible exact H | with_reducible exact (Option.bind_some _ _).symm.trans H | exact H
 have Ny154 := Aside0.mk hy154; clear hy154
 by_cases c3 : y154.length + l0_0.length < 8796093022208
 ·rw [if_pos c3] at H
  have LMc3 := Aside0.mk c3; clear c3; obtain ⟨y157, hy157⟩ : ∃ y_ : List (S108), y_ = (y154 ++ l0_0) := ⟨_, rfl⟩
  replace H : ((some (([] : List (S92)) : List (S92))).bind fun y160 => (if y160.length + l0_1.length < 1759218604441 then ((some (([] : List (S43)) : List (S43))).bind fun y166 => (if y166.length + l1.length < 3518437208883 then (some (y157, (y160 ++ l0_1), (y166 ++ l1))) else (none))) else (none))) = some (r1, r2, r3) := by (try rw [hy157]); first | with_reducible exact H | with_reducible exact (Option.bind_some _ _).symm.trans H | exact H
  have Ny157 := Aside0.mk hy157; clear hy157; obtain ⟨y160, hy160⟩ : ∃ y_ : List (S92), y_ = (([] : List (S92))) := ⟨_, rfl⟩
  replace H : (if y160.length + l0_1.length < 1759218604441 then ((some (([] : List (S43)) : List (S43))).bind fun y166 => (if y166.length + l1.length < 3518437208883 then (some (y157, (y160 ++ l0_1), (y166 ++ l1))) else (none))) else (none)) = some (r1, r2, r3) := by (try rw [hy160]); first | with_reducible exact H | with_reducible exact (Option.bind_some _ _).symm.trans H | exact H
  have Ny160 := Aside0.mk hy160; clear hy160
  by_cases c4 : y160.length + l0_1.length < 1759218604441
  ·rw [if_pos c4] at H
   have LMc4 := Aside0.mk c4; clear c4; obtain ⟨y163, hy163⟩ : ∃ y_ : List (S92), y_ = (y160 ++ l0_1) := ⟨_, rfl⟩
   replace H : ((some (([] : List (S43)) : List (S43))).bind fun y166 => (if y166.length + l1.length < 3518437208883 then (some (y157, y163, (y166 ++ l1))) else (none))) = some (r1, r2, r3) := by (try rw [hy163]); first | with_reducible exact H | with_reducible exact (Option.bind_some _ _).symm.trans H | exact H
   have Ny163 := Aside0.mk hy163; clear hy163; obtain ⟨y166, hy166⟩ : ∃ y_ : List (S43), y_ = (([] : List (S43))) := ⟨_, rfl⟩
   replace H : (if y166.length + l1.length < 3518437208883 then (some (y157, y163, (y166 ++ l1))) else (none)) = some (r1, r2, r3) := by (try rw [hy166]); first | with_reducible exact H | with_reducible exact (Option.bind_some _ _).symm.trans H | exact H
   have Ny166 := Aside0.mk hy166; clear hy166
   by_cases c5 : y166.length + l1.length < 3518437208883
   ·rw [if_pos c5] at H
    have LMc5 := Aside0.mk c5; clear c5; obtain ⟨y169, hy169⟩ : ∃ y_ : List (S43), y_ = (y166 ++ l1) := ⟨_, rfl⟩
    replace H : (some (y157, y163, y169)) = some (r1, r2, r3) := by (try rw [hy169]); first | with_reducible exact H | with_reducible exact (Option.bind_some _ _).symm.trans H | exact H
    have Ny169 := Aside0.mk hy169; clear hy169; simp only [Option.some.injEq, Prod.mk.injEq] at H; obtain ⟨rfl, rfl, rfl⟩ := H
    go_enter Try.func69, Try.ntmps69
    try go_wp2_with (first | ((with_reducible refine gate_dst (N := 2) rfl ?_); refine boxZ 2 #[.slice A0_0 l0_0.length c0_0, .slice A0_1 l0_1.length c0_1, .slice A0_2 l0_2.length c0_2] 32 ?_; intro gb152 hg w6 hbox hb; have n0_ := Aside0.mk (below_step Zc hb); have n1_ := Aside0.mk (hbox); have n2_ := Aside0.mk ((Zd : w.heap.size ≤ gb152)); have n3_ := Aside0.mk ((Zd : w.heap.size ≤ gb152)); clear HB; have HB := n0_; have BK152 := n1_; have GW152 := n2_; have GE152 := n3_; clear n0_ n1_ n2_ n3_; clear hb hbox hg) | ((with_reducible refine gate_dst (N := 4) rfl ?_); refine boxZ 4 #[.slice none 0 0, .slice none 0 0, .slice none 0 0] 32 ?_; intro gb153 hg w7 hbox hb; have n0_ := (have z0_ := BK152; bkZ hb); have n1_ := Aside0.mk (below_step (have z0_ := GE152; Ze) hb); have n2_ := Aside0.mk (hbox); have n3_ := Aside0.mk (((have z0_ := GE152; Zf) : w.heap.size ≤ gb153)); have n4_ := Aside0.mk (((have z0_ := GE152; Zf) : w.heap.size ≤ gb153)); have n5_ := Aside0.mk ((by rw [hg]; exact Nat.ne_of_lt (blk_lt (g := gb152) (o := .cells #[.slice A0_0 l0_0.length c0_0, .slice A0_1 l0_1.length c0_1, .slice A0_2 l0_2.length c0_2] 32 (0, 0)) (have z0_ := BK152; Zg)) : gb152 ≠ gb153)); have n6_ := Aside0.mk ((by rw [hg]; exact Nat.ne_of_gt (blk_lt (g := gb152) (o := .cells #[.slice A0_0 l0_0.length c0_0, .slice A0_1 l0_1.length c0_1, .slice A0_2 l0_2.length c0_2] 32 (0, 0)) (have z0_ := BK152; Zg)) : gb153 ≠ gb152)); clear BK152; clear HB; have BK152 := n0_; have HB := n1_; have BK153 := n2_; have GW153 := n3_; have GE153 := n4_; have NB152_153 := n5_; have NB153_152 := n6_; clear n0_ n1_ n2_ n3_ n4_ n5_ n6_; clear hb hbox hg))
    replace BK152 := Aside0.mk (blk_drew BK152.out); replace BK153 := Aside0.mk (blk_drew BK153.out); replace HB := Aside0.mk (below_drew1 HB.out); refine start_ (n := 13) (S := fun w' => w'.cell? ⟨gb152, 0, none⟩ = some (.slice A0_0 l0_0.length c0_0) ∧ w'.cell? ⟨gb152, 1, none⟩ = some (.slice A0_1 l0_1.length c0_1) ∧ w'.cell? ⟨gb152, 2, none⟩ = some (.slice A0_2 l0_2.length c0_2)) (ds := []) (bT 13 0) Zj rfl rfl ⟨(blk_cell BK152.out 0).trans rfl, (blk_cell BK152.out 1).trans rfl, (blk_cell BK152.out 2).trans rfl⟩ (fun hHeld => ?_); refine with_tabW spec_l08With.tab1 spec_l08With.bits1 (fun HT_ HW_ => ?_); generalize w7.drew = w8 at BK152 BK153 HB hHeld ⊢; refine pureZ HT_ 1 (some 6) #[false, true, false, false, false, false, false, false, false, false, false, false, false] ?_; refine pureZ HT_ 5 (some 10) #[false, true, false, false, false, true, false, false, false, false, false, false, false] ?_; refine pureZ HT_ 9 (some 14) #[false, true, false, false, false, true, false, false, false, true, false, false, false] ?_; refine takeZ3 HT_ HW_ 2 (some 7) #[false, true, true, false, false, true, false, false, false, true, false, false, false] hHeld ?_; refine takeZ3 HT_ HW_ 6 (some 11) #[false, true, true, false, false, true, true, false, false, true, false, false, false] hHeld ?_; refine join_ (σ := Value × Value × Value × Value × Value) 3 (bT 13 10) (fun s_ => [(5, s_.1), (8, s_.2.1), (9, s_.2.2.1), (12, s_.2.2.2.1), (13, s_.2.2.2.2)]) (fun s_ w' => (w'.cell? ⟨gb152, 0, none⟩ = some (.slice A0_0 l0_0.length c0_0) ∧ w'.cell? ⟨gb152, 1, none⟩ = some (.slice A0_1 l0_1.length c0_1) ∧ w'.cell? ⟨gb152, 2, none⟩ = some (.slice A0_2 l0_2.length c0_2)) ∧ (Kd.R k108 108 w' w.heap.size (fun _ => True) s_.2.1 y157) ∧ (Kd.R k92 92 w' w.heap.size (fun _ => True) s_.2.2.2.1 y163) ∧ (Kd.R k43 43 w' w.heap.size (fun _ => True) s_.2.2.2.2 y166) ∧ (w'.heap[gb152]? = some (.cells #[.slice A0_0 l0_0.length c0_0, .slice A0_1 l0_1.length c0_1, .slice A0_2 l0_2.length c0_2] 32 (0, 0))) ∧ (w'.heap[gb153]? = some (.cells #[.slice none 0 0, .slice none 0 0, .slice none 0 0] 32 (0, 0))) ∧ (Below w.heap.size w w')) ?_ ?_; rotate_left
    ·intro hJ0_3_4_7_8
     refine join_ (σ := Value × Value × Value × Value) 4 #[true, true, true, true, true, true, true, true, false, true, false, false, false] (fun s_ => [(5, s_.1), (8, s_.2.1), (9, s_.2.2.1), (12, s_.2.2.2)]) (fun s_ w' => (w'.cell? ⟨gb152, 0, none⟩ = some (.slice A0_0 l0_0.length c0_0) ∧ w'.cell? ⟨gb152, 1, none⟩ = some (.slice A0_1 l0_1.length c0_1) ∧ w'.cell? ⟨gb152, 2, none⟩ = some (.slice A0_2 l0_2.length c0_2)) ∧ (Kd.R k108 108 w' w.heap.size (fun _ => True) s_.2.1 y157) ∧ (Kd.R k92 92 w' w.heap.size (fun _ => True) s_.2.2.2 y163) ∧ (w'.heap[gb152]? = some (.cells #[.slice A0_0 l0_0.length c0_0, .slice A0_1 l0_1.length c0_1, .slice A0_2 l0_2.length c0_2] 32 (0, 0))) ∧ (w'.heap[gb153]? = some (.cells #[.slice none 0 0, .slice none 0 0, .slice none 0 0] 32 (0, 0))) ∧ (Below w.heap.size w w')) ?_ ?_; rotate_left
     ·intro hJ0_3_4_7
      refine join_ (σ := Value × Value × Value × Value) 4 #[true, true, true, true, true, true, true, false, true, true, false, false, false] (fun s_ => [(5, s_.1), (8, s_.2.1), (9, s_.2.2.1), (13, s_.2.2.2)]) (fun s_ w' => (w'.cell? ⟨gb152, 0, none⟩ = some (.slice A0_0 l0_0.length c0_0) ∧ w'.cell? ⟨gb152, 1, none⟩ = some (.slice A0_1 l0_1.length c0_1) ∧ w'.cell? ⟨gb152, 2, none⟩ = some (.slice A0_2 l0_2.length c0_2)) ∧ (Kd.R k108 108 w' w.heap.size (fun _ => True) s_.2.1 y157) ∧ (Kd.R k92 92 w' w.heap.size (fun _ => True) s_.2.2.1 y160) ∧ (Kd.R k43 43 w' w.heap.size (fun _ => True) s_.2.2.2 y166) ∧ (w'.heap[gb152]? = some (.cells #[.slice A0_0 l0_0.length c0_0, .slice A0_1 l0_1.length c0_1, .slice A0_2 l0_2.length c0_2] 32 (0, 0))) ∧ (w'.heap[gb153]? = some (.cells #[.slice none 0 0, .slice none 0 0, .slice none 0 0] 32 (0, 0))) ∧ (Below w.heap.size w w')) ?_ ?_; rotate_left
      ·intro hJ0_3_4_8
       refine join_ (σ := Value × Value × Value) 5 #[true, true, true, true, true, true, true, false, false, true, false, false, false] (fun s_ => [(5, s_.1), (8, s_.2.1), (9, s_.2.2)]) (fun s_ w' => (w'.cell? ⟨gb152, 0, none⟩ = some (.slice A0_0 l0_0.length c0_0) ∧ w'.cell? ⟨gb152, 1, none⟩ = some (.slice A0_1 l0_1.length c0_1) ∧ w'.cell? ⟨gb152, 2, none⟩ = some (.slice A0_2 l0_2.length c0_2)) ∧ (Kd.R k108 108 w' w.heap.size (fun _ => True) s_.2.1 y157) ∧ (Kd.R k92 92 w' w.heap.size (fun _ => True) s_.2.2 y160) ∧ (w'.heap[gb152]? = some (.cells #[.slice A0_0 l0_0.length c0_0, .slice A0_1 l0_1.length c0_1, .slice A0_2 l0_2.length c0_2] 32 (0, 0))) ∧ (w'.heap[gb153]? = some (.cells #[.slice none 0 0, .slice none 0 0, .slice none 0 0] 32 (0, 0))) ∧ (Below w.heap.size w w')) ?_ ?_; rotate_left
       ·intro hJ0_3_4
        refine join_ (σ := Value × Value × Value) 5 #[true, true, true, true, false, true, true, false, true, true, false, false, false] (fun s_ => [(5, s_.1), (8, s_.2.1), (13, s_.2.2)]) (fun s_ w' => (w'.cell? ⟨gb152, 0, none⟩ = some (.slice A0_0 l0_0.length c0_0) ∧ w'.cell? ⟨gb152, 1, none⟩ = some (.slice A0_1 l0_1.length c0_1) ∧ w'.cell? ⟨gb152, 2, none⟩ = some (.slice A0_2 l0_2.length c0_2)) ∧ (Kd.R k108 108 w' w.heap.size (fun _ => True) s_.2.1 y157) ∧ (Kd.R k43 43 w' w.heap.size (fun _ => True) s_.2.2 y166) ∧ (w'.heap[gb152]? = some (.cells #[.slice A0_0 l0_0.length c0_0, .slice A0_1 l0_1.length c0_1, .slice A0_2 l0_2.length c0_2] 32 (0, 0))) ∧ (w'.heap[gb153]? = some (.cells #[.slice none 0 0, .slice none 0 0, .slice none 0 0] 32 (0, 0))) ∧ (Below w.heap.size w w')) ?_ ?_; rotate_left
        ·intro hJ0_3_8
         refine join_ (σ := Value × Value × Value) 5 #[true, true, true, false, true, true, true, false, true, true, false, false, false] (fun s_ => [(5, s_.1), (9, s_.2.1), (13, s_.2.2)]) (fun s_ w' => (w'.cell? ⟨gb152, 0, none⟩ = some (.slice A0_0 l0_0.length c0_0) ∧ w'.cell? ⟨gb152, 1, none⟩ = some (.slice A0_1 l0_1.length c0_1) ∧ w'.cell? ⟨gb152, 2, none⟩ = some (.slice A0_2 l0_2.length c0_2)) ∧ (Kd.R k108 108 w' w.heap.size (fun _ => True) s_.1 y154) ∧ (Kd.R k92 92 w' w.heap.size (fun _ => True) s_.2.1 y160) ∧ (Kd.R k43 43 w' w.heap.size (fun _ => True) s_.2.2 y166) ∧ (w'.heap[gb152]? = some (.cells #[.slice A0_0 l0_0.length c0_0, .slice A0_1 l0_1.length c0_1, .slice A0_2 l0_2.length c0_2] 32 (0, 0))) ∧ (w'.heap[gb153]? = some (.cells #[.slice none 0 0, .slice none 0 0, .slice none 0 0] 32 (0, 0))) ∧ (Below w.heap.size w w')) ?_ ?_; rotate_left
         ·intro hJ0_4_8
          refine join_ (σ := Value × Value) 6 #[true, true, true, true, false, true, true, false, false, true, false, false, false] (fun s_ => [(5, s_.1), (8, s_.2)]) (fun s_ w' => (w'.cell? ⟨gb152, 0, none⟩ = some (.slice A0_0 l0_0.length c0_0) ∧ w'.cell? ⟨gb152, 1, none⟩ = some (.slice A0_1 l0_1.length c0_1) ∧ w'.cell? ⟨gb152, 2, none⟩ = some (.slice A0_2 l0_2.length c0_2)) ∧ (Kd.R k108 108 w' w.heap.size (fun _ => True) s_.2 y157) ∧ (w'.heap[gb152]? = some (.cells #[.slice A0_0 l0_0.length c0_0, .slice A0_1 l0_1.length c0_1, .slice A0_2 l0_2.length c0_2] 32 (0, 0))) ∧ (w'.heap[gb153]? = some (.cells #[.slice none 0 0, .slice none 0 0, .slice none 0 0] 32 (0, 0))) ∧ (Below w.heap.size w w')) ?_ ?_; rotate_left
          ·intro hJ0_3
           refine join_ (σ := Value × Value) 6 #[true, true, true, false, true, true, true, false, false, true, false, false, false] (fun s_ => [(5, s_.1), (9, s_.2)]) (fun s_ w' => (w'.cell? ⟨gb152, 0, none⟩ = some (.slice A0_0 l0_0.length c0_0) ∧ w'.cell? ⟨gb152, 1, none⟩ = some (.slice A0_1 l0_1.length c0_1) ∧ w'.cell? ⟨gb152, 2, none⟩ = some (.slice A0_2 l0_2.length c0_2)) ∧ (Kd.R k108 108 w' w.heap.size (fun _ => True) s_.1 y154) ∧ (Kd.R k92 92 w' w.heap.size (fun _ => True) s_.2 y160) ∧ (w'.heap[gb152]? = some (.cells #[.slice A0_0 l0_0.length c0_0, .slice A0_1 l0_1.length c0_1, .slice A0_2 l0_2.length c0_2] 32 (0, 0))) ∧ (w'.heap[gb153]? = some (.cells #[.slice none 0 0, .slice none 0 0, .slice none 0 0] 32 (0, 0))) ∧ (Below w.heap.size w w')) ?_ ?_; rotate_left
           ·intro hJ0_4
            refine join_ (σ := Value × Value) 6 #[true, true, true, false, false, true, true, false, true, true, false, false, false] (fun s_ => [(5, s_.1), (13, s_.2)]) (fun s_ w' => (w'.cell? ⟨gb152, 0, none⟩ = some (.slice A0_0 l0_0.length c0_0) ∧ w'.cell? ⟨gb152, 1, none⟩ = some (.slice A0_1 l0_1.length c0_1) ∧ w'.cell? ⟨gb152, 2, none⟩ = some (.slice A0_2 l0_2.length c0_2)) ∧ (Kd.R k108 108 w' w.heap.size (fun _ => True) s_.1 y154) ∧ (Kd.R k43 43 w' w.heap.size (fun _ => True) s_.2 y166) ∧ (w'.heap[gb152]? = some (.cells #[.slice A0_0 l0_0.length c0_0, .slice A0_1 l0_1.length c0_1, .slice A0_2 l0_2.length c0_2] 32 (0, 0))) ∧ (w'.heap[gb153]? = some (.cells #[.slice none 0 0, .slice none 0 0, .slice none 0 0] 32 (0, 0))) ∧ (Below w.heap.size w w')) ?_ ?_; rotate_left
            ·intro hJ0_8
             refine join_ (σ := Value × Value) 6 #[false, true, true, false, true, true, true, false, true, true, false, false, false] (fun s_ => [(9, s_.1), (13, s_.2)]) (fun s_ w' => (w'.cell? ⟨gb152, 0, none⟩ = some (.slice A0_0 l0_0.length c0_0) ∧ w'.cell? ⟨gb152, 1, none⟩ = some (.slice A0_1 l0_1.length c0_1) ∧ w'.cell? ⟨gb152, 2, none⟩ = some (.slice A0_2 l0_2.length c0_2)) ∧ (Kd.R k92 92 w' w.heap.size (fun _ => True) s_.1 y160) ∧ (Kd.R k43 43 w' w.heap.size (fun _ => True) s_.2 y166) ∧ (w'.heap[gb152]? = some (.cells #[.slice A0_0 l0_0.length c0_0, .slice A0_1 l0_1.length c0_1, .slice A0_2 l0_2.length c0_2] 32 (0, 0))) ∧ (w'.heap[gb153]? = some (.cells #[.slice none 0 0, .slice none 0 0, .slice none 0 0] 32 (0, 0))) ∧ (Below w.heap.size w w')) ?_ ?_; rotate_left
             ·intro hJ4_8
              refine join_ (σ := Value) 7 #[true, true, true, false, false, true, true, false, false, true, false, false, false] (fun s_ => [(5, s_)]) (fun s_ w' => (w'.cell? ⟨gb152, 0, none⟩ = some (.slice A0_0 l0_0.length c0_0) ∧ w'.cell? ⟨gb152, 1, none⟩ = some (.slice A0_1 l0_1.length c0_1) ∧ w'.cell? ⟨gb152, 2, none⟩ = some (.slice A0_2 l0_2.length c0_2)) ∧ (Kd.R k108 108 w' w.heap.size (fun _ => True) s_ y154) ∧ (w'.heap[gb152]? = some (.cells #[.slice A0_0 l0_0.length c0_0, .slice A0_1 l0_1.length c0_1, .slice A0_2 l0_2.length c0_2] 32 (0, 0))) ∧ (w'.heap[gb153]? = some (.cells #[.slice none 0 0, .slice none 0 0, .slice none 0 0] 32 (0, 0))) ∧ (Below w.heap.size w w')) ?_ ?_; rotate_left
              ·intro hJ0
               refine join_ (σ := Value) 7 #[false, true, true, false, true, true, true, false, false, true, false, false, false] (fun s_ => [(9, s_)]) (fun s_ w' => (w'.cell? ⟨gb152, 0, none⟩ = some (.slice A0_0 l0_0.length c0_0) ∧ w'.cell? ⟨gb152, 1, none⟩ = some (.slice A0_1 l0_1.length c0_1) ∧ w'.cell? ⟨gb152, 2, none⟩ = some (.slice A0_2 l0_2.length c0_2)) ∧ (Kd.R k92 92 w' w.heap.size (fun _ => True) s_ y160) ∧ (w'.heap[gb152]? = some (.cells #[.slice A0_0 l0_0.length c0_0, .slice A0_1 l0_1.length c0_1, .slice A0_2 l0_2.length c0_2] 32 (0, 0))) ∧ (w'.heap[gb153]? = some (.cells #[.slice none 0 0, .slice none 0 0, .slice none 0 0] 32 (0, 0))) ∧ (Below w.heap.size w w')) ?_ ?_; rotate_left
               ·intro hJ4
                refine join_ (σ := Value) 7 #[false, true, true, false, false, true, true, false, true, true, false, false, false] (fun s_ => [(13, s_)]) (fun s_ w' => (w'.cell? ⟨gb152, 0, none⟩ = some (.slice A0_0 l0_0.length c0_0) ∧ w'.cell? ⟨gb152, 1, none⟩ = some (.slice A0_1 l0_1.length c0_1) ∧ w'.cell? ⟨gb152, 2, none⟩ = some (.slice A0_2 l0_2.length c0_2)) ∧ (Kd.R k43 43 w' w.heap.size (fun _ => True) s_ y166) ∧ (w'.heap[gb152]? = some (.cells #[.slice A0_0 l0_0.length c0_0, .slice A0_1 l0_1.length c0_1, .slice A0_2 l0_2.length c0_2] 32 (0, 0))) ∧ (w'.heap[gb153]? = some (.cells #[.slice none 0 0, .slice none 0 0, .slice none 0 0] 32 (0, 0))) ∧ (Below w.heap.size w w')) ?_ ?_; rotate_left
                ·intro hJ8
                 refine three_ (i := 0) (j := 4) (k := 8) (Ni := some 5) (Nj := some 9) (Nk := some 13) #[true, true, true, false, false, true, true, false, false, true, false, false, false] #[false, true, true, false, true, true, true, false, false, true, false, false, false] #[false, true, true, false, false, true, true, false, true, true, false, false, false] rfl rfl rfl rfl rfl rfl (three_of HT_.out Zj) (by decide) (by decide) (by decide) (fun K hK => ?_) (fun K hK => ?_) (fun K hK => ?_)
                 ·skip
                  refine Kd.R_lit_step k108 _ 108 ?hg (N := 5) ?hd (xs := ([] : List (S108))) (inner := []) (ok := fun _ => True) (okp := fun _ => True) ?hr ?hp (fun _ hk => hk) trivial (Below.refl _ _) (Nat.le_refl _) (by simp) ?_; (case hd => rfl); (case hg => rfl); (case hr => first | (go_simp; done) | (go_simp; rfl)); (case hp => exact (Reps.none _ _)); intro v155 w9 ho10 hb hg_ hnew_; clear hg_ hnew_
                  (first | rw [← Ny154.out] at ho10 | (simp only [Int.reduceToNat] at ho10; rw [← Ny154.out] at ho10))
                  replace HO156 := Aside0.mk (Kd.R_lower ho10 (below_size (have z0_ := GE152; have z1_ := GE153; Zh))); replace BK152 := (have z0_ := BK152; bkZ hb); replace BK153 := (have z0_ := BK153; bkZ hb); replace HB := Aside0.mk (below_step (have z0_ := GE152; have z1_ := GE153; Zh) hb); clear hb ho10; refine hK.out _ _ (have z0_ := BK152; Zav) (fun hHeld => ?_); clear hK K; refine normZ 5 ?_; exact norm_ Zaw (hJ0 (v155) _ ⟨hHeld, (have z0_ := HO156; Zq), (have z0_ := BK152; Zg), (have z0_ := BK153; Zg), (have z0_ := GE152; have z1_ := GE153; Zh)⟩)
                 ·skip
                  refine Kd.R_lit_step k92 _ 92 ?hg (N := 9) ?hd (xs := ([] : List (S92))) (inner := []) (ok := fun _ => True) (okp := fun _ => True) ?hr ?hp (fun _ hk => hk) trivial (Below.refl _ _) (Nat.le_refl _) (by simp) ?_; (case hd => rfl); (case hg => rfl); (case hr => first | (go_simp; done) | (go_simp; rfl)); (case hp => exact (Reps.none _ _)); intro v161 w9 ho10 hb hg_ hnew_; clear hg_ hnew_
                  (first | rw [← Ny160.out] at ho10 | (simp only [Int.reduceToNat] at ho10; rw [← Ny160.out] at ho10))
                  replace HO162 := Aside0.mk (Kd.R_lower ho10 (below_size (have z0_ := GE152; have z1_ := GE153; Zh))); replace BK152 := (have z0_ := BK152; bkZ hb); replace BK153 := (have z0_ := BK153; bkZ hb); replace HB := Aside0.mk (below_step (have z0_ := GE152; have z1_ := GE153; Zh) hb); clear hb ho10; refine hK.out _ _ (have z0_ := BK152; Zav) (fun hHeld => ?_); clear hK K; refine normZ 9 ?_; exact norm_ Zaw (hJ4 (v161) _ ⟨hHeld, (have z0_ := HO162; Zq), (have z0_ := BK152; Zg), (have z0_ := BK153; Zg), (have z0_ := GE152; have z1_ := GE153; Zh)⟩)
                 ·skip
                  refine Kd.R_lit_step k43 _ 43 ?hg (N := 13) ?hd (xs := ([] : List (S43))) (inner := []) (ok := fun _ => True) (okp := fun _ => True) ?hr ?hp (fun _ hk => hk) trivial (Below.refl _ _) (Nat.le_refl _) (by simp) ?_; (case hd => rfl); (case hg => rfl); (case hr => first | (go_simp; done) | (go_simp; rfl)); (case hp => exact (Reps.none _ _)); intro v167 w9 ho10 hb hg_ hnew_; clear hg_ hnew_
                  (first | rw [← Ny166.out] at ho10 | (simp only [Int.reduceToNat] at ho10; rw [← Ny166.out] at ho10))
                  replace HO168 := Aside0.mk (Kd.R_lower ho10 (below_size (have z0_ := GE152; have z1_ := GE153; Zh))); replace BK152 := (have z0_ := BK152; bkZ hb); replace BK153 := (have z0_ := BK153; bkZ hb); replace HB := Aside0.mk (below_step (have z0_ := GE152; have z1_ := GE153; Zh) hb); clear hb ho10; refine hK.out _ _ (have z0_ := BK152; Zav) (fun hHeld => ?_); clear hK K; refine normZ 13 ?_; exact norm_ Zaw (hJ8 (v167) _ ⟨hHeld, (have z0_ := HO168; Zq), (have z0_ := BK152; Zg), (have z0_ := BK153; Zg), (have z0_ := GE152; have z1_ := GE153; Zh)⟩)
                ·skip
                 rintro v167 w11 ⟨hS_, h0_, h1_, h2_, h3_⟩
                 (try dsimp only at hS_ h0_ h1_ h2_ h3_)
                 replace HO168 := Aside0.mk h0_; replace BK152 := Aside0.mk h1_; replace BK153 := Aside0.mk h2_; replace HB := Aside0.mk h3_; clear h0_ h1_ h2_ h3_; have hHeld := hS_; refine normP ?_; refine two_ (i := 0) (j := 4) (Ni := some 5) (Nj := some 9) #[true, true, true, false, false, true, true, false, true, true, false, false, false] #[false, true, true, false, true, true, true, false, true, true, false, false, false] rfl rfl rfl rfl (two_of HT_.out Zj) (by decide) (by decide) (fun K hK => ?_) (fun K hK => ?_)
                 ·skip
                  refine Kd.R_lit_step k108 _ 108 ?hg (N := 5) ?hd (xs := ([] : List (S108))) (inner := []) (ok := fun _ => True) (okp := fun _ => True) ?hr ?hp (fun _ hk => hk) trivial (Below.refl _ _) (Nat.le_refl _) (by simp) ?_; (case hd => rfl); (case hg => rfl); (case hr => first | (go_simp; done) | (go_simp; rfl)); (case hp => exact (Reps.none _ _)); intro v155 w12 ho13 hb hg_ hnew_; clear hg_ hnew_
                  (first | rw [← Ny154.out] at ho13 | (simp only [Int.reduceToNat] at ho13; rw [← Ny154.out] at ho13))
                  replace HO168 := Aside0.mk (Kd.R_below (have z0_ := HO168; Zq) hb); replace HO156 := Aside0.mk (Kd.R_lower ho13 (below_size (have z0_ := GE152; have z1_ := GE153; Zh))); replace BK152 := (have z0_ := BK152; bkZ hb); replace BK153 := (have z0_ := BK153; bkZ hb); replace HB := Aside0.mk (below_step (have z0_ := GE152; have z1_ := GE153; Zh) hb); clear hb ho13; refine hK.out _ _ (have z0_ := BK152; Zav) (fun hHeld => ?_); clear hK K; refine normZ 5 ?_; exact norm_ Zaw (hJ0_8 (v155, v167) _ ⟨hHeld, (have z0_ := HO156; Zq), (have z0_ := HO168; Zq), (have z0_ := BK152; Zg), (have z0_ := BK153; Zg), (have z0_ := GE152; have z1_ := GE153; Zh)⟩)
                 ·skip
                  refine Kd.R_lit_step k92 _ 92 ?hg (N := 9) ?hd (xs := ([] : List (S92))) (inner := []) (ok := fun _ => True) (okp := fun _ => True) ?hr ?hp (fun _ hk => hk) trivial (Below.refl _ _) (Nat.le_refl _) (by simp) ?_; (case hd => rfl); (case hg => rfl); (case hr => first | (go_simp; done) | (go_simp; rfl)); (case hp => exact (Reps.none _ _)); intro v161 w12 ho13 hb hg_ hnew_; clear hg_ hnew_
                  (first | rw [← Ny160.out] at ho13 | (simp only [Int.reduceToNat] at ho13; rw [← Ny160.out] at ho13))
                  replace HO168 := Aside0.mk (Kd.R_below (have z0_ := HO168; Zq) hb); replace HO162 := Aside0.mk (Kd.R_lower ho13 (below_size (have z0_ := GE152; have z1_ := GE153; Zh))); replace BK152 := (have z0_ := BK152; bkZ hb); replace BK153 := (have z0_ := BK153; bkZ hb); replace HB := Aside0.mk (below_step (have z0_ := GE152; have z1_ := GE153; Zh) hb); clear hb ho13; refine hK.out _ _ (have z0_ := BK152; Zav) (fun hHeld => ?_); clear hK K; refine normZ 9 ?_; exact norm_ Zaw (hJ4_8 (v161, v167) _ ⟨hHeld, (have z0_ := HO162; Zq), (have z0_ := HO168; Zq), (have z0_ := BK152; Zg), (have z0_ := BK153; Zg), (have z0_ := GE152; have z1_ := GE153; Zh)⟩)
               ·skip
                rintro v161 w11 ⟨hS_, h0_, h1_, h2_, h3_⟩
                (try dsimp only at hS_ h0_ h1_ h2_ h3_)
                replace HO162 := Aside0.mk h0_; replace BK152 := Aside0.mk h1_; replace BK153 := Aside0.mk h2_; replace HB := Aside0.mk h3_; clear h0_ h1_ h2_ h3_; have hHeld := hS_; refine normP ?_; refine two_ (i := 0) (j := 8) (Ni := some 5) (Nj := some 13) #[true, true, true, false, true, true, true, false, false, true, false, false, false] #[false, true, true, false, true, true, true, false, true, true, false, false, false] rfl rfl rfl rfl (two_of HT_.out Zj) (by decide) (by decide) (fun K hK => ?_) (fun K hK => ?_)
                ·skip
                 refine Kd.R_lit_step k108 _ 108 ?hg (N := 5) ?hd (xs := ([] : List (S108))) (inner := []) (ok := fun _ => True) (okp := fun _ => True) ?hr ?hp (fun _ hk => hk) trivial (Below.refl _ _) (Nat.le_refl _) (by simp) ?_; (case hd => rfl); (case hg => rfl); (case hr => first | (go_simp; done) | (go_simp; rfl)); (case hp => exact (Reps.none _ _)); intro v155 w12 ho13 hb hg_ hnew_; clear hg_ hnew_
                 (first | rw [← Ny154.out] at ho13 | (simp only [Int.reduceToNat] at ho13; rw [← Ny154.out] at ho13))
                 replace HO162 := Aside0.mk (Kd.R_below (have z0_ := HO162; Zq) hb); replace HO156 := Aside0.mk (Kd.R_lower ho13 (below_size (have z0_ := GE152; have z1_ := GE153; Zh))); replace BK152 := (have z0_ := BK152; bkZ hb); replace BK153 := (have z0_ := BK153; bkZ hb); replace HB := Aside0.mk (below_step (have z0_ := GE152; have z1_ := GE153; Zh) hb); clear hb ho13; refine hK.out _ _ (have z0_ := BK152; Zav) (fun hHeld => ?_); clear hK K; refine normZ 5 ?_; exact norm_ Zaw (hJ0_4 (v155, v161) _ ⟨hHeld, (have z0_ := HO156; Zq), (have z0_ := HO162; Zq), (have z0_ := BK152; Zg), (have z0_ := BK153; Zg), (have z0_ := GE152; have z1_ := GE153; Zh)⟩)
                ·skip
                 refine Kd.R_lit_step k43 _ 43 ?hg (N := 13) ?hd (xs := ([] : List (S43))) (inner := []) (ok := fun _ => True) (okp := fun _ => True) ?hr ?hp (fun _ hk => hk) trivial (Below.refl _ _) (Nat.le_refl _) (by simp) ?_; (case hd => rfl); (case hg => rfl); (case hr => first | (go_simp; done) | (go_simp; rfl)); (case hp => exact (Reps.none _ _)); intro v167 w12 ho13 hb hg_ hnew_; clear hg_ hnew_
                 (first | rw [← Ny166.out] at ho13 | (simp only [Int.reduceToNat] at ho13; rw [← Ny166.out] at ho13))
                 replace HO162 := Aside0.mk (Kd.R_below (have z0_ := HO162; Zq) hb); replace HO168 := Aside0.mk (Kd.R_lower ho13 (below_size (have z0_ := GE152; have z1_ := GE153; Zh))); replace BK152 := (have z0_ := BK152; bkZ hb); replace BK153 := (have z0_ := BK153; bkZ hb); replace HB := Aside0.mk (below_step (have z0_ := GE152; have z1_ := GE153; Zh) hb); clear hb ho13; refine hK.out _ _ (have z0_ := BK152; Zav) (fun hHeld => ?_); clear hK K; refine normZ 13 ?_; exact norm_ Zaw (hJ4_8 (v161, v167) _ ⟨hHeld, (have z0_ := HO162; Zq), (have z0_ := HO168; Zq), (have z0_ := BK152; Zg), (have z0_ := BK153; Zg), (have z0_ := GE152; have z1_ := GE153; Zh)⟩)
              ·skip
               rintro v155 w11 ⟨hS_, h0_, h1_, h2_, h3_⟩
               (try dsimp only at hS_ h0_ h1_ h2_ h3_)
               replace HO156 := Aside0.mk h0_; replace BK152 := Aside0.mk h1_; replace BK153 := Aside0.mk h2_; replace HB := Aside0.mk h3_; clear h0_ h1_ h2_ h3_; have hHeld := hS_; refine normP ?_; refine three_ (i := 3) (j := 4) (k := 8) (Ni := some 8) (Nj := some 9) (Nk := some 13) #[true, true, true, true, false, true, true, false, false, true, false, false, false] #[true, true, true, false, true, true, true, false, false, true, false, false, false] #[true, true, true, false, false, true, true, false, true, true, false, false, false] rfl rfl rfl rfl rfl rfl (three_of HT_.out Zj) (by decide) (by decide) (by decide) (fun K hK => ?_) (fun K hK => ?_) (fun K hK => ?_)
               ·skip
                refine Kd.R_append_rows_step k108 (w0 := w) w.heap.size (by rfl) (.tmp 5) (.tmp 7) 28 108 (.agg #[(.int .i64 0), (.int .i64 0)]) 16 rfl Try.underlying28 info108 rfl (by decide) (by omega) v155 y154 l0_0 _ _ _ (fun _ => True) (fun _ => False) rfl rfl ?aO ?aR (fun _ _ h => h) (fun _ h => h.elim) ?aF ?aB ?aS ?aL ?_
                (case aR => repeat (first | exact (Kd.C_below HR0_0.out HB.out) | (with_reducible refine Kd.C_alloc ?_ _) | (with_reducible refine Kd.C_drewN ?_ _) | (with_reducible refine Kd.C_drew ?_)))
                (case aB => exact (have z0_ := GE152; have z1_ := GE153; Zh))
                (case aF => exact (fun _ _ => trivial))
                (case aO => exact (have z0_ := HO156; Zq))
                (case aS => exact (below_size (have z0_ := GE152; have z1_ := GE153; Zh)))
                (case aL => have := LMc3.out; omega)
                intro v158 w12 ho hb hg hat; rw [← Ny157.out] at ho; replace BK152 := Aside0.mk (blk_grown (g := gb152) (o := .cells #[.slice A0_0 l0_0.length c0_0, .slice A0_1 l0_1.length c0_1, .slice A0_2 l0_2.length c0_2] 32 (0, 0)) (have z0_ := BK152; Zg) hg (Kd.R_ne HO156.out BK152.out (by decide))); replace BK153 := Aside0.mk (blk_grown (g := gb153) (o := .cells #[.slice none 0 0, .slice none 0 0, .slice none 0 0] 32 (0, 0)) (have z0_ := BK153; Zg) hg (Kd.R_ne HO156.out BK153.out (by decide))); replace HB := Aside0.mk (hb); replace HO159 := Aside0.mk (ho); clear HO156; clear ho hb hg hat; refine hK.out _ _ (have z0_ := BK152; Zav) (fun hHeld => ?_); clear hK K; refine normZ 8 ?_; exact norm_ Zaw (hJ0_3 (v155, v158) _ ⟨hHeld, (have z0_ := HO159; Zq), (have z0_ := BK152; Zg), (have z0_ := BK153; Zg), (have z0_ := GE152; have z1_ := GE153; Zh)⟩)
               ·skip
                refine Kd.R_lit_step k92 _ 92 ?hg (N := 9) ?hd (xs := ([] : List (S92))) (inner := []) (ok := fun _ => True) (okp := fun _ => True) ?hr ?hp (fun _ hk => hk) trivial (Below.refl _ _) (Nat.le_refl _) (by simp) ?_; (case hd => rfl); (case hg => rfl); (case hr => first | (go_simp; done) | (go_simp; rfl)); (case hp => exact (Reps.none _ _)); intro v161 w12 ho13 hb hg_ hnew_; clear hg_ hnew_
                (first | rw [← Ny160.out] at ho13 | (simp only [Int.reduceToNat] at ho13; rw [← Ny160.out] at ho13))
                replace HO156 := Aside0.mk (Kd.R_below (have z0_ := HO156; Zq) hb); replace HO162 := Aside0.mk (Kd.R_lower ho13 (below_size (have z0_ := GE152; have z1_ := GE153; Zh))); replace BK152 := (have z0_ := BK152; bkZ hb); replace BK153 := (have z0_ := BK153; bkZ hb); replace HB := Aside0.mk (below_step (have z0_ := GE152; have z1_ := GE153; Zh) hb); clear hb ho13; refine hK.out _ _ (have z0_ := BK152; Zav) (fun hHeld => ?_); clear hK K; refine normZ 9 ?_; exact norm_ Zaw (hJ0_4 (v155, v161) _ ⟨hHeld, (have z0_ := HO156; Zq), (have z0_ := HO162; Zq), (have z0_ := BK152; Zg), (have z0_ := BK153; Zg), (have z0_ := GE152; have z1_ := GE153; Zh)⟩)
               ·skip
                refine Kd.R_lit_step k43 _ 43 ?hg (N := 13) ?hd (xs := ([] : List (S43))) (inner := []) (ok := fun _ => True) (okp := fun _ => True) ?hr ?hp (fun _ hk => hk) trivial (Below.refl _ _) (Nat.le_refl _) (by simp) ?_; (case hd => rfl); (case hg => rfl); (case hr => first | (go_simp; done) | (go_simp; rfl)); (case hp => exact (Reps.none _ _)); intro v167 w12 ho13 hb hg_ hnew_; clear hg_ hnew_
                (first | rw [← Ny166.out] at ho13 | (simp only [Int.reduceToNat] at ho13; rw [← Ny166.out] at ho13))
                replace HO156 := Aside0.mk (Kd.R_below (have z0_ := HO156; Zq) hb); replace HO168 := Aside0.mk (Kd.R_lower ho13 (below_size (have z0_ := GE152; have z1_ := GE153; Zh))); replace BK152 := (have z0_ := BK152; bkZ hb); replace BK153 := (have z0_ := BK153; bkZ hb); replace HB := Aside0.mk (below_step (have z0_ := GE152; have z1_ := GE153; Zh) hb); clear hb ho13; refine hK.out _ _ (have z0_ := BK152; Zav) (fun hHeld => ?_); clear hK K; refine normZ 13 ?_; exact norm_ Zaw (hJ0_8 (v155, v167) _ ⟨hHeld, (have z0_ := HO156; Zq), (have z0_ := HO168; Zq), (have z0_ := BK152; Zg), (have z0_ := BK153; Zg), (have z0_ := GE152; have z1_ := GE153; Zh)⟩)
             ·skip
              rintro ⟨v161, v167⟩ w13 ⟨hS_, h0_, h1_, h2_, h3_, h4_⟩
              (try dsimp only at hS_ h0_ h1_ h2_ h3_ h4_)
              replace HO162 := Aside0.mk h0_; replace HO168 := Aside0.mk h1_; replace BK152 := Aside0.mk h2_; replace BK153 := Aside0.mk h3_; replace HB := Aside0.mk h4_; clear h0_ h1_ h2_ h3_ h4_; have hHeld := hS_; refine normP ?_; refine one_ (i := 0) (N := some 5) #[true, true, true, false, true, true, true, false, true, true, false, false, false] rfl rfl (one_of HT_.out Zj) (by decide) (fun K hK => ?_); refine Kd.R_lit_step k108 _ 108 ?hg (N := 5) ?hd (xs := ([] : List (S108))) (inner := []) (ok := fun _ => True) (okp := fun _ => True) ?hr ?hp (fun _ hk => hk) trivial (Below.refl _ _) (Nat.le_refl _) (by simp) ?_; (case hd => rfl); (case hg => rfl); (case hr => first | (go_simp; done) | (go_simp; rfl)); (case hp => exact (Reps.none _ _)); intro v155 w14 ho15 hb hg_ hnew_; clear hg_ hnew_
              (first | rw [← Ny154.out] at ho15 | (simp only [Int.reduceToNat] at ho15; rw [← Ny154.out] at ho15))
              replace HO162 := Aside0.mk (Kd.R_below (have z0_ := HO162; Zq) hb); replace HO168 := Aside0.mk (Kd.R_below (have z0_ := HO168; Zq) hb); replace HO156 := Aside0.mk (Kd.R_lower ho15 (below_size (have z0_ := GE152; have z1_ := GE153; Zh))); replace BK152 := (have z0_ := BK152; bkZ hb); replace BK153 := (have z0_ := BK153; bkZ hb); replace HB := Aside0.mk (below_step (have z0_ := GE152; have z1_ := GE153; Zh) hb); clear hb ho15; refine hK.out _ _ (have z0_ := BK152; Zav) (fun hHeld => ?_); clear hK K; refine normZ 5 ?_; exact norm_ Zaw (hJ0_4_8 (v155, v161, v167) _ ⟨hHeld, (have z0_ := HO156; Zq), (have z0_ := HO162; Zq), (have z0_ := HO168; Zq), (have z0_ := BK152; Zg), (have z0_ := BK153; Zg), (have z0_ := GE152; have z1_ := GE153; Zh)⟩)
            ·skip
             rintro ⟨v155, v167⟩ w13 ⟨hS_, h0_, h1_, h2_, h3_, h4_⟩
             (try dsimp only at hS_ h0_ h1_ h2_ h3_ h4_)
             replace HO156 := Aside0.mk h0_; replace HO168 := Aside0.mk h1_; replace BK152 := Aside0.mk h2_; replace BK153 := Aside0.mk h3_; replace HB := Aside0.mk h4_; clear h0_ h1_ h2_ h3_ h4_; have hHeld := hS_; refine normP ?_; refine two_ (i := 3) (j := 4) (Ni := some 8) (Nj := some 9) #[true, true, true, true, false, true, true, false, true, true, false, false, false] #[true, true, true, false, true, true, true, false, true, true, false, false, false] rfl rfl rfl rfl (two_of HT_.out Zj) (by decide) (by decide) (fun K hK => ?_) (fun K hK => ?_)
             ·skip
              refine Kd.R_append_rows_step k108 (w0 := w) w.heap.size (by rfl) (.tmp 5) (.tmp 7) 28 108 (.agg #[(.int .i64 0), (.int .i64 0)]) 16 rfl Try.underlying28 info108 rfl (by decide) (by omega) v155 y154 l0_0 _ _ _ (fun _ => True) (fun _ => False) rfl rfl ?aO ?aR (fun _ _ h => h) (fun _ h => h.elim) ?aF ?aB ?aS ?aL ?_
              (case aR => repeat (first | exact (Kd.C_below HR0_0.out HB.out) | (with_reducible refine Kd.C_alloc ?_ _) | (with_reducible refine Kd.C_drewN ?_ _) | (with_reducible refine Kd.C_drew ?_)))
              (case aB => exact (have z0_ := GE152; have z1_ := GE153; Zh))
              (case aF => exact (fun _ _ => trivial))
              (case aO => exact (have z0_ := HO156; Zq))
              (case aS => exact (below_size (have z0_ := GE152; have z1_ := GE153; Zh)))
              (case aL => have := LMc3.out; omega)
              intro v158 w14 ho hb hg hat; rw [← Ny157.out] at ho; replace BK152 := Aside0.mk (blk_grown (g := gb152) (o := .cells #[.slice A0_0 l0_0.length c0_0, .slice A0_1 l0_1.length c0_1, .slice A0_2 l0_2.length c0_2] 32 (0, 0)) (have z0_ := BK152; Zg) hg (Kd.R_ne HO156.out BK152.out (by decide))); replace BK153 := Aside0.mk (blk_grown (g := gb153) (o := .cells #[.slice none 0 0, .slice none 0 0, .slice none 0 0] 32 (0, 0)) (have z0_ := BK153; Zg) hg (Kd.R_ne HO156.out BK153.out (by decide))); replace HO168 := Aside0.mk (Kd.R_over' (have z0_ := HO168; Zq) (Kd.R_typed (have z0_ := HO156; Zq)) (by decide) hg); replace HB := Aside0.mk (hb); replace HO159 := Aside0.mk (ho); clear HO156; clear ho hb hg hat; refine hK.out _ _ (have z0_ := BK152; Zav) (fun hHeld => ?_); clear hK K; refine normZ 8 ?_; exact norm_ Zaw (hJ0_3_8 (v155, v158, v167) _ ⟨hHeld, (have z0_ := HO159; Zq), (have z0_ := HO168; Zq), (have z0_ := BK152; Zg), (have z0_ := BK153; Zg), (have z0_ := GE152; have z1_ := GE153; Zh)⟩)
             ·skip
              refine Kd.R_lit_step k92 _ 92 ?hg (N := 9) ?hd (xs := ([] : List (S92))) (inner := []) (ok := fun _ => True) (okp := fun _ => True) ?hr ?hp (fun _ hk => hk) trivial (Below.refl _ _) (Nat.le_refl _) (by simp) ?_; (case hd => rfl); (case hg => rfl); (case hr => first | (go_simp; done) | (go_simp; rfl)); (case hp => exact (Reps.none _ _)); intro v161 w14 ho15 hb hg_ hnew_; clear hg_ hnew_
              (first | rw [← Ny160.out] at ho15 | (simp only [Int.reduceToNat] at ho15; rw [← Ny160.out] at ho15))
              replace HO156 := Aside0.mk (Kd.R_below (have z0_ := HO156; Zq) hb); replace HO168 := Aside0.mk (Kd.R_below (have z0_ := HO168; Zq) hb); replace HO162 := Aside0.mk (Kd.R_lower ho15 (below_size (have z0_ := GE152; have z1_ := GE153; Zh))); replace BK152 := (have z0_ := BK152; bkZ hb); replace BK153 := (have z0_ := BK153; bkZ hb); replace HB := Aside0.mk (below_step (have z0_ := GE152; have z1_ := GE153; Zh) hb); clear hb ho15; refine hK.out _ _ (have z0_ := BK152; Zav) (fun hHeld => ?_); clear hK K; refine normZ 9 ?_; exact norm_ Zaw (hJ0_4_8 (v155, v161, v167) _ ⟨hHeld, (have z0_ := HO156; Zq), (have z0_ := HO162; Zq), (have z0_ := HO168; Zq), (have z0_ := BK152; Zg), (have z0_ := BK153; Zg), (have z0_ := GE152; have z1_ := GE153; Zh)⟩)
           ·skip
            rintro ⟨v155, v161⟩ w13 ⟨hS_, h0_, h1_, h2_, h3_, h4_⟩
            (try dsimp only at hS_ h0_ h1_ h2_ h3_ h4_)
            replace HO156 := Aside0.mk h0_; replace HO162 := Aside0.mk h1_; replace BK152 := Aside0.mk h2_; replace BK153 := Aside0.mk h3_; replace HB := Aside0.mk h4_; clear h0_ h1_ h2_ h3_ h4_; have hHeld := hS_; refine normP ?_; refine two_ (i := 3) (j := 8) (Ni := some 8) (Nj := some 13) #[true, true, true, true, true, true, true, false, false, true, false, false, false] #[true, true, true, false, true, true, true, false, true, true, false, false, false] rfl rfl rfl rfl (two_of HT_.out Zj) (by decide) (by decide) (fun K hK => ?_) (fun K hK => ?_)
            ·skip
             refine Kd.R_append_rows_step k108 (w0 := w) w.heap.size (by rfl) (.tmp 5) (.tmp 7) 28 108 (.agg #[(.int .i64 0), (.int .i64 0)]) 16 rfl Try.underlying28 info108 rfl (by decide) (by omega) v155 y154 l0_0 _ _ _ (fun _ => True) (fun _ => False) rfl rfl ?aO ?aR (fun _ _ h => h) (fun _ h => h.elim) ?aF ?aB ?aS ?aL ?_
             (case aR => repeat (first | exact (Kd.C_below HR0_0.out HB.out) | (with_reducible refine Kd.C_alloc ?_ _) | (with_reducible refine Kd.C_drewN ?_ _) | (with_reducible refine Kd.C_drew ?_)))
             (case aB => exact (have z0_ := GE152; have z1_ := GE153; Zh))
             (case aF => exact (fun _ _ => trivial))
             (case aO => exact (have z0_ := HO156; Zq))
             (case aS => exact (below_size (have z0_ := GE152; have z1_ := GE153; Zh)))
             (case aL => have := LMc3.out; omega)
             intro v158 w14 ho hb hg hat; rw [← Ny157.out] at ho; replace BK152 := Aside0.mk (blk_grown (g := gb152) (o := .cells #[.slice A0_0 l0_0.length c0_0, .slice A0_1 l0_1.length c0_1, .slice A0_2 l0_2.length c0_2] 32 (0, 0)) (have z0_ := BK152; Zg) hg (Kd.R_ne HO156.out BK152.out (by decide))); replace BK153 := Aside0.mk (blk_grown (g := gb153) (o := .cells #[.slice none 0 0, .slice none 0 0, .slice none 0 0] 32 (0, 0)) (have z0_ := BK153; Zg) hg (Kd.R_ne HO156.out BK153.out (by decide))); replace HO162 := Aside0.mk (Kd.R_over' (have z0_ := HO162; Zq) (Kd.R_typed (have z0_ := HO156; Zq)) (by decide) hg); replace HB := Aside0.mk (hb); replace HO159 := Aside0.mk (ho); clear HO156; clear ho hb hg hat; refine hK.out _ _ (have z0_ := BK152; Zav) (fun hHeld => ?_); clear hK K; refine normZ 8 ?_; exact norm_ Zaw (hJ0_3_4 (v155, v158, v161) _ ⟨hHeld, (have z0_ := HO159; Zq), (have z0_ := HO162; Zq), (have z0_ := BK152; Zg), (have z0_ := BK153; Zg), (have z0_ := GE152; have z1_ := GE153; Zh)⟩)
            ·skip
             refine Kd.R_lit_step k43 _ 43 ?hg (N := 13) ?hd (xs := ([] : List (S43))) (inner := []) (ok := fun _ => True) (okp := fun _ => True) ?hr ?hp (fun _ hk => hk) trivial (Below.refl _ _) (Nat.le_refl _) (by simp) ?_; (case hd => rfl); (case hg => rfl); (case hr => first | (go_simp; done) | (go_simp; rfl)); (case hp => exact (Reps.none _ _)); intro v167 w14 ho15 hb hg_ hnew_; clear hg_ hnew_
             (first | rw [← Ny166.out] at ho15 | (simp only [Int.reduceToNat] at ho15; rw [← Ny166.out] at ho15))
             replace HO156 := Aside0.mk (Kd.R_below (have z0_ := HO156; Zq) hb); replace HO162 := Aside0.mk (Kd.R_below (have z0_ := HO162; Zq) hb); replace HO168 := Aside0.mk (Kd.R_lower ho15 (below_size (have z0_ := GE152; have z1_ := GE153; Zh))); replace BK152 := (have z0_ := BK152; bkZ hb); replace BK153 := (have z0_ := BK153; bkZ hb); replace HB := Aside0.mk (below_step (have z0_ := GE152; have z1_ := GE153; Zh) hb); clear hb ho15; refine hK.out _ _ (have z0_ := BK152; Zav) (fun hHeld => ?_); clear hK K; refine normZ 13 ?_; exact norm_ Zaw (hJ0_4_8 (v155, v161, v167) _ ⟨hHeld, (have z0_ := HO156; Zq), (have z0_ := HO162; Zq), (have z0_ := HO168; Zq), (have z0_ := BK152; Zg), (have z0_ := BK153; Zg), (have z0_ := GE152; have z1_ := GE153; Zh)⟩)
          ·skip
           rintro ⟨v155, v158⟩ w12 ⟨hS_, h0_, h1_, h2_, h3_⟩
           (try dsimp only at hS_ h0_ h1_ h2_ h3_)
           replace HO159 := Aside0.mk h0_; replace BK152 := Aside0.mk h1_; replace BK153 := Aside0.mk h2_; replace HB := Aside0.mk h3_; clear h0_ h1_ h2_ h3_; have hHeld := hS_; refine normP ?_; refine two_ (i := 4) (j := 8) (Ni := some 9) (Nj := some 13) #[true, true, true, true, true, true, true, false, false, true, false, false, false] #[true, true, true, true, false, true, true, false, true, true, false, false, false] rfl rfl rfl rfl (two_of HT_.out Zj) (by decide) (by decide) (fun K hK => ?_) (fun K hK => ?_)
           ·skip
            refine Kd.R_lit_step k92 _ 92 ?hg (N := 9) ?hd (xs := ([] : List (S92))) (inner := []) (ok := fun _ => True) (okp := fun _ => True) ?hr ?hp (fun _ hk => hk) trivial (Below.refl _ _) (Nat.le_refl _) (by simp) ?_; (case hd => rfl); (case hg => rfl); (case hr => first | (go_simp; done) | (go_simp; rfl)); (case hp => exact (Reps.none _ _)); intro v161 w13 ho14 hb hg_ hnew_; clear hg_ hnew_
            (first | rw [← Ny160.out] at ho14 | (simp only [Int.reduceToNat] at ho14; rw [← Ny160.out] at ho14))
            replace HO159 := Aside0.mk (Kd.R_below (have z0_ := HO159; Zq) hb); replace HO162 := Aside0.mk (Kd.R_lower ho14 (below_size (have z0_ := GE152; have z1_ := GE153; Zh))); replace BK152 := (have z0_ := BK152; bkZ hb); replace BK153 := (have z0_ := BK153; bkZ hb); replace HB := Aside0.mk (below_step (have z0_ := GE152; have z1_ := GE153; Zh) hb); clear hb ho14; refine hK.out _ _ (have z0_ := BK152; Zav) (fun hHeld => ?_); clear hK K; refine normZ 9 ?_; exact norm_ Zaw (hJ0_3_4 (v155, v158, v161) _ ⟨hHeld, (have z0_ := HO159; Zq), (have z0_ := HO162; Zq), (have z0_ := BK152; Zg), (have z0_ := BK153; Zg), (have z0_ := GE152; have z1_ := GE153; Zh)⟩)
           ·skip
            refine Kd.R_lit_step k43 _ 43 ?hg (N := 13) ?hd (xs := ([] : List (S43))) (inner := []) (ok := fun _ => True) (okp := fun _ => True) ?hr ?hp (fun _ hk => hk) trivial (Below.refl _ _) (Nat.le_refl _) (by simp) ?_; (case hd => rfl); (case hg => rfl); (case hr => first | (go_simp; done) | (go_simp; rfl)); (case hp => exact (Reps.none _ _)); intro v167 w13 ho14 hb hg_ hnew_; clear hg_ hnew_
            (first | rw [← Ny166.out] at ho14 | (simp only [Int.reduceToNat] at ho14; rw [← Ny166.out] at ho14))
            replace HO159 := Aside0.mk (Kd.R_below (have z0_ := HO159; Zq) hb); replace HO168 := Aside0.mk (Kd.R_lower ho14 (below_size (have z0_ := GE152; have z1_ := GE153; Zh))); replace BK152 := (have z0_ := BK152; bkZ hb); replace BK153 := (have z0_ := BK153; bkZ hb); replace HB := Aside0.mk (below_step (have z0_ := GE152; have z1_ := GE153; Zh) hb); clear hb ho14; refine hK.out _ _ (have z0_ := BK152; Zav) (fun hHeld => ?_); clear hK K; refine normZ 13 ?_; exact norm_ Zaw (hJ0_3_8 (v155, v158, v167) _ ⟨hHeld, (have z0_ := HO159; Zq), (have z0_ := HO168; Zq), (have z0_ := BK152; Zg), (have z0_ := BK153; Zg), (have z0_ := GE152; have z1_ := GE153; Zh)⟩)
         ·skip
          rintro ⟨v155, v161, v167⟩ w15 ⟨hS_, h0_, h1_, h2_, h3_, h4_, h5_⟩
          (try dsimp only at hS_ h0_ h1_ h2_ h3_ h4_ h5_)
          replace HO156 := Aside0.mk h0_; replace HO162 := Aside0.mk h1_; replace HO168 := Aside0.mk h2_; replace BK152 := Aside0.mk h3_; replace BK153 := Aside0.mk h4_; replace HB := Aside0.mk h5_; clear h0_ h1_ h2_ h3_ h4_ h5_; have hHeld := hS_; refine normP ?_; refine one_ (i := 3) (N := some 8) #[true, true, true, true, true, true, true, false, true, true, false, false, false] rfl rfl (one_of HT_.out Zj) (by decide) (fun K hK => ?_); refine Kd.R_append_rows_step k108 (w0 := w) w.heap.size (by rfl) (.tmp 5) (.tmp 7) 28 108 (.agg #[(.int .i64 0), (.int .i64 0)]) 16 rfl Try.underlying28 info108 rfl (by decide) (by omega) v155 y154 l0_0 _ _ _ (fun _ => True) (fun _ => False) rfl rfl ?aO ?aR (fun _ _ h => h) (fun _ h => h.elim) ?aF ?aB ?aS ?aL ?_
          (case aR => repeat (first | exact (Kd.C_below HR0_0.out HB.out) | (with_reducible refine Kd.C_alloc ?_ _) | (with_reducible refine Kd.C_drewN ?_ _) | (with_reducible refine Kd.C_drew ?_)))
          (case aB => exact (have z0_ := GE152; have z1_ := GE153; Zh))
          (case aF => exact (fun _ _ => trivial))
          (case aO => exact (have z0_ := HO156; Zq))
          (case aS => exact (below_size (have z0_ := GE152; have z1_ := GE153; Zh)))
          (case aL => have := LMc3.out; omega)
          intro v158 w16 ho hb hg hat; rw [← Ny157.out] at ho; replace BK152 := Aside0.mk (blk_grown (g := gb152) (o := .cells #[.slice A0_0 l0_0.length c0_0, .slice A0_1 l0_1.length c0_1, .slice A0_2 l0_2.length c0_2] 32 (0, 0)) (have z0_ := BK152; Zg) hg (Kd.R_ne HO156.out BK152.out (by decide))); replace BK153 := Aside0.mk (blk_grown (g := gb153) (o := .cells #[.slice none 0 0, .slice none 0 0, .slice none 0 0] 32 (0, 0)) (have z0_ := BK153; Zg) hg (Kd.R_ne HO156.out BK153.out (by decide))); replace HO162 := Aside0.mk (Kd.R_over' (have z0_ := HO162; Zq) (Kd.R_typed (have z0_ := HO156; Zq)) (by decide) hg); replace HO168 := Aside0.mk (Kd.R_over' (have z0_ := HO168; Zq) (Kd.R_typed (have z0_ := HO156; Zq)) (by decide) hg); replace HB := Aside0.mk (hb); replace HO159 := Aside0.mk (ho); clear HO156; clear ho hb hg hat; refine hK.out _ _ (have z0_ := BK152; Zav) (fun hHeld => ?_); clear hK K; refine normZ 8 ?_; exact norm_ Zaw (hJ0_3_4_8 (v155, v158, v161, v167) _ ⟨hHeld, (have z0_ := HO159; Zq), (have z0_ := HO162; Zq), (have z0_ := HO168; Zq), (have z0_ := BK152; Zg), (have z0_ := BK153; Zg), (have z0_ := GE152; have z1_ := GE153; Zh)⟩)
        ·skip
         rintro ⟨v155, v158, v167⟩ w14 ⟨hS_, h0_, h1_, h2_, h3_, h4_⟩
         (try dsimp only at hS_ h0_ h1_ h2_ h3_ h4_)
         replace HO159 := Aside0.mk h0_; replace HO168 := Aside0.mk h1_; replace BK152 := Aside0.mk h2_; replace BK153 := Aside0.mk h3_; replace HB := Aside0.mk h4_; clear h0_ h1_ h2_ h3_ h4_; have hHeld := hS_; refine normP ?_; refine one_ (i := 4) (N := some 9) #[true, true, true, true, true, true, true, false, true, true, false, false, false] rfl rfl (one_of HT_.out Zj) (by decide) (fun K hK => ?_); refine Kd.R_lit_step k92 _ 92 ?hg (N := 9) ?hd (xs := ([] : List (S92))) (inner := []) (ok := fun _ => True) (okp := fun _ => True) ?hr ?hp (fun _ hk => hk) trivial (Below.refl _ _) (Nat.le_refl _) (by simp) ?_; (case hd => rfl); (case hg => rfl); (case hr => first | (go_simp; done) | (go_simp; rfl)); (case hp => exact (Reps.none _ _)); intro v161 w15 ho16 hb hg_ hnew_; clear hg_ hnew_
         (first | rw [← Ny160.out] at ho16 | (simp only [Int.reduceToNat] at ho16; rw [← Ny160.out] at ho16))
         replace HO159 := Aside0.mk (Kd.R_below (have z0_ := HO159; Zq) hb); replace HO168 := Aside0.mk (Kd.R_below (have z0_ := HO168; Zq) hb); replace HO162 := Aside0.mk (Kd.R_lower ho16 (below_size (have z0_ := GE152; have z1_ := GE153; Zh))); replace BK152 := (have z0_ := BK152; bkZ hb); replace BK153 := (have z0_ := BK153; bkZ hb); replace HB := Aside0.mk (below_step (have z0_ := GE152; have z1_ := GE153; Zh) hb); clear hb ho16; refine hK.out _ _ (have z0_ := BK152; Zav) (fun hHeld => ?_); clear hK K; refine normZ 9 ?_; exact norm_ Zaw (hJ0_3_4_8 (v155, v158, v161, v167) _ ⟨hHeld, (have z0_ := HO159; Zq), (have z0_ := HO162; Zq), (have z0_ := HO168; Zq), (have z0_ := BK152; Zg), (have z0_ := BK153; Zg), (have z0_ := GE152; have z1_ := GE153; Zh)⟩)
       ·skip
        rintro ⟨v155, v158, v161⟩ w14 ⟨hS_, h0_, h1_, h2_, h3_, h4_⟩
        (try dsimp only at hS_ h0_ h1_ h2_ h3_ h4_)
        replace HO159 := Aside0.mk h0_; replace HO162 := Aside0.mk h1_; replace BK152 := Aside0.mk h2_; replace BK153 := Aside0.mk h3_; replace HB := Aside0.mk h4_; clear h0_ h1_ h2_ h3_ h4_; have hHeld := hS_; refine normP ?_; refine two_ (i := 7) (j := 8) (Ni := some 12) (Nj := some 13) #[true, true, true, true, true, true, true, true, false, true, false, false, false] #[true, true, true, true, true, true, true, false, true, true, false, false, false] rfl rfl rfl rfl (two_of HT_.out Zj) (by decide) (by decide) (fun K hK => ?_) (fun K hK => ?_)
        ·skip
         refine Kd.R_append_rows_step k92 (w0 := w) w.heap.size (by rfl) (.tmp 9) (.tmp 11) 29 92 (.agg #[(.string ⟨#[]⟩), (.int .i64 0), (.int .i64 0), (.int .i64 0), (.int .i64 0), (.int .i64 0), (.int .i64 0), (.int .i64 0), (.int .i64 0)]) 80 rfl Try.underlying29 info92 rfl (by decide) (by omega) v161 y160 l0_1 _ _ _ (fun _ => True) (fun _ => False) rfl rfl ?aO ?aR (fun _ _ h => h) (fun _ h => h.elim) ?aF ?aB ?aS ?aL ?_
         (case aR => repeat (first | exact (Kd.C_below HR0_1.out HB.out) | (with_reducible refine Kd.C_alloc ?_ _) | (with_reducible refine Kd.C_drewN ?_ _) | (with_reducible refine Kd.C_drew ?_)))
         (case aB => exact (have z0_ := GE152; have z1_ := GE153; Zh))
         (case aF => exact (fun _ _ => trivial))
         (case aO => exact (have z0_ := HO162; Zq))
         (case aS => exact (below_size (have z0_ := GE152; have z1_ := GE153; Zh)))
         (case aL => have := LMc4.out; omega)
         intro v164 w15 ho hb hg hat; rw [← Ny163.out] at ho; replace BK152 := Aside0.mk (blk_grown (g := gb152) (o := .cells #[.slice A0_0 l0_0.length c0_0, .slice A0_1 l0_1.length c0_1, .slice A0_2 l0_2.length c0_2] 32 (0, 0)) (have z0_ := BK152; Zg) hg (Kd.R_ne HO162.out BK152.out (by decide))); replace BK153 := Aside0.mk (blk_grown (g := gb153) (o := .cells #[.slice none 0 0, .slice none 0 0, .slice none 0 0] 32 (0, 0)) (have z0_ := BK153; Zg) hg (Kd.R_ne HO162.out BK153.out (by decide))); replace HO159 := Aside0.mk (Kd.R_over' (have z0_ := HO159; Zq) (Kd.R_typed (have z0_ := HO162; Zq)) (by decide) hg); replace HB := Aside0.mk (hb); replace HO165 := Aside0.mk (ho); clear HO162; clear ho hb hg hat; refine hK.out _ _ (have z0_ := BK152; Zav) (fun hHeld => ?_); clear hK K; refine normZ 12 ?_; exact norm_ Zaw (hJ0_3_4_7 (v155, v158, v161, v164) _ ⟨hHeld, (have z0_ := HO159; Zq), (have z0_ := HO165; Zq), (have z0_ := BK152; Zg), (have z0_ := BK153; Zg), (have z0_ := GE152; have z1_ := GE153; Zh)⟩)
        ·skip
         refine Kd.R_lit_step k43 _ 43 ?hg (N := 13) ?hd (xs := ([] : List (S43))) (inner := []) (ok := fun _ => True) (okp := fun _ => True) ?hr ?hp (fun _ hk => hk) trivial (Below.refl _ _) (Nat.le_refl _) (by simp) ?_; (case hd => rfl); (case hg => rfl); (case hr => first | (go_simp; done) | (go_simp; rfl)); (case hp => exact (Reps.none _ _)); intro v167 w15 ho16 hb hg_ hnew_; clear hg_ hnew_
         (first | rw [← Ny166.out] at ho16 | (simp only [Int.reduceToNat] at ho16; rw [← Ny166.out] at ho16))
         replace HO159 := Aside0.mk (Kd.R_below (have z0_ := HO159; Zq) hb); replace HO162 := Aside0.mk (Kd.R_below (have z0_ := HO162; Zq) hb); replace HO168 := Aside0.mk (Kd.R_lower ho16 (below_size (have z0_ := GE152; have z1_ := GE153; Zh))); replace BK152 := (have z0_ := BK152; bkZ hb); replace BK153 := (have z0_ := BK153; bkZ hb); replace HB := Aside0.mk (below_step (have z0_ := GE152; have z1_ := GE153; Zh) hb); clear hb ho16; refine hK.out _ _ (have z0_ := BK152; Zav) (fun hHeld => ?_); clear hK K; refine normZ 13 ?_; exact norm_ Zaw (hJ0_3_4_8 (v155, v158, v161, v167) _ ⟨hHeld, (have z0_ := HO159; Zq), (have z0_ := HO162; Zq), (have z0_ := HO168; Zq), (have z0_ := BK152; Zg), (have z0_ := BK153; Zg), (have z0_ := GE152; have z1_ := GE153; Zh)⟩)
      ·skip
       rintro ⟨v155, v158, v161, v167⟩ w16 ⟨hS_, h0_, h1_, h2_, h3_, h4_, h5_⟩
       (try dsimp only at hS_ h0_ h1_ h2_ h3_ h4_ h5_)
       replace HO159 := Aside0.mk h0_; replace HO162 := Aside0.mk h1_; replace HO168 := Aside0.mk h2_; replace BK152 := Aside0.mk h3_; replace BK153 := Aside0.mk h4_; replace HB := Aside0.mk h5_; clear h0_ h1_ h2_ h3_ h4_ h5_; have hHeld := hS_; refine normP ?_; refine one_ (i := 7) (N := some 12) (bT 13 10) rfl rfl (one_of HT_.out Zj) (by decide) (fun K hK => ?_); refine Kd.R_append_rows_step k92 (w0 := w) w.heap.size (by rfl) (.tmp 9) (.tmp 11) 29 92 (.agg #[(.string ⟨#[]⟩), (.int .i64 0), (.int .i64 0), (.int .i64 0), (.int .i64 0), (.int .i64 0), (.int .i64 0), (.int .i64 0), (.int .i64 0)]) 80 rfl Try.underlying29 info92 rfl (by decide) (by omega) v161 y160 l0_1 _ _ _ (fun _ => True) (fun _ => False) rfl rfl ?aO ?aR (fun _ _ h => h) (fun _ h => h.elim) ?aF ?aB ?aS ?aL ?_
       (case aR => repeat (first | exact (Kd.C_below HR0_1.out HB.out) | (with_reducible refine Kd.C_alloc ?_ _) | (with_reducible refine Kd.C_drewN ?_ _) | (with_reducible refine Kd.C_drew ?_)))
       (case aB => exact (have z0_ := GE152; have z1_ := GE153; Zh))
       (case aF => exact (fun _ _ => trivial))
       (case aO => exact (have z0_ := HO162; Zq))
       (case aS => exact (below_size (have z0_ := GE152; have z1_ := GE153; Zh)))
       (case aL => have := LMc4.out; omega)
       intro v164 w17 ho hb hg hat; rw [← Ny163.out] at ho; replace BK152 := Aside0.mk (blk_grown (g := gb152) (o := .cells #[.slice A0_0 l0_0.length c0_0, .slice A0_1 l0_1.length c0_1, .slice A0_2 l0_2.length c0_2] 32 (0, 0)) (have z0_ := BK152; Zg) hg (Kd.R_ne HO162.out BK152.out (by decide))); replace BK153 := Aside0.mk (blk_grown (g := gb153) (o := .cells #[.slice none 0 0, .slice none 0 0, .slice none 0 0] 32 (0, 0)) (have z0_ := BK153; Zg) hg (Kd.R_ne HO162.out BK153.out (by decide))); replace HO159 := Aside0.mk (Kd.R_over' (have z0_ := HO159; Zq) (Kd.R_typed (have z0_ := HO162; Zq)) (by decide) hg); replace HO168 := Aside0.mk (Kd.R_over' (have z0_ := HO168; Zq) (Kd.R_typed (have z0_ := HO162; Zq)) (by decide) hg); replace HB := Aside0.mk (hb); replace HO165 := Aside0.mk (ho); clear HO162; clear ho hb hg hat; refine hK.out _ _ (have z0_ := BK152; Zav) (fun hHeld => ?_); clear hK K; refine normZ 12 ?_; exact norm_ Zaw (hJ0_3_4_7_8 (v155, v158, v161, v164, v167) _ ⟨hHeld, (have z0_ := HO159; Zq), (have z0_ := HO165; Zq), (have z0_ := HO168; Zq), (have z0_ := BK152; Zg), (have z0_ := BK153; Zg), (have z0_ := GE152; have z1_ := GE153; Zh)⟩)
     ·skip
      rintro ⟨v155, v158, v161, v164⟩ w15 ⟨hS_, h0_, h1_, h2_, h3_, h4_⟩
      (try dsimp only at hS_ h0_ h1_ h2_ h3_ h4_)
      replace HO159 := Aside0.mk h0_; replace HO165 := Aside0.mk h1_; replace BK152 := Aside0.mk h2_; replace BK153 := Aside0.mk h3_; replace HB := Aside0.mk h4_; clear h0_ h1_ h2_ h3_ h4_; have hHeld := hS_; refine normP ?_; refine one_ (i := 8) (N := some 13) (bT 13 10) rfl rfl (one_of HT_.out Zj) (by decide) (fun K hK => ?_); refine Kd.R_lit_step k43 _ 43 ?hg (N := 13) ?hd (xs := ([] : List (S43))) (inner := []) (ok := fun _ => True) (okp := fun _ => True) ?hr ?hp (fun _ hk => hk) trivial (Below.refl _ _) (Nat.le_refl _) (by simp) ?_; (case hd => rfl); (case hg => rfl); (case hr => first | (go_simp; done) | (go_simp; rfl)); (case hp => exact (Reps.none _ _)); intro v167 w16 ho17 hb hg_ hnew_; clear hg_ hnew_
      (first | rw [← Ny166.out] at ho17 | (simp only [Int.reduceToNat] at ho17; rw [← Ny166.out] at ho17))
      replace HO159 := Aside0.mk (Kd.R_below (have z0_ := HO159; Zq) hb); replace HO165 := Aside0.mk (Kd.R_below (have z0_ := HO165; Zq) hb); replace HO168 := Aside0.mk (Kd.R_lower ho17 (below_size (have z0_ := GE152; have z1_ := GE153; Zh))); replace BK152 := (have z0_ := BK152; bkZ hb); replace BK153 := (have z0_ := BK153; bkZ hb); replace HB := Aside0.mk (below_step (have z0_ := GE152; have z1_ := GE153; Zh) hb); clear hb ho17; refine hK.out _ _ (have z0_ := BK152; Zav) (fun hHeld => ?_); clear hK K; refine normZ 13 ?_; exact norm_ Zaw (hJ0_3_4_7_8 (v155, v158, v161, v164, v167) _ ⟨hHeld, (have z0_ := HO159; Zq), (have z0_ := HO165; Zq), (have z0_ := HO168; Zq), (have z0_ := BK152; Zg), (have z0_ := BK153; Zg), (have z0_ := GE152; have z1_ := GE153; Zh)⟩)
    rintro ⟨v155, v158, v161, v164, v167⟩ w17 ⟨hS_, h0_, h1_, h2_, h3_, h4_, h5_⟩
    (try dsimp only at hS_ h0_ h1_ h2_ h3_ h4_ h5_)
    replace HO159 := Aside0.mk h0_; replace HO165 := Aside0.mk h1_; replace HO168 := Aside0.mk h2_; replace BK152 := Aside0.mk h3_; replace BK153 := Aside0.mk h4_; replace HB := Aside0.mk h5_; clear h0_ h1_ h2_ h3_ h4_ h5_; have hHeld := hS_; refine normP ?_; refine one_ (i := 10) (N := some 15) (bT 13 11) rfl rfl (one_of HT_.out Zj) (by decide) (fun K hK => ?_); refine Kd.R_append_rows_step k43 (w0 := w) w.heap.size (by rfl) (.tmp 13) (.tmp 14) 30 43 (.agg #[(.int .i64 0), (.int .i64 0), (.string ⟨#[]⟩), (.int .i64 0)]) 40 rfl Try.underlying30 info43 rfl (by decide) (by omega) v167 y166 l1 _ _ _ (fun _ => True) (fun _ => False) rfl rfl ?aO ?aR (fun _ _ h => h) (fun _ h => h.elim) ?aF ?aB ?aS ?aL ?_
    (case aR => repeat (first | exact (Kd.C_below HR1.out HB.out) | (with_reducible refine Kd.C_alloc ?_ _) | (with_reducible refine Kd.C_drewN ?_ _) | (with_reducible refine Kd.C_drew ?_)))
    (case aB => exact (have z0_ := GE152; have z1_ := GE153; Zh))
    (case aF => exact (fun _ _ => trivial))
    (case aO => exact (have z0_ := HO168; Zq))
    (case aS => exact (below_size (have z0_ := GE152; have z1_ := GE153; Zh)))
    (case aL => have := LMc5.out; omega)
    intro v170 w18 ho hb hg hat; rw [← Ny169.out] at ho; replace BK152 := Aside0.mk (blk_grown (g := gb152) (o := .cells #[.slice A0_0 l0_0.length c0_0, .slice A0_1 l0_1.length c0_1, .slice A0_2 l0_2.length c0_2] 32 (0, 0)) (have z0_ := BK152; Zg) hg (Kd.R_ne HO168.out BK152.out (by decide))); replace BK153 := Aside0.mk (blk_grown (g := gb153) (o := .cells #[.slice none 0 0, .slice none 0 0, .slice none 0 0] 32 (0, 0)) (have z0_ := BK153; Zg) hg (Kd.R_ne HO168.out BK153.out (by decide))); replace HO159 := Aside0.mk (Kd.R_over' (have z0_ := HO159; Zq) (Kd.R_typed (have z0_ := HO168; Zq)) (by decide) hg); replace HO165 := Aside0.mk (Kd.R_over' (have z0_ := HO165; Zq) (Kd.R_typed (have z0_ := HO168; Zq)) (by decide) hg); replace HB := Aside0.mk (hb); replace HO171 := Aside0.mk (ho); clear HO168; clear ho hb hg hat; obtain ⟨Ao19, co19, eo19⟩ := Kd.R_slice HO171.out
    (first | subst eo19 | (injection eo19 with f1_ f2_ f3_; have f4_ := f1_.symm; have f5_ := f3_.symm; clear f1_ f2_ f3_; subst f4_; subst f5_))
    obtain ⟨Ao20, co20, eo20⟩ := Kd.R_slice HO165.out
    (first | subst eo20 | (injection eo20 with f1_ f2_ f3_; have f4_ := f1_.symm; have f5_ := f3_.symm; clear f1_ f2_ f3_; subst f4_; subst f5_))
    obtain ⟨Ao21, co21, eo21⟩ := Kd.R_slice HO159.out
    (first | subst eo21 | (injection eo21 with f1_ f2_ f3_; have f4_ := f1_.symm; have f5_ := f3_.symm; clear f1_ f2_ f3_; subst f4_; subst f5_))
    refine hK.out _ _ (have z0_ := BK152; Zav) (fun hHeld => ?_); clear hK K; refine normZ 15 ?_; refine pureZ HT_ 11 (some 16) (bT 13 12) ?_; refine one_ (i := 12) (N := none) (bT 13 13) rfl rfl (one_of HT_.out Zj) (by decide) (fun K hK => ?_); have hs22 : w18.cell? ⟨gb153, 0, none⟩ = some (.slice none 0 0) := (blk_cell BK153.out 0).trans rfl; have hfs22 := blk_frozen BK153.out 0; have hns22_0 := NB152_153.out; have hms22_0 := NB153_152.out; have hs23 : w18.cell? ⟨gb153, 1, none⟩ = some (.slice none 0 0) := (blk_cell BK153.out 1).trans rfl; have hfs23 := blk_frozen BK153.out 1; have hns23_0 := NB152_153.out; have hms23_0 := NB153_152.out; have hs24 : w18.cell? ⟨gb153, 2, none⟩ = some (.slice none 0 0) := (blk_cell BK153.out 2).trans rfl; have hfs24 := blk_frozen BK153.out 2; have hns24_0 := NB152_153.out; have hms24_0 := NB153_152.out; refine skip_ (w1 := ?_) (by rfl) rfl ?_ ?_; rotate_left
    ·go_simp
     rfl
    refine hK.out _ _ ⟨((cell_far (p := ⟨gb153, _, none⟩) NB152_153.out _).trans (((cell_far (p := ⟨gb153, _, none⟩) NB152_153.out _).trans (((cell_far (p := ⟨gb153, _, none⟩) NB152_153.out _).trans (hHeld.1)))))), ((cell_far (p := ⟨gb153, _, none⟩) NB152_153.out _).trans (((cell_far (p := ⟨gb153, _, none⟩) NB152_153.out _).trans (((cell_far (p := ⟨gb153, _, none⟩) NB152_153.out _).trans (hHeld.2.1)))))), ((cell_far (p := ⟨gb153, _, none⟩) NB152_153.out _).trans (((cell_far (p := ⟨gb153, _, none⟩) NB152_153.out _).trans (((cell_far (p := ⟨gb153, _, none⟩) NB152_153.out _).trans (hHeld.2.2))))))⟩ (fun hHeld => ?_); clear hK K; refine done_ (done_of HT_.out Zj) ?_
    try go_wp2
    refine bodyPost_ret (results_cell_row rfl _ _ gb153 32 #[.slice Ao21 y157.length co21, .slice Ao20 y163.length co20, .slice Ao19 y169.length co19] (0, 0) _ rfl (by (with_reducible repeat (first | refine blk_drewN ?_ _ | refine blk_drew ?_ | refine blk_alloc ?_ _)); refine blk_put (cs := #[.slice Ao21 y157.length co21, .slice Ao20 y163.length co20, .slice none 0 0]) ?_ 2 _ rfl; (with_reducible repeat (first | refine blk_drewN ?_ _ | refine blk_drew ?_ | refine blk_alloc ?_ _)); refine blk_put (cs := #[.slice Ao21 y157.length co21, .slice none 0 0, .slice none 0 0]) ?_ 1 _ rfl; (with_reducible repeat (first | refine blk_drewN ?_ _ | refine blk_drew ?_ | refine blk_alloc ?_ _)); refine blk_put (cs := #[.slice none 0 0, .slice none 0 0, .slice none 0 0]) ?_ 0 _ rfl; (with_reducible repeat (first | refine blk_drewN ?_ _ | refine blk_drew ?_ | refine blk_alloc ?_ _)); exact BK153.out) Try.underlying32 rfl Zj) rfl ?_; exact ⟨_, _, _, Zk, (have z0_ := HO159; have z1_ := BK153; Zax), (have z0_ := HO165; have z1_ := BK153; Zax), (have z0_ := HO171; have z1_ := BK153; Zax), (have z0_ := GE152; have z1_ := GE153; Zh)⟩
   ·rw [if_neg c5] at H
    exact absurd H (by simp)
  ·rw [if_neg c4] at H
   exact absurd H (by simp)
 ·rw [if_neg c3] at H
  exact absurd H (by simp)
def spec_DropCue.f (k : Nat) (l0_0 : List (S108)) (l0_1 : List (S92)) (l0_2 : List (S43)) (a1 : Int) : Option ((List (S108)) × (List (S92)) × (List (S43)) × Int) := (spec_IsShow.f k l0_0 l0_1 l0_2).bind fun t174 => (if t174 = true then ((spec_l01In.f a1 0 (wrap64 ((l0_2.length : Int) - 1))).bind fun t175 => (if t175 = true then ((some (([] : List (S43)) : List (S43))).bind fun y176 => (if 0 ≤ a1 then (if a1 ≤ (l0_2.length : Int) then ((some (l0_2.take (a1 : Int).toNat : List (S43))).bind fun y179 => (if y176.length + y179.length < 3518437208883 then ((some (y176 ++ y179 : List (S43))).bind fun y183 => (if 0 ≤ (wrap64 (a1 + 1)) then (if (wrap64 (a1 + 1)) ≤ (l0_2.length : Int) then ((some (l0_2.drop ((wrap64 (a1 + 1)) : Int).toNat : List (S43))).bind fun y186 => (if y183.length + y186.length < 3518437208883 then ((spec_l08With.f l0_0 l0_1 l0_2 (y183 ++ y186)).bind fun bt193 => (some (bt193.1, bt193.2.1, bt193.2.2, 0))) else (none))) else (none)) else (none))) else (none))) else (none)) else (none))) else (some (([] : List (S108)), ([] : List (S92)), ([] : List (S43)), 2)))) else (some (([] : List (S108)), ([] : List (S92)), ([] : List (S43)), 1)))
def spec_DropCue.T5 : Bool × List (List Nat × List Nat) := (true, [([], []), ([], []), ([], []), ([2], [2]), ([], []), ([3, 4], [3, 4]), ([1, 5], [1, 5]), ([], []), ([7], [7]), ([], []), ([9], [9]), ([8, 10], [8, 10]), ([6, 11, 6], [6, 11]), ([0, 12, 12], [0, 12]), ([13, 13, 0, 1, 2, 3, 4, 5, 6, 7, 8, 9, 10, 11, 12, 13], [13]), ([14, 0, 1, 2, 3, 4, 5, 6, 7, 8, 9, 10, 11, 12, 13, 14], [])])
def spec_DropCue.B5 : List Nat := [0, 0, 0, 4, 0, 28, 62, 0, 128, 0, 512, 1920, 4094, 8191, 16383, 32767]
theorem spec_DropCue.tab5 : rtab .any (opsOf Try.f20 5) = spec_DropCue.T5 := by kernel_rfl
theorem spec_DropCue.bits5 : waitsOk spec_DropCue.T5.2 spec_DropCue.B5 = true := by kernel_rfl
set_option maxHeartbeats 8000000 in
set_option maxRecDepth 100000 in
theorem spec_DropCue.calls (k : Nat) (A0_0 : Option Addr) (c0_0 : Nat) (l0_0 : List (S108)) (A0_1 : Option Addr) (c0_1 : Nat) (l0_1 : List (S92)) (A0_2 : Option Addr) (c0_2 : Nat) (l0_2 : List (S43)) (a1 : Int) (r1 : List (S108)) (r2 : List (S92)) (r3 : List (S43)) (r4 : Int) (w : World) (hr0_0 : Kd.C k108 w A0_0 l0_0.length l0_0) (hc0_0 : l0_0.length ≤ c0_0) (hr0_1 : Kd.C k92 w A0_1 l0_1.length l0_1) (hc0_1 : l0_1.length ≤ c0_1) (hr0_2 : Kd.C k43 w A0_2 l0_2.length l0_2) (hc0_2 : l0_2.length ≤ c0_2) (h : spec_DropCue.f k l0_0 l0_1 l0_2 a1 = some (r1, r2, r3, r4)) :
  Calls Try.prog 20 #[.agg #[.slice A0_0 l0_0.length c0_0, .slice A0_1 l0_1.length c0_1, .slice A0_2 l0_2.length c0_2], .int .i64 a1] w fun e w' => ∃ v0_ v1_ v2_ : Value, e = .returned (.tuple #[.agg #[v0_, v1_, v2_], .int .i64 r4]) ∧ Kd.R k108 108 w' w.heap.size (fun _ => True) v0_ r1 ∧ Kd.R k92 92 w' w.heap.size (fun _ => True) v1_ r2 ∧ Kd.R k43 43 w' w.heap.size (fun _ => True) v2_ r3 ∧ Below w.heap.size w w' := by
 have hu32 := Try.underlying32; have HR0_0 := Aside0.mk hr0_0; have HC0_0 := Aside0.mk hc0_0; clear hr0_0 hc0_0; have HR0_1 := Aside0.mk hr0_1; have HC0_1 := Aside0.mk hc0_1; clear hr0_1 hc0_1; have HR0_2 := Aside0.mk hr0_2; have HC0_2 := Aside0.mk hc0_2; clear hr0_2 hc0_2; have HB := Aside0.mk (Below.refl w.heap.size w); have H : ((spec_IsShow.f k l0_0 l0_1 l0_2).bind fun t174 => (if t174 = true then ((spec_l01In.f a1 0 (wrap64 ((l0_2.length : Int) - 1))).bind fun t175 => (if t175 = true then ((some (([] : List (S43)) : List (S43))).bind fun y176 => (if 0 ≤ a1 then (if a1 ≤ (l0_2.length : Int) then ((some (l0_2.take (a1 : Int).toNat : List (S43))).bind fun y179 => (if y176.length + y179.length < 3518437208883 then ((some (y176 ++ y179 : List (S43))).bind fun y183 => (if 0 ≤ (wrap64 (a1 + 1)) then (if (wrap64 (a1 + 1)) ≤ (l0_2.length : Int) then ((some (l0_2.drop ((wrap64 (a1 + 1)) : Int).toNat : List (S43))).bind fun y186 => (if y183.length + y186.length < 3518437208883 then ((spec_l08With.f l0_0 l0_1 l0_2 (y183 ++ y186)).bind fun bt193 => (some (bt193.1, bt193.2.1, bt193.2.2, 0))) else (none))) else (none)) else (none))) else (none))) else (none)) else (none))) else (some (([] : List (S108)), ([] : List (S92)), ([] : List (S43)), 2)))) else (some (([] : List (S108)), ([] : List (S92)), ([] : List (S43)), 1)))) = some (r1, r2, r3, r4) := h; clear h; replace H := Option.bind_eq_some_iff.mp H; obtain ⟨t174, A30, H⟩ := H; have A3 := Aside0.mk A30; clear A30
 by_cases c4 : t174 = true
 ·subst c4
  have H1 : ((spec_l01In.f a1 0 (wrap64 ((l0_2.length : Int) - 1))).bind fun t175 => (if t175 = true then ((some (([] : List (S43)) : List (S43))).bind fun y176 => (if 0 ≤ a1 then (if a1 ≤ (l0_2.length : Int) then ((some (l0_2.take (a1 : Int).toNat : List (S43))).bind fun y179 => (if y176.length + y179.length < 3518437208883 then ((some (y176 ++ y179 : List (S43))).bind fun y183 => (if 0 ≤ (wrap64 (a1 + 1)) then (if (wrap64 (a1 + 1)) ≤ (l0_2.length : Int) then ((some (l0_2.drop ((wrap64 (a1 + 1)) : Int).toNat : List (S43))).bind fun y186 => (if y183.length + y186.length < 3518437208883 then ((spec_l08With.f l0_0 l0_1 l0_2 (y183 ++ y186)).bind fun bt193 => (some (bt193.1, bt193.2.1, bt193.2.2, 0))) else (none))) else (none)) else (none))) else (none))) else (none)) else (none))) else (some (([] : List (S108)), ([] : List (S92)), ([] : List (S43)), 2)))) = some (r1, r2, r3, r4) := by rw [if_pos rfl] at H; exact H
  clear H; have H := H1; clear H1; replace H := Option.bind_eq_some_iff.mp H; obtain ⟨t175, A50, H⟩ := H; have A5 := Aside0.mk A50; clear A50
  by_cases c6 : t175 = true
  ·subst c6
   have H1 : ((some (([] : List (S43)) : List (S43))).bind fun y176 => (if 0 ≤ a1 then (if a1 ≤ (l0_2.length : Int) then ((some (l0_2.take (a1 : Int).toNat : List (S43))).bind fun y179 => (if y176.length + y179.length < 3518437208883 then ((some (y176 ++ y179 : List (S43))).bind fun y183 => (if 0 ≤ (wrap64 (a1 + 1)) then (if (wrap64 (a1 + 1)) ≤ (l0_2.length : Int) then ((some (l0_2.drop ((wrap64 (a1 + 1)) : Int).toNat : List (S43))).bind fun y186 => (if y183.length + y186.length < 3518437208883 then ((spec_l08With.f l0_0 l0_1 l0_2 (y183 ++ y186)).bind fun bt193 => (some (bt193.1, bt193.2.1, bt193.2.2, 0))) else (none))) else (none)) else (none))) else (none))) else (none)) else (none))) = some (r1, r2, r3, r4) := by rw [if_pos rfl] at H; exact H
   clear H; have H := H1; clear H1; obtain ⟨y176, hy176⟩ : ∃ y_ : List (S43), y_ = (([] : List (S43))) := ⟨_, rfl⟩
   replace H : (if 0 ≤ a1 then (if a1 ≤ (l0_2.length : Int) then ((some (l0_2.take (a1 : Int).toNat : List (S43))).bind fun y179 => (if y176.length + y179.length < 3518437208883 then ((some (y176 ++ y179 : List (S43))).bind fun y183 => (if 0 ≤ (wrap64 (a1 + 1)) then (if (wrap64 (a1 + 1)) ≤ (l0_2.length : Int) then ((some (l0_2.drop ((wrap64 (a1 + 1)) : Int).toNat : List (S43))).bind fun y186 => (if y183.length + y186.length < 3518437208883 then ((spec_l08With.f l0_0 l0_1 l0_2 (y183 ++ y186)).bind fun bt193 => (some (bt193.1, bt193.2.1, bt193.2.2, 0))) else (none))) else (none)) else (none))) else (none))) else (none)) else (none)) = some (r1, r2, r3, r4) := by (try rw [hy176]); first | with_reducible exact H | with_reducible exact (Option.bind_some _ _).symm.trans H | exact H
   have Ny176 := Aside0.mk hy176; clear hy176
   by_cases c7 : 0 ≤ a1
   ·rw [if_pos c7] at H
    have c7b0 := eq_true c7; have c7b1 := decide_eq_true c7; clear c7
    by_cases c8 : a1 ≤ (l0_2.length : Int)
    ·rw [if_pos c8] at H
     have c8b0 := eq_true c8; have c8b1 := decide_eq_true c8; clear c8; obtain ⟨y179, hy179⟩ : ∃ y_ : List (S43), y_ = (l0_2.take (a1 : Int).toNat) := ⟨_, rfl⟩
     replace H : (if y176.length + y179.length < 3518437208883 then ((some (y176 ++ y179 : List (S43))).bind fun y183 => (if 0 ≤ (wrap64 (a1 + 1)) then (if (wrap64 (a1 + 1)) ≤ (l0_2.length : Int) then ((some (l0_2.drop ((wrap64 (a1 + 1)) : Int).toNat : List (S43))).bind fun y186 => (if y183.length + y186.length < 3518437208883 then ((spec_l08With.f l0_0 l0_1 l0_2 (y183 ++ y186)).bind fun bt193 => (some (bt193.1, bt193.2.1, bt193.2.2, 0))) else (none))) else (none)) else (none))) else (none)) = some (r1, r2, r3, r4) := by (try rw [hy179]); first | with_reducible exact H | with_reducible exact (Option.bind_some _ _).symm.trans H | exact H
     have Ny179 := Aside0.mk hy179; clear hy179
     by_cases c9 : y176.length + y179.length < 3518437208883
     ·rw [if_pos c9] at H
      have LMc9 := Aside0.mk c9; clear c9; obtain ⟨y183, hy183⟩ : ∃ y_ : List (S43), y_ = (y176 ++ y179) := ⟨_, rfl⟩
      replace H : (if 0 ≤ (wrap64 (a1 + 1)) then (if (wrap64 (a1 + 1)) ≤ (l0_2.length : Int) then ((some (l0_2.drop ((wrap64 (a1 + 1)) : Int).toNat : List (S43))).bind fun y186 => (if y183.length + y186.length < 3518437208883 then ((spec_l08With.f l0_0 l0_1 l0_2 (y183 ++ y186)).bind fun bt193 => (some (bt193.1, bt193.2.1, bt193.2.2, 0))) else (none))) else (none)) else (none)) = some (r1, r2, r3, r4) := by (try rw [hy183]); first | with_reducible exact H | with_reducible exact (Option.bind_some _ _).symm.trans H | exact H
      have Ny183 := Aside0.mk hy183; clear hy183; obtain ⟨ji10, hji10⟩ : ∃ j_ : Int, (wrap64 (a1 + 1)) = j_ := ⟨_, rfl⟩
      replace H : (if 0 ≤ (ji10) then (if (ji10) ≤ (l0_2.length : Int) then ((some (l0_2.drop ((ji10) : Int).toNat : List (S43))).bind fun y186 => (if y183.length + y186.length < 3518437208883 then ((spec_l08With.f l0_0 l0_1 l0_2 (y183 ++ y186)).bind fun bt193 => (some (bt193.1, bt193.2.1, bt193.2.2, 0))) else (none))) else (none)) else (none)) = some (r1, r2, r3, r4) := by first | (rw [hji10] at H; exact H) | (simp only [hji10] at H ⊢; exact H)
      (try rw [hji10] at A3)
      (try rw [hji10] at A5)
      have hji10w : (IntKind.i64.wrap (a1 + 1)) = ji10 := (i64_w _).trans hji10
      by_cases c11 : 0 ≤ (ji10)
      ·rw [if_pos c11] at H
       have c11b0 := eq_true c11; have c11b1 := decide_eq_true c11; clear c11
       by_cases c12 : (ji10) ≤ (l0_2.length : Int)
       ·rw [if_pos c12] at H
        have c12b0 := eq_true c12; have c12b1 := decide_eq_true c12; clear c12; obtain ⟨y186, hy186⟩ : ∃ y_ : List (S43), y_ = (l0_2.drop ((ji10) : Int).toNat) := ⟨_, rfl⟩
        replace H : (if y183.length + y186.length < 3518437208883 then ((spec_l08With.f l0_0 l0_1 l0_2 (y183 ++ y186)).bind fun bt193 => (some (bt193.1, bt193.2.1, bt193.2.2, 0))) else (none)) = some (r1, r2, r3, r4) := by (try rw [hy186]); first | with_reducible exact H | with_reducible exact (Option.bind_some _ _).symm.trans H | exact H
        have Ny186 := Aside0.mk hy186; clear hy186
        by_cases c13 : y183.length + y186.length < 3518437208883
        ·rw [if_pos c13] at H
         have LMc13 := Aside0.mk c13; clear c13; obtain ⟨y190, hy190⟩ : ∃ y_ : List (S43), y_ = (y183 ++ y186) := ⟨_, rfl⟩
         replace H : ((spec_l08With.f l0_0 l0_1 l0_2 y190).bind fun bt193 => (some (bt193.1, bt193.2.1, bt193.2.2, 0))) = some (r1, r2, r3, r4) := by (try rw [hy190]); first | with_reducible exact H | with_reducible exact (Option.bind_some _ _).symm.trans H | exact H
         have Ny190 := Aside0.mk hy190; clear hy190; replace H := Option.bind_eq_some_iff.mp H; obtain ⟨⟨t193, t196, t199⟩, A140, H⟩ := H; replace H : (some (t193, t196, t199, 0)) = some (r1, r2, r3, r4) := H; have A14 := Aside0.mk A140; clear A140; simp only [Option.some.injEq, Prod.mk.injEq] at H; obtain ⟨rfl, rfl, rfl, rfl⟩ := H
         go_enter Try.func20, Try.ntmps20
         try go_wp2_with (first | ((with_reducible refine gate_dst (N := 2) rfl ?_); refine boxZ 2 #[.slice A0_0 l0_0.length c0_0, .slice A0_1 l0_1.length c0_1, .slice A0_2 l0_2.length c0_2] 32 ?_; intro gb172 hg w15 hbox hb; have n0_ := Aside0.mk (below_step Zc hb); have n1_ := Aside0.mk (hbox); have n2_ := Aside0.mk ((Zd : w.heap.size ≤ gb172)); have n3_ := Aside0.mk ((Zd : w.heap.size ≤ gb172)); clear HB; have HB := n0_; have BK172 := n1_; have GW172 := n2_; have GE172 := n3_; clear n0_ n1_ n2_ n3_; clear hb hbox hg) | ((with_reducible refine gate_dst (N := 4) rfl ?_); refine boxZ 4 #[.slice none 0 0, .slice none 0 0, .slice none 0 0] 32 ?_; intro gb173 hg w16 hbox hb; have n0_ := (have z0_ := BK172; bkZ hb); have n1_ := Aside0.mk (below_step (have z0_ := GE172; Ze) hb); have n2_ := Aside0.mk (hbox); have n3_ := Aside0.mk (((have z0_ := GE172; Zf) : w.heap.size ≤ gb173)); have n4_ := Aside0.mk (((have z0_ := GE172; Zf) : w.heap.size ≤ gb173)); have n5_ := Aside0.mk (((have z0_ := BK172; Zay) : gb172 ≠ gb173)); have n6_ := Aside0.mk (((have z0_ := BK172; Zaz) : gb173 ≠ gb172)); clear BK172; clear HB; have BK172 := n0_; have HB := n1_; have BK173 := n2_; have GW173 := n3_; have GE173 := n4_; have NB172_173 := n5_; have NB173_172 := n6_; clear n0_ n1_ n2_ n3_ n4_ n5_ n6_; clear hb hbox hg; have hnb17 := NB172_173.out; have hnc17 := NB173_172.out; obtain ⟨_, _, _, _, _, _⟩ := cz3 BK172) | ((with_reducible refine gate_callee (f := 36) rfl ?_); refine goesL_ (some 7) rfl rfl Try.func36 Zj rfl #[.agg #[.slice A0_0 l0_0.length c0_0, .slice A0_1 l0_1.length c0_1, .slice A0_2 l0_2.length c0_2]] rfl Zo ?_; (with_reducible refine (spec_IsShow.calls k _ _ l0_0 _ _ l0_1 _ _ l0_2 true _ ?side1 ?side2 ?side3 ?side4 ?side5 ?side6 A3.out).mono ?_); (case side1 => exact (have z0_ := HR0_0; Zae)); (case side2 => exact HC0_0.out); (case side3 => exact (have z0_ := HR0_1; Zae)); (case side4 => exact HC0_1.out); (case side5 => exact (have z0_ := HR0_2; Zae)); (case side6 => exact HC0_2.out); rintro e w19 ⟨rfl, hb⟩; refine ⟨_, rfl, ?_⟩; replace BK172 := (have z0_ := BK172; bkZ hb); replace BK173 := (have z0_ := BK173; bkZ hb); replace HB := Aside0.mk (below_step (have z0_ := GE172; have z1_ := GE173; Zh) hb); (try clear hb); (try clear hb2); (try clear hk); (try clear hi); obtain ⟨_, _, _, _, _, _⟩ := cz3 BK172) | ((with_reducible refine gate_callee (f := 68) rfl ?_); refine goesL_ (some 15) rfl rfl Try.func68 Zj rfl #[.int .i64 a1, .int .i64 0, .int .i64 (wrap64 ((l0_2.length : Int) - 1))] rfl Zo ?_; (with_reducible refine (spec_l01In.calls a1 0 (wrap64 ((l0_2.length : Int) - 1)) true _ A5.out).mono ?_); rintro e w' ⟨rfl, ⟨nd, rfl⟩⟩; refine ⟨_, rfl, ?_⟩; (try (rw [drewN_self w19]; generalize hq_ : World.drewN w19 _ = w19; replace BK172 : Aside0 (w19.heap[gb172]? = some (.cells #[.slice A0_0 l0_0.length c0_0, .slice A0_1 l0_1.length c0_1, .slice A0_2 l0_2.length c0_2] 32 (0, 0))) := ⟨(have z0_ := BK172; Zba)⟩; replace BK173 : Aside0 (w19.heap[gb173]? = some (.cells #[.slice none 0 0, .slice none 0 0, .slice none 0 0] 32 (0, 0))) := ⟨(have z0_ := BK173; Zba)⟩; replace HB : Aside0 (Below w.heap.size w w19) := ⟨(have z0_ := GE172; have z1_ := GE173; Zbb)⟩; clear hq_))))
         replace BK172 := Aside0.mk (blk_drew BK172.out); replace BK173 := Aside0.mk (blk_drew BK173.out); replace HB := Aside0.mk (below_drew1 HB.out); have q22 : (a1 : Int) ≤ ((l0_2.length : Int) : Int) := of_decide_eq_true Zp; obtain ⟨i022, hi022, _, hsz22, _⟩ := info_parts info43; have hroom22 : l0_2.length ≤ c0_2 := HC0_2.out; have hC22 : Kd.C k43 _ A0_2 l0_2.length l0_2 := HR0_2.out; have hcut22 := cut_to (P := Try.prog) 30 43 .i64 Try.underlying30 hi022 A0_2 l0_2.length c0_2 a1 (of_decide_eq_true Zp) q22 hroom22; have hr22 := Kd.C_take (m := (a1 : Int).toNat) hC22 (by omega); have hy22 : y179.length = (a1 : Int).toNat := (by rw [Ny179.out, List.length_take]; omega); rw [← Ny179.out] at hr22; rw [← hy22] at hcut22; have HR182 := Aside0.mk hr22; have HC182 := Aside0.mk (show y179.length ≤ c0_2 from by omega); clear hr22 hC22 hroom22 hi022 hsz22; have KY22 := Aside0.mk hy22; clear hy22; replace q22 := eq_true q22; have q23 : ((ji10) : Int) ≤ ((l0_2.length : Int) : Int) := of_decide_eq_true Zp; obtain ⟨i023, hi023, _, hsz23, _⟩ := info_parts info43; have hroom23 : l0_2.length ≤ c0_2 := HC0_2.out; have hC23 : Kd.C k43 _ A0_2 l0_2.length l0_2 := HR0_2.out; have q023 : (0 : Int) ≤ ((ji10) : Int) := of_decide_eq_true Zp; have hcut23 := cut_from (P := Try.prog) 30 43 .i64 Try.underlying30 hi023 4 hsz23 A0_2 l0_2.length c0_2 (ji10) q023 q23; have hr23 := Kd.C_drop (m := ((ji10) : Int).toNat) (c := c0_2) hC23 (by omega) hroom23; obtain ⟨A23, hA23⟩ : ∃ A1, A1 = (if c0_2 = ((ji10) : Int).toNat then A0_2 else (A0_2 : Option Addr).map (·.add (((ji10) : Int).toNat * 4))) := ⟨_, rfl⟩; obtain ⟨c23, hc23⟩ : ∃ c1, c1 = c0_2 - ((ji10) : Int).toNat := ⟨_, rfl⟩; have hy23 : y186.length = l0_2.length - ((ji10) : Int).toNat := (by rw [Ny186.out, List.length_drop] <;> omega); rw [show (l0_2).drop ((ji10) : Int).toNat = y186 from Ny186.out.symm] at hr23; replace hr23 : Kd.C k43 _ A23 y186.length y186 := (by rw [hA23]; exact hr23); rw [← hy23, ← hA23, ← hc23] at hcut23; have HR189 := Aside0.mk hr23; have HC189 := Aside0.mk (show y186.length ≤ c23 from by rw [hy23, hc23]; exact Nat.sub_le_sub_right hroom23 _); clear hr23 hC23 hroom23 hi023 hsz23 hc23; have KY23 := Aside0.mk hy23; have KA23 := Aside0.mk hA23; clear hy23 hA23; replace q23 := eq_true q23; refine start_ (n := 16) (S := fun w' => w'.cell? ⟨gb172, 0, none⟩ = some (.slice A0_0 l0_0.length c0_0) ∧ w'.cell? ⟨gb172, 1, none⟩ = some (.slice A0_1 l0_1.length c0_1) ∧ w'.cell? ⟨gb172, 2, none⟩ = some (.slice A0_2 l0_2.length c0_2)) (ds := []) (bT 16 0) Zj rfl rfl ⟨(blk_cell BK172.out 0).trans rfl, (blk_cell BK172.out 1).trans rfl, (blk_cell BK172.out 2).trans rfl⟩ (fun hHeld => ?_); refine with_tabW spec_DropCue.tab5 spec_DropCue.bits5 (fun HT_ HW_ => ?_); generalize w19.drew = w21 at BK172 BK173 HB HR182 HR189 hHeld ⊢; refine pureZ HT_ 2 (some 20) #[false, false, true, false, false, false, false, false, false, false, false, false, false, false, false, false] ?_; refine pureZ HT_ 4 (some 22) #[false, false, true, false, true, false, false, false, false, false, false, false, false, false, false, false] ?_
         refine pureZ HT_ 7 (some 25) #[false, false, true, false, true, false, false, true, false, false, false, false, false, false, false, false] ?_; refine pureZ HT_ 9 (some 27) #[false, false, true, false, true, false, false, true, false, true, false, false, false, false, false, false] ?_; refine pureZ HT_ 10 (some 28) #[false, false, true, false, true, false, false, true, false, true, true, false, false, false, false, false] ?_; refine takeZ3 HT_ HW_ 0 (some 18) #[true, false, true, false, true, false, false, true, false, true, true, false, false, false, false, false] hHeld ?_; refine takeZ3 HT_ HW_ 3 (some 21) #[true, false, true, true, true, false, false, true, false, true, true, false, false, false, false, false] hHeld ?_; refine pureZ HT_ 5 (some 23) #[true, false, true, true, true, true, false, true, false, true, true, false, false, false, false, false] ?_; refine takeZ3 HT_ HW_ 8 (some 26) #[true, false, true, true, true, true, false, true, true, true, true, false, false, false, false, false] hHeld ?_; refine pureZ HT_ 11 (some 29) #[true, false, true, true, true, true, false, true, true, true, true, true, false, false, false, false] ?_; refine one_ (i := 1) (N := some 19) #[true, true, true, true, true, true, false, true, true, true, true, true, false, false, false, false] rfl rfl (one_of HT_.out Zj) (by decide) (fun K hK => ?_); refine Kd.R_lit_step k43 _ 43 ?hg (N := 19) ?hd (xs := ([] : List (S43))) (inner := []) (ok := fun _ => True) (okp := fun _ => True) ?hr ?hp (fun _ hk => hk) trivial (Below.refl _ _) (Nat.le_refl _) (by simp) ?_; (case hd => rfl); (case hg => rfl); (case hr => first | (go_simp; done) | (go_simp; rfl)); (case hp => exact (Reps.none _ _)); intro v177 w24 ho25 hb hg_ hnew_; clear hg_ hnew_
         (first | rw [← Ny176.out] at ho25 | (simp only [Int.reduceToNat] at ho25; rw [← Ny176.out] at ho25))
         replace HO178 := Aside0.mk (Kd.R_lower ho25 (below_size (have z0_ := GE172; have z1_ := GE173; Zh))); replace BK172 := (have z0_ := BK172; bkZ hb); replace BK173 := (have z0_ := BK173; bkZ hb); replace HB := Aside0.mk (below_step (have z0_ := GE172; have z1_ := GE173; Zh) hb); clear hb ho25; refine hK.out _ _ (have z0_ := BK172; Zav) (fun hHeld => ?_); clear hK K; refine normZ 19 ?_; refine one_ (i := 6) (N := some 24) (bT 16 12) rfl rfl (one_of HT_.out Zj) (by decide) (fun K hK => ?_); refine Kd.R_append_rows_step k43 (w0 := w) w.heap.size (by rfl) (.tmp 19) (.tmp 23) 30 43 (.agg #[(.int .i64 0), (.int .i64 0), (.string ⟨#[]⟩), (.int .i64 0)]) 40 rfl Try.underlying30 info43 rfl (by decide) (by omega) v177 y176 y179 _ _ _ (fun _ => True) (fun _ => False) rfl rfl ?aO ?aR (fun _ _ h => h) (fun _ h => h.elim) ?aF ?aB ?aS ?aL ?_
         (case aR => repeat (first | exact (Kd.C_below HR182.out HB.out) | (with_reducible refine Kd.C_alloc ?_ _) | (with_reducible refine Kd.C_drewN ?_ _) | (with_reducible refine Kd.C_drew ?_)))
         (case aB => exact (have z0_ := GE172; have z1_ := GE173; Zh))
         (case aF => exact (fun _ _ => trivial))
         (case aO => exact (have z0_ := HO178; Zq))
         (case aS => exact (below_size (have z0_ := GE172; have z1_ := GE173; Zh)))
         (case aL => have := LMc9.out; omega)
         intro v184 w26 ho hb hg hat; rw [← Ny183.out] at ho; replace BK172 := Aside0.mk (blk_grown (g := gb172) (o := .cells #[.slice A0_0 l0_0.length c0_0, .slice A0_1 l0_1.length c0_1, .slice A0_2 l0_2.length c0_2] 32 (0, 0)) (have z0_ := BK172; Zg) hg (Kd.R_ne HO178.out BK172.out (by decide))); replace BK173 := Aside0.mk (blk_grown (g := gb173) (o := .cells #[.slice none 0 0, .slice none 0 0, .slice none 0 0] 32 (0, 0)) (have z0_ := BK173; Zg) hg (Kd.R_ne HO178.out BK173.out (by decide))); replace HB := Aside0.mk (hb); replace HO185 := Aside0.mk (ho); clear HO178; clear ho hb hg hat; refine hK.out _ _ (have z0_ := BK172; Zav) (fun hHeld => ?_); clear hK K; refine normZ 24 ?_; refine one_ (i := 12) (N := some 30) (bT 16 13) rfl rfl (one_of HT_.out Zj) (by decide) (fun K hK => ?_); refine Kd.R_append_rows_step k43 (w0 := w) w.heap.size (by rfl) (.tmp 24) (.tmp 29) 30 43 (.agg #[(.int .i64 0), (.int .i64 0), (.string ⟨#[]⟩), (.int .i64 0)]) 40 rfl Try.underlying30 info43 rfl (by decide) (by omega) v184 y183 y186 _ _ _ (fun _ => True) (fun _ => False) rfl rfl ?aO ?aR (fun _ _ h => h) (fun _ h => h.elim) ?aF ?aB ?aS ?aL ?_
         (case aR => repeat (first | exact (Kd.C_below HR189.out HB.out) | (with_reducible refine Kd.C_alloc ?_ _) | (with_reducible refine Kd.C_drewN ?_ _) | (with_reducible refine Kd.C_drew ?_)))
         (case aB => exact (have z0_ := GE172; have z1_ := GE173; Zh))
         (case aF => exact (fun _ _ => trivial))
         (case aO => exact (have z0_ := HO185; Zq))
         (case aS => exact (below_size (have z0_ := GE172; have z1_ := GE173; Zh)))
         (case aL => have := LMc13.out; omega)
         intro v191 w27 ho hb hg hat; rw [← Ny190.out] at ho; replace BK172 := Aside0.mk (blk_grown (g := gb172) (o := .cells #[.slice A0_0 l0_0.length c0_0, .slice A0_1 l0_1.length c0_1, .slice A0_2 l0_2.length c0_2] 32 (0, 0)) (have z0_ := BK172; Zg) hg (Kd.R_ne HO185.out BK172.out (by decide))); replace BK173 := Aside0.mk (blk_grown (g := gb173) (o := .cells #[.slice none 0 0, .slice none 0 0, .slice none 0 0] 32 (0, 0)) (have z0_ := BK173; Zg) hg (Kd.R_ne HO185.out BK173.out (by decide))); replace HB := Aside0.mk (hb); replace HO192 := Aside0.mk (ho); clear HO185; clear ho hb hg hat; obtain ⟨Ao28, co28, eo28⟩ := Kd.R_slice HO192.out
         (first | subst eo28 | (injection eo28 with f1_ f2_ f3_; have f4_ := f1_.symm; have f5_ := f3_.symm; clear f1_ f2_ f3_; subst f4_; subst f5_))
         refine hK.out _ _ (have z0_ := BK172; Zav) (fun hHeld => ?_); clear hK K; refine normZ 30 ?_; refine one_ (i := 13) (N := some 31) (bT 16 14) rfl rfl (one_of HT_.out Zj) (by decide) (fun K hK => ?_); refine goes_ Try.func69 Zj rfl #[.agg #[.slice A0_0 l0_0.length c0_0, .slice A0_1 l0_1.length c0_1, .slice A0_2 l0_2.length c0_2], .slice Ao28 y190.length co28] (by rfl) rfl rfl Zo ?_
         with_reducible refine (spec_l08With.calls _ _ l0_0 _ _ l0_1 _ _ l0_2 _ _ y190 t193 t196 t199 _ ?side1 ?side2 ?side3 ?side4 ?side5 ?side6 ?side7 ?side8 A14.out).mono ?_
         (case side1 => exact (have z0_ := HR0_0; Zae))
         (case side2 => exact HC0_0.out)
         (case side3 => exact (have z0_ := HR0_1; Zae))
         (case side4 => exact HC0_1.out)
         (case side5 => exact (have z0_ := HR0_2; Zae))
         (case side6 => exact HC0_2.out)
         (case side7 => repeat (first | exact (Kd.R_reads' HO192.out).2.2 | (with_reducible refine Kd.C_alloc ?_ _) | (with_reducible refine Kd.C_drewN ?_ _) | (with_reducible refine Kd.C_drew ?_)))
         (case side8 => exact (Kd.R_reads' HO192.out).2.1)
         rintro e w29 ⟨v194, v197, v200, rfl, ho0, ho1, ho2, hb⟩; refine ⟨_, rfl, ?_⟩; have n0_ := Aside0.mk (Kd.R_elder' (have z0_ := HO192; Zq) (Kd.R_base ho2) hb); have n1_ := Aside0.mk (Kd.R_lower ho0 (below_size (have z0_ := GE172; have z1_ := GE173; Zh))); have n2_ := Aside0.mk (Kd.R_lower ho1 (below_size (have z0_ := GE172; have z1_ := GE173; Zh))); have n3_ := Aside0.mk (Kd.R_lower (Kd.R_new' ho2 (Kd.R_lt (have z0_ := HO192; Zq))) (below_size (have z0_ := GE172; have z1_ := GE173; Zh))); have n4_ := (have z0_ := BK172; bkZ hb); have n5_ := (have z0_ := BK173; bkZ hb); have n6_ := Aside0.mk (below_step (have z0_ := GE172; have z1_ := GE173; Zh) hb); clear HO192; clear BK172; clear BK173; clear HB; have HO192 := n0_; have HO195 := n1_; have HO198 := n2_; have HO201 := n3_; have BK172 := n4_; have BK173 := n5_; have HB := n6_; clear n0_ n1_ n2_ n3_ n4_ n5_ n6_
         (try clear hb)
         (try clear hb2)
         (try clear hk)
         (try clear hi)
         (try clear ho0)
         (try clear ho1)
         (try clear ho2)
         obtain ⟨Ao30, co30, eo30⟩ := Kd.R_slice HO195.out
         (first | subst eo30 | (injection eo30 with f1_ f2_ f3_; have f4_ := f1_.symm; have f5_ := f3_.symm; clear f1_ f2_ f3_; subst f4_; subst f5_))
         obtain ⟨Ao32, co32, eo32⟩ := Kd.R_slice HO198.out
         (first | subst eo32 | (injection eo32 with f1_ f2_ f3_; have f4_ := f1_.symm; have f5_ := f3_.symm; clear f1_ f2_ f3_; subst f4_; subst f5_))
         obtain ⟨Ao34, co34, eo34⟩ := Kd.R_slice HO201.out
         (first | subst eo34 | (injection eo34 with f1_ f2_ f3_; have f4_ := f1_.symm; have f5_ := f3_.symm; clear f1_ f2_ f3_; subst f4_; subst f5_))
         refine hK.out _ _ (have z0_ := BK172; Zav) (fun hHeld => ?_); clear hK K; refine normZ 31 ?_; refine one_ (i := 14) (N := none) (bT 16 15) rfl rfl (one_of HT_.out Zj) (by decide) (fun K hK => ?_); have hs31 : w29.cell? ⟨gb173, 0, none⟩ = some (.slice none 0 0) := (blk_cell BK173.out 0).trans rfl; have hfs31 := blk_frozen BK173.out 0; have hns31_0 := NB172_173.out; have hms31_0 := NB173_172.out; have hs33 : w29.cell? ⟨gb173, 1, none⟩ = some (.slice none 0 0) := (blk_cell BK173.out 1).trans rfl; have hfs33 := blk_frozen BK173.out 1; have hns33_0 := NB172_173.out; have hms33_0 := NB173_172.out; have hs35 : w29.cell? ⟨gb173, 2, none⟩ = some (.slice none 0 0) := (blk_cell BK173.out 2).trans rfl; have hfs35 := blk_frozen BK173.out 2; have hns35_0 := NB172_173.out; have hms35_0 := NB173_172.out; refine skip_ (w1 := ?_) (by rfl) rfl ?_ ?_; rotate_left
         ·go_simp
          rfl
         refine hK.out _ _ ⟨((cell_far (p := ⟨gb173, _, none⟩) NB172_173.out _).trans (((cell_far (p := ⟨gb173, _, none⟩) NB172_173.out _).trans (((cell_far (p := ⟨gb173, _, none⟩) NB172_173.out _).trans (hHeld.1)))))), ((cell_far (p := ⟨gb173, _, none⟩) NB172_173.out _).trans (((cell_far (p := ⟨gb173, _, none⟩) NB172_173.out _).trans (((cell_far (p := ⟨gb173, _, none⟩) NB172_173.out _).trans (hHeld.2.1)))))), ((cell_far (p := ⟨gb173, _, none⟩) NB172_173.out _).trans (((cell_far (p := ⟨gb173, _, none⟩) NB172_173.out _).trans (((cell_far (p := ⟨gb173, _, none⟩) NB172_173.out _).trans (hHeld.2.2))))))⟩ (fun hHeld => ?_); clear hK K; refine pureZ HT_ 15 (some 5) (bT 16 16) ?_; refine done_ (done_of HT_.out Zj) ?_
         try go_wp2
         refine bodyPost_ret (results_ct rfl _ _ gb173 32 #[.slice Ao30 t193.length co30, .slice Ao32 t196.length co32, .slice Ao34 t199.length co34] (0, 0) _ rfl (by (with_reducible repeat (first | refine blk_drewN ?_ _ | refine blk_drew ?_ | refine blk_alloc ?_ _)); refine blk_put (cs := #[.slice Ao30 t193.length co30, .slice Ao32 t196.length co32, .slice none 0 0]) ?_ 2 _ rfl; (with_reducible repeat (first | refine blk_drewN ?_ _ | refine blk_drew ?_ | refine blk_alloc ?_ _)); refine blk_put (cs := #[.slice Ao30 t193.length co30, .slice none 0 0, .slice none 0 0]) ?_ 1 _ rfl; (with_reducible repeat (first | refine blk_drewN ?_ _ | refine blk_drew ?_ | refine blk_alloc ?_ _)); refine blk_put (cs := #[.slice none 0 0, .slice none 0 0, .slice none 0 0]) ?_ 0 _ rfl; (with_reducible repeat (first | refine blk_drewN ?_ _ | refine blk_drew ?_ | refine blk_alloc ?_ _)); exact BK173.out) Try.underlying32 rfl Zj) rfl ?_; exact ⟨_, _, _, by first | rfl | (simp [errW_none, errW_some] <;> rfl) | (simp only [← hji10]; first | rfl | (simp [errW_none, errW_some] <;> rfl)) | (simp [*, errW_none, errW_some] <;> rfl), (have z0_ := HO195; have z1_ := BK173; Zbc), (have z0_ := HO198; have z1_ := BK173; Zbc), (have z0_ := HO201; have z1_ := BK173; Zbc), (have z0_ := GE172; have z1_ := GE173; Zh)⟩
        ·rw [if_neg c13] at H
         exact absurd H (by simp)
       ·rw [if_neg c12] at H
        exact absurd H (by simp)
      ·rw [if_neg c11] at H
       exact absurd H (by simp)
     ·rw [if_neg c9] at H
      exact absurd H (by simp)
    ·rw [if_neg c8] at H
     exact absurd H (by simp)
   ·rw [if_neg c7] at H
    exact absurd H (by simp)
  ·replace c6 := Bool.eq_false_iff.mpr c6
   subst c6
   have H1 : (some (([] : List (S108)), ([] : List (S92)), ([] : List (S43)), 2)) = some (r1, r2, r3, r4) := by rw [if_neg (show ¬ (false = true) by decide)] at H; exact H
   clear H; have H := H1; clear H1; simp only [Option.some.injEq, Prod.mk.injEq] at H; obtain ⟨rfl, rfl, rfl, rfl⟩ := H
   go_enter Try.func20, Try.ntmps20
   go_wp2_with (first | ((with_reducible refine gate_dst (N := 2) rfl ?_); refine boxZ 2 #[.slice A0_0 l0_0.length c0_0, .slice A0_1 l0_1.length c0_1, .slice A0_2 l0_2.length c0_2] 32 ?_; intro gb172 hg w36 hbox hb; have n0_ := Aside0.mk (below_step Zc hb); have n1_ := Aside0.mk (hbox); have n2_ := Aside0.mk ((Zd : w.heap.size ≤ gb172)); have n3_ := Aside0.mk ((Zd : w.heap.size ≤ gb172)); clear HB; have HB := n0_; have BK172 := n1_; have GW172 := n2_; have GE172 := n3_; clear n0_ n1_ n2_ n3_; clear hb hbox hg) | ((with_reducible refine gate_dst (N := 4) rfl ?_); refine boxZ 4 #[.slice none 0 0, .slice none 0 0, .slice none 0 0] 32 ?_; intro gb173 hg w37 hbox hb; have n0_ := (have z0_ := BK172; bkZ hb); have n1_ := Aside0.mk (below_step (have z0_ := GE172; Ze) hb); have n2_ := Aside0.mk (hbox); have n3_ := Aside0.mk (((have z0_ := GE172; Zf) : w.heap.size ≤ gb173)); have n4_ := Aside0.mk (((have z0_ := GE172; Zf) : w.heap.size ≤ gb173)); have n5_ := Aside0.mk (((have z0_ := BK172; Zay) : gb172 ≠ gb173)); have n6_ := Aside0.mk (((have z0_ := BK172; Zaz) : gb173 ≠ gb172)); clear BK172; clear HB; have BK172 := n0_; have HB := n1_; have BK173 := n2_; have GW173 := n3_; have GE173 := n4_; have NB172_173 := n5_; have NB173_172 := n6_; clear n0_ n1_ n2_ n3_ n4_ n5_ n6_; clear hb hbox hg; have hnb38 := NB172_173.out; have hnc38 := NB173_172.out; obtain ⟨_, _, _, _, _, _⟩ := cz3 BK172) | ((with_reducible refine gate_callee (f := 36) rfl ?_); refine goesL_ (some 7) rfl rfl Try.func36 Zj rfl #[.agg #[.slice A0_0 l0_0.length c0_0, .slice A0_1 l0_1.length c0_1, .slice A0_2 l0_2.length c0_2]] rfl Zo ?_; (with_reducible refine (spec_IsShow.calls k _ _ l0_0 _ _ l0_1 _ _ l0_2 true _ ?side1 ?side2 ?side3 ?side4 ?side5 ?side6 A3.out).mono ?_); (case side1 => exact (have z0_ := HR0_0; Zae)); (case side2 => exact HC0_0.out); (case side3 => exact (have z0_ := HR0_1; Zae)); (case side4 => exact HC0_1.out); (case side5 => exact (have z0_ := HR0_2; Zae)); (case side6 => exact HC0_2.out); rintro e w40 ⟨rfl, hb⟩; refine ⟨_, rfl, ?_⟩; replace BK172 := (have z0_ := BK172; bkZ hb); replace BK173 := (have z0_ := BK173; bkZ hb); replace HB := Aside0.mk (below_step (have z0_ := GE172; have z1_ := GE173; Zh) hb); (try clear hb); (try clear hb2); (try clear hk); (try clear hi); obtain ⟨_, _, _, _, _, _⟩ := cz3 BK172) | ((with_reducible refine gate_callee (f := 68) rfl ?_); refine goesL_ (some 15) rfl rfl Try.func68 Zj rfl #[.int .i64 a1, .int .i64 0, .int .i64 (wrap64 ((l0_2.length : Int) - 1))] rfl Zo ?_; (with_reducible refine (spec_l01In.calls a1 0 (wrap64 ((l0_2.length : Int) - 1)) false _ A5.out).mono ?_); rintro e w' ⟨rfl, ⟨nd, rfl⟩⟩; refine ⟨_, rfl, ?_⟩; (try (rw [drewN_self w40]; generalize hq_ : World.drewN w40 _ = w40; replace BK172 : Aside0 (w40.heap[gb172]? = some (.cells #[.slice A0_0 l0_0.length c0_0, .slice A0_1 l0_1.length c0_1, .slice A0_2 l0_2.length c0_2] 32 (0, 0))) := ⟨(have z0_ := BK172; Zba)⟩; replace BK173 : Aside0 (w40.heap[gb173]? = some (.cells #[.slice none 0 0, .slice none 0 0, .slice none 0 0] 32 (0, 0))) := ⟨(have z0_ := BK173; Zba)⟩; replace HB : Aside0 (Below w.heap.size w w40) := ⟨(have z0_ := GE172; have z1_ := GE173; Zbb)⟩; clear hq_)); obtain ⟨_, _, _, _, _, _⟩ := cz3 BK173))
   refine bodyPost_ret (results_ct rfl _ _ gb173 32 #[.slice none 0 0, .slice none 0 0, .slice none 0 0] (0, 0) _ rfl (have z0_ := BK173; Zbd) Try.underlying32 rfl Zj) rfl ?_; exact ⟨_, _, _, Zk, Zn, Zn, Zn, (have z0_ := GE172; have z1_ := GE173; Zh)⟩
 ·replace c4 := Bool.eq_false_iff.mpr c4
  subst c4
  have H1 : (some (([] : List (S108)), ([] : List (S92)), ([] : List (S43)), 1)) = some (r1, r2, r3, r4) := by rw [if_neg (show ¬ (false = true) by decide)] at H; exact H
  clear H; have H := H1; clear H1; simp only [Option.some.injEq, Prod.mk.injEq] at H; obtain ⟨rfl, rfl, rfl, rfl⟩ := H
  go_enter Try.func20, Try.ntmps20
  go_wp2_with (first | ((with_reducible refine gate_dst (N := 2) rfl ?_); refine boxZ 2 #[.slice A0_0 l0_0.length c0_0, .slice A0_1 l0_1.length c0_1, .slice A0_2 l0_2.length c0_2] 32 ?_; intro gb172 hg w43 hbox hb; have n0_ := Aside0.mk (below_step Zc hb); have n1_ := Aside0.mk (hbox); have n2_ := Aside0.mk ((Zd : w.heap.size ≤ gb172)); have n3_ := Aside0.mk ((Zd : w.heap.size ≤ gb172)); clear HB; have HB := n0_; have BK172 := n1_; have GW172 := n2_; have GE172 := n3_; clear n0_ n1_ n2_ n3_; clear hb hbox hg) | ((with_reducible refine gate_dst (N := 4) rfl ?_); refine boxZ 4 #[.slice none 0 0, .slice none 0 0, .slice none 0 0] 32 ?_; intro gb173 hg w44 hbox hb; have n0_ := (have z0_ := BK172; bkZ hb); have n1_ := Aside0.mk (below_step (have z0_ := GE172; Ze) hb); have n2_ := Aside0.mk (hbox); have n3_ := Aside0.mk (((have z0_ := GE172; Zf) : w.heap.size ≤ gb173)); have n4_ := Aside0.mk (((have z0_ := GE172; Zf) : w.heap.size ≤ gb173)); have n5_ := Aside0.mk (((have z0_ := BK172; Zay) : gb172 ≠ gb173)); have n6_ := Aside0.mk (((have z0_ := BK172; Zaz) : gb173 ≠ gb172)); clear BK172; clear HB; have BK172 := n0_; have HB := n1_; have BK173 := n2_; have GW173 := n3_; have GE173 := n4_; have NB172_173 := n5_; have NB173_172 := n6_; clear n0_ n1_ n2_ n3_ n4_ n5_ n6_; clear hb hbox hg; have hnb45 := NB172_173.out; have hnc45 := NB173_172.out; obtain ⟨_, _, _, _, _, _⟩ := cz3 BK172) | ((with_reducible refine gate_callee (f := 36) rfl ?_); refine goesL_ (some 7) rfl rfl Try.func36 Zj rfl #[.agg #[.slice A0_0 l0_0.length c0_0, .slice A0_1 l0_1.length c0_1, .slice A0_2 l0_2.length c0_2]] rfl Zo ?_; (with_reducible refine (spec_IsShow.calls k _ _ l0_0 _ _ l0_1 _ _ l0_2 false _ ?side1 ?side2 ?side3 ?side4 ?side5 ?side6 A3.out).mono ?_); (case side1 => exact (have z0_ := HR0_0; Zae)); (case side2 => exact HC0_0.out); (case side3 => exact (have z0_ := HR0_1; Zae)); (case side4 => exact HC0_1.out); (case side5 => exact (have z0_ := HR0_2; Zae)); (case side6 => exact HC0_2.out); rintro e w47 ⟨rfl, hb⟩; refine ⟨_, rfl, ?_⟩; replace BK172 := (have z0_ := BK172; bkZ hb); replace BK173 := (have z0_ := BK173; bkZ hb); replace HB := Aside0.mk (below_step (have z0_ := GE172; have z1_ := GE173; Zh) hb); (try clear hb); (try clear hb2); (try clear hk); (try clear hi); obtain ⟨_, _, _, _, _, _⟩ := cz3 BK173))
  refine bodyPost_ret (results_ct rfl _ _ gb173 32 #[.slice none 0 0, .slice none 0 0, .slice none 0 0] (0, 0) _ rfl (have z0_ := BK173; Zbd) Try.underlying32 rfl Zj) rfl ?_; exact ⟨_, _, _, Zk, Zn, Zn, Zn, (have z0_ := GE172; have z1_ := GE173; Zh)⟩
def impl_within.f (a0 : Int) (a1 : Int) (a2 : Int) : Option (Bool) := if a1 ≤ a0 then (some (decide (a0 ≤ a2))) else (some false)
set_option maxHeartbeats 8000000 in
set_option maxRecDepth 100000 in
theorem impl_within.calls (a0 : Int) (a1 : Int) (a2 : Int) (r : Bool) (w : World) (h : impl_within.f a0 a1 a2 = some r) :
  Calls Try.prog 89 #[.int .i64 a0, .int .i64 a1, .int .i64 a2] w fun e w' => e = .returned (.bool r) ∧ Drawn0 w w' := by
 have H : (if a1 ≤ a0 then (some (decide (a0 ≤ a2))) else (some false)) = some r := h; clear h
 by_cases c4 : a1 ≤ a0
 ·rw [if_pos c4] at H
  have c4b0 := decide_eq_true c4; clear c4; obtain rfl := Option.some.inj H
  go_enter Try.func89, Try.ntmps89
  go_wp2
  go_ret
  exact ⟨Za, Zb⟩
 ·rw [if_neg c4] at H
  have c4b0 := decide_eq_false c4; clear c4; obtain rfl := Option.some.inj H
  go_enter Try.func89, Try.ntmps89
  go_wp2
  go_ret
  exact ⟨Za, Zb⟩
def impl_isIndex.f (a0 : Int) (a1 : Int) : Option (Bool) := (impl_within.f a0 0 (wrap64 (a1 - 1))).bind fun t306 => (some t306)
set_option maxHeartbeats 8000000 in
set_option maxRecDepth 100000 in
theorem impl_isIndex.calls (a0 : Int) (a1 : Int) (r : Bool) (w : World) (h : impl_isIndex.f a0 a1 = some r) :
  Calls Try.prog 73 #[.int .i64 a0, .int .i64 a1] w fun e w' => e = .returned (.bool r) ∧ Drawn0 w w' := by
 have H : ((impl_within.f a0 0 (wrap64 (a1 - 1))).bind fun t306 => (some t306)) = some r := h; clear h; replace H := Option.bind_eq_some_iff.mp H; obtain ⟨t306, A30, H⟩ := H; have A3 := Aside0.mk A30; clear A30; obtain rfl := Option.some.inj H
 go_enter Try.func73, Try.ntmps73
 go_wp2_with (first | ((with_reducible refine gate_callee (f := 89) rfl ?_); refine goesL_ (some 8) rfl rfl Try.func89 Zj rfl #[.int .i64 a0, .int .i64 0, .int .i64 (wrap64 (a1 - 1))] rfl Zo ?_; (with_reducible refine (impl_within.calls a0 0 (wrap64 (a1 - 1)) t306 _ A3.out).mono ?_); rintro e w' ⟨rfl, ⟨nd, rfl⟩⟩; refine ⟨_, rfl, ?_⟩))
 go_ret
 exact ⟨Za, Zb⟩
mutual
def impl_IsScore.j0 : Nat → List (S108) → Bool → Option (Bool)
 | 0, _, _ => none
 | k + 1, x0, x12 => if x12 = true then (some false) else (impl_IsScore.l0 k x0 (x0.length : Int) 0)
def impl_IsScore.l0 : Nat → List (S108) → Int → Int → Option (Bool)
 | 0, _, _, _ => none
 | k + 1, x13, x14, x15 => if x15 < x14 then (if 0 ≤ x15 then (if x15 < (x13.length : Int) then ((impl_within.f ((rd_T108 x13 x15).f0) 1 16).bind fun t288 => (if t288 = true then ((impl_within.f ((rd_T108 x13 x15).f1) 100 5000).bind fun t289 => (if t289 = true then (impl_IsScore.l0 k x13 x14 (wrap64 (x15 + 1))) else (some false))) else (some false))) else (none)) else (none)) else (some true)
end
def impl_IsScore.f (k : Nat) (l0 : List (S108)) : Option (Bool) := if (l0.length : Int) < 1 then (impl_IsScore.j0 k l0 true) else (impl_IsScore.j0 k l0 (decide ((l0.length : Int) > 20)))
set_option maxHeartbeats 8000000 in
set_option maxRecDepth 100000 in
theorem impl_IsScore.calls (k : Nat) (A0 : Option Addr) (c0 : Nat) (l0 : List (S108)) (r : Bool) (w : World) (hr0 : Kd.C k108 w A0 l0.length l0) (hc0 : l0.length ≤ c0) (h : impl_IsScore.f k l0 = some r) :
  Calls Try.prog 96 #[.slice A0 l0.length c0] w fun e w' => e = .returned (.bool r) ∧ Below w.heap.size w w' := by
 have hu108 := Try.underlying108; have HR0 := Aside0.mk hr0; have HC0 := Aside0.mk hc0; clear hr0 hc0; have HB := Aside0.mk (Below.refl w.heap.size w); have H : (if (l0.length : Int) < 1 then (impl_IsScore.j0 k l0 true) else (impl_IsScore.j0 k l0 (decide ((l0.length : Int) > 20)))) = some r := h; clear h; have HC2 := Aside0.mk H; clear H
 go_enter Try.func96, Try.ntmps96
 go_upto_region 1 with (fail)
 go_cut [12] (fun v12 wc => ∃ (kq : Nat) (x12_1 : Bool), v12 = .bool x12_1 ∧ Aside0 (impl_IsScore.j0 kq l0 x12_1 = some r) ∧ Aside0 (kq ≤ k) ∧ Aside0 (Below w.heap.size w wc))
 case first =>
  have H := HC2.out; clear HC2
  by_cases c3 : (l0.length : Int) < 1
  ·rw [if_pos c3] at H
   have c3b0 := decide_eq_true c3; have c3b1 : decide (l0.length < 1) = true := decide_eq_true (by omega); clear c3
   (first | rw [c3b0] | (simp only [i64_w, i32_w]; rw [c3b0]) | skip)
   have H' := Aside0.mk H; clear H
   go_wp2
   go_meet
   case rel => exact ⟨_, (true), Za, H', ⟨Zm⟩, ⟨Zc⟩⟩
  ·rw [if_neg c3] at H
   have c3b0 := decide_eq_false c3; have c3b1 : decide (l0.length < 1) = false := decide_eq_false (by omega); clear c3
   (first | rw [c3b0] | (simp only [i64_w, i32_w]; rw [c3b0]) | skip)
   have H' := Aside0.mk H; clear H
   go_wp2
   go_meet
   case rel => exact ⟨_, (decide ((l0.length : Int) > 20)), Za, H', ⟨Zm⟩, ⟨Zc⟩⟩
 case rest =>
  clear HC2
  try clear p2
  try clear c3
  try clear c3b0
  try clear c3b1
  obtain ⟨kq, x12_1, rfl, HA, HJ1, HB⟩ := hcut
  cases kq with
  | zero => exact absurd HA.out (by simp [impl_IsScore.j0])
  | succ kj1 =>
   have H := HA.out; clear HA; simp only [impl_IsScore.j0] at H
   by_cases c4 : x12_1 = true
   ·subst c4
    have H1 : (some false) = some r := by rw [if_pos rfl] at H; exact H
    clear H; have H := H1; clear H1; obtain rfl := Option.some.inj H
    go_wp2
    go_ret
    exact ⟨Zk, Zc⟩
   ·replace c4 := Bool.eq_false_iff.mpr c4
    subst c4
    have H1 : (impl_IsScore.l0 kj1 l0 (l0.length : Int) 0) = some r := by rw [if_neg (show ¬ (false = true) by decide)] at H; exact H
    clear H; have H := H1; clear H1; have H' := Aside0.mk H; clear H
    go_wp2
    go_loopg [15] kj1 (fun kq v15 w' => ∃ (x15_2 : Int), v15 = .int .i64 x15_2 ∧ Aside0 (impl_IsScore.l0 kq l0 (l0.length : Int) x15_2 = some r) ∧ Aside0 (kq ≤ kj1) ∧ Aside0 (Below w.heap.size w w'))
    case atStart => exact ⟨(0), Za, H', ⟨Nat.le_refl _⟩, ⟨Zc⟩⟩
    case round =>
     clear H'
     try clear p2
     try clear c3
     try clear c3b0
     try clear c3b1
     try clear c4
     try clear p2
     obtain ⟨x15_2, rfl, HA, HK2, HB⟩ := hrel
     cases gk with
     | zero => exact absurd HA.out (by simp [impl_IsScore.l0])
     | succ k2 =>
      have H := HA.out; clear HA; simp only [impl_IsScore.l0] at H
      by_cases c5 : x15_2 < (l0.length : Int)
      ·rw [if_pos c5] at H
       have c5b0 := decide_eq_true c5; clear c5
       by_cases c6 : 0 ≤ x15_2
       ·rw [if_pos c6] at H
        have c6b0 := decide_eq_true c6; clear c6
        by_cases c7 : x15_2 < (l0.length : Int)
        ·rw [if_pos c7] at H
         have c7b0 := decide_eq_true c7; clear c7; replace H := Option.bind_eq_some_iff.mp H; obtain ⟨t288, A80, H⟩ := H; have A8 := Aside0.mk A80; clear A80
         by_cases c9 : t288 = true
         ·subst c9
          have H1 : ((impl_within.f ((rd_T108 l0 x15_2).f1) 100 5000).bind fun t289 => (if t289 = true then (impl_IsScore.l0 k2 l0 (l0.length : Int) (wrap64 (x15_2 + 1))) else (some false))) = some r := by rw [if_pos rfl] at H; exact H
          clear H; have H := H1; clear H1; replace H := Option.bind_eq_some_iff.mp H; obtain ⟨t289, A100, H⟩ := H; have A10 := Aside0.mk A100; clear A100
          by_cases c11 : t289 = true
          ·subst c11
           have H1 : (impl_IsScore.l0 k2 l0 (l0.length : Int) (wrap64 (x15_2 + 1))) = some r := by rw [if_pos rfl] at H; exact H
           clear H; have H := H1; clear H1; have H' := Aside0.mk H; clear H; have p286 : 0 ≤ (x15_2 : Int) := of_decide_eq_true Zp; have q286 : x15_2 < (l0.length : Int) := of_decide_eq_true Zp; obtain ⟨ad286, e286, hx286_0, hx286_1⟩ := at_T108 HR0.out x15_2 p286 q286
           cases e286
           replace hx286_0 := cbH HB hx286_0; replace hx286_1 := cbH HB hx286_1; replace p286 := eq_true p286; replace q286 := eq_true q286
           go_wp2_with (first | ((with_reducible refine gate_dst (N := 4) rfl ?_); (try (refine gate_guard (by rfl) ?_; dsimp only)); refine boxZ 4 #[.int .i64 0, .int .i64 0] 108 ?_; intro gb287 hg w12 hbox hb; have n0_ := Aside0.mk (below_step Zc hb); have n1_ := Aside0.mk (hbox); have n2_ := Aside0.mk ((Zd : w.heap.size ≤ gb287)); have n3_ := Aside0.mk ((Zd : w.heap.size ≤ gb287)); clear HB; have HB := n0_; have BK287 := n1_; have GW287 := n2_; have GE287 := n3_; clear n0_ n1_ n2_ n3_; clear hb hbox hg; obtain ⟨_, _, _, _⟩ := cz2 BK287) | ((with_reducible refine gate_callee (f := 89) rfl ?_); refine goesL_ (some 21) rfl rfl Try.func89 Zj rfl #[.int .i64 ((rd_T108 l0 x15_2).f0), .int .i64 1, .int .i64 16] rfl Zo ?_; (with_reducible refine (impl_within.calls ((rd_T108 l0 x15_2).f0) 1 16 true _ A8.out).mono ?_); rintro e w' ⟨rfl, ⟨nd, rfl⟩⟩; refine ⟨_, rfl, ?_⟩) | (go_at_call 89; (with_reducible refine (impl_within.calls ((rd_T108 l0 x15_2).f1) 100 5000 true _ A10.out).mono ?_); rintro e w' ⟨rfl, ⟨nd, rfl⟩⟩))
           go_roundg k2
           case measure => have := HJ1.out; have := HK2.out; omega
           case rel => exact ⟨(wrap64 (x15_2 + 1)), Za, H', ⟨by have := HJ1.out; have := HK2.out; omega⟩, ⟨(have z0_ := GE287; Ze)⟩⟩
          ·replace c11 := Bool.eq_false_iff.mpr c11
           subst c11
           have H1 : (some false) = some r := by rw [if_neg (show ¬ (false = true) by decide)] at H; exact H
           clear H; have H := H1; clear H1; obtain rfl := Option.some.inj H; have p286 : 0 ≤ (x15_2 : Int) := of_decide_eq_true Zp; have q286 : x15_2 < (l0.length : Int) := of_decide_eq_true Zp; obtain ⟨ad286, e286, hx286_0, hx286_1⟩ := at_T108 HR0.out x15_2 p286 q286
           cases e286
           replace hx286_0 := cbH HB hx286_0; replace hx286_1 := cbH HB hx286_1; replace p286 := eq_true p286; replace q286 := eq_true q286
           go_wp2_with (first | ((with_reducible refine gate_dst (N := 4) rfl ?_); (try (refine gate_guard (by rfl) ?_; dsimp only)); refine boxZ 4 #[.int .i64 0, .int .i64 0] 108 ?_; intro gb287 hg w14 hbox hb; have n0_ := Aside0.mk (below_step Zc hb); have n1_ := Aside0.mk (hbox); have n2_ := Aside0.mk ((Zd : w.heap.size ≤ gb287)); have n3_ := Aside0.mk ((Zd : w.heap.size ≤ gb287)); clear HB; have HB := n0_; have BK287 := n1_; have GW287 := n2_; have GE287 := n3_; clear n0_ n1_ n2_ n3_; clear hb hbox hg; obtain ⟨_, _, _, _⟩ := cz2 BK287) | ((with_reducible refine gate_callee (f := 89) rfl ?_); refine goesL_ (some 21) rfl rfl Try.func89 Zj rfl #[.int .i64 ((rd_T108 l0 x15_2).f0), .int .i64 1, .int .i64 16] rfl Zo ?_; (with_reducible refine (impl_within.calls ((rd_T108 l0 x15_2).f0) 1 16 true _ A8.out).mono ?_); rintro e w' ⟨rfl, ⟨nd, rfl⟩⟩; refine ⟨_, rfl, ?_⟩) | (go_at_call 89; (with_reducible refine (impl_within.calls ((rd_T108 l0 x15_2).f1) 100 5000 false _ A10.out).mono ?_); rintro e w' ⟨rfl, ⟨nd, rfl⟩⟩))
           go_ret
           exact ⟨Zk, (have z0_ := GE287; Ze)⟩
         ·replace c9 := Bool.eq_false_iff.mpr c9
          subst c9
          have H1 : (some false) = some r := by rw [if_neg (show ¬ (false = true) by decide)] at H; exact H
          clear H; have H := H1; clear H1; obtain rfl := Option.some.inj H; have p286 : 0 ≤ (x15_2 : Int) := of_decide_eq_true Zp; have q286 : x15_2 < (l0.length : Int) := of_decide_eq_true Zp; obtain ⟨ad286, e286, hx286_0, hx286_1⟩ := at_T108 HR0.out x15_2 p286 q286
          cases e286
          replace hx286_0 := cbH HB hx286_0; replace hx286_1 := cbH HB hx286_1; replace p286 := eq_true p286; replace q286 := eq_true q286
          go_wp2_with (first | ((with_reducible refine gate_dst (N := 4) rfl ?_); (try (refine gate_guard (by rfl) ?_; dsimp only)); refine boxZ 4 #[.int .i64 0, .int .i64 0] 108 ?_; intro gb287 hg w16 hbox hb; have n0_ := Aside0.mk (below_step Zc hb); have n1_ := Aside0.mk (hbox); have n2_ := Aside0.mk ((Zd : w.heap.size ≤ gb287)); have n3_ := Aside0.mk ((Zd : w.heap.size ≤ gb287)); clear HB; have HB := n0_; have BK287 := n1_; have GW287 := n2_; have GE287 := n3_; clear n0_ n1_ n2_ n3_; clear hb hbox hg; obtain ⟨_, _, _, _⟩ := cz2 BK287) | ((with_reducible refine gate_callee (f := 89) rfl ?_); refine goesL_ (some 21) rfl rfl Try.func89 Zj rfl #[.int .i64 ((rd_T108 l0 x15_2).f0), .int .i64 1, .int .i64 16] rfl Zo ?_; (with_reducible refine (impl_within.calls ((rd_T108 l0 x15_2).f0) 1 16 false _ A8.out).mono ?_); rintro e w' ⟨rfl, ⟨nd, rfl⟩⟩; refine ⟨_, rfl, ?_⟩))
          go_ret
          exact ⟨Zk, (have z0_ := GE287; Ze)⟩
        ·rw [if_neg c7] at H
         exact absurd H (by simp)
       ·rw [if_neg c6] at H
        exact absurd H (by simp)
      ·rw [if_neg c5] at H
       have c5b0 := decide_eq_false c5; clear c5; obtain rfl := Option.some.inj H
       go_wp2
       go_ret
       exact ⟨Zk, Zc⟩
mutual
def impl_IsWord.j0 : Nat → ByteArray → Bool → Option (Bool)
 | 0, _, _ => none
 | k + 1, x0, x11 => if x11 = true then (some false) else (impl_IsWord.l0 k x0 0)
def impl_IsWord.l0 : Nat → ByteArray → Int → Option (Bool)
 | 0, _, _ => none
 | k + 1, x0, x3 => if x3 < (x0.size : Int) then (if 0 ≤ x3 then (if (bt x0 x3) < 97 then (some false) else (if (bt x0 x3) > 122 then (some false) else (impl_IsWord.l0 k x0 (wrap64 (x3 + 1))))) else (none)) else (some true)
end
def impl_IsWord.f (k : Nat) (a0 : ByteArray) : Option (Bool) := if (a0.size : Int) < 1 then (impl_IsWord.j0 k a0 true) else (impl_IsWord.j0 k a0 (decide ((a0.size : Int) > 16)))
set_option maxHeartbeats 8000000 in
set_option maxRecDepth 100000 in
theorem impl_IsWord.calls (k : Nat) (a0 : ByteArray) (r : Bool) (w : World) (h : impl_IsWord.f k a0 = some r) :
  Calls Try.prog 135 #[.string a0] w fun e w' => e = .returned (.bool r) ∧ Drawn0 w w' := by
 have H : (if (a0.size : Int) < 1 then (impl_IsWord.j0 k a0 true) else (impl_IsWord.j0 k a0 (decide ((a0.size : Int) > 16)))) = some r := h; clear h; have HC2 := Aside0.mk H; clear H
 go_enter Try.func135, Try.ntmps135
 go_upto_region 1 with (fail)
 go_cut [11] (fun v11 wc => ∃ (kq : Nat) (x11_1 : Bool), v11 = .bool x11_1 ∧ Aside0 (impl_IsWord.j0 kq a0 x11_1 = some r) ∧ Aside0 (kq ≤ k) ∧ Drawn0 w wc)
 case first =>
  have H := HC2.out; clear HC2
  by_cases c3 : (a0.size : Int) < 1
  ·rw [if_pos c3] at H
   have c3b0 := decide_eq_true c3; have c3b1 : decide (a0.size < 1) = true := decide_eq_true (by omega); clear c3
   (first | rw [c3b0] | (simp only [i64_w, i32_w]; rw [c3b0]) | skip)
   have H' := Aside0.mk H; clear H
   go_wp2
   go_meet
   case rel => exact ⟨_, (true), Za, H', ⟨Zm⟩, Zb⟩
  ·rw [if_neg c3] at H
   have c3b0 := decide_eq_false c3; have c3b1 : decide (a0.size < 1) = false := decide_eq_false (by omega); clear c3
   (first | rw [c3b0] | (simp only [i64_w, i32_w]; rw [c3b0]) | skip)
   have H' := Aside0.mk H; clear H
   go_wp2
   go_meet
   case rel => exact ⟨_, (decide ((a0.size : Int) > 16)), Za, H', ⟨Zm⟩, Zb⟩
 case rest =>
  clear HC2
  try clear c1
  try clear p2
  try clear c3
  try clear c3b0
  try clear c3b1
  obtain ⟨kq, x11_1, rfl, HA, HJ1, ⟨mc1, rfl⟩⟩ := hcut
  cases kq with
  | zero => exact absurd HA.out (by simp [impl_IsWord.j0])
  | succ kj1 =>
   have H := HA.out; clear HA; simp only [impl_IsWord.j0] at H
   by_cases c4 : x11_1 = true
   ·subst c4
    have H1 : (some false) = some r := by rw [if_pos rfl] at H; exact H
    clear H; have H := H1; clear H1; obtain rfl := Option.some.inj H
    go_wp2
    go_ret
    exact ⟨Za, Zb⟩
   ·replace c4 := Bool.eq_false_iff.mpr c4
    subst c4
    have H1 : (impl_IsWord.l0 kj1 a0 0) = some r := by rw [if_neg (show ¬ (false = true) by decide)] at H; exact H
    clear H; have H := H1; clear H1; have H' := Aside0.mk H; clear H
    go_wp2
    go_loopg [3] kj1 (fun kq v3 w' => ∃ (x3_2 : Int), v3 = .int .i64 x3_2 ∧ Aside0 (impl_IsWord.l0 kq a0 x3_2 = some r) ∧ Aside0 (kq ≤ kj1) ∧ Drawn0 w w')
    case atStart => exact ⟨(0), Za, H', ⟨Nat.le_refl _⟩, Zb⟩
    case round =>
     clear H'
     try clear c1
     try clear p2
     try clear c3
     try clear c3b0
     try clear c3b1
     try clear c4
     try clear p2
     obtain ⟨x3_2, rfl, HA, HK2, ⟨m2, rfl⟩⟩ := hrel
     cases gk with
     | zero => exact absurd HA.out (by simp [impl_IsWord.l0])
     | succ k2 =>
      have H := HA.out; clear HA; simp only [impl_IsWord.l0] at H
      by_cases c5 : x3_2 < (a0.size : Int)
      ·rw [if_pos c5] at H
       have c5b0 := decide_eq_true c5; clear c5
       by_cases c6 : 0 ≤ x3_2
       ·rw [if_pos c6] at H
        have c6b0 := decide_eq_true c6; clear c6
        by_cases c8 : (bt a0 x3_2) < 97
        ·rw [if_pos c8] at H
         have c8b0 := decide_eq_true c8; clear c8; obtain rfl := Option.some.inj H; have p7 : 0 ≤ (x3_2 : Int) := of_decide_eq_true Zp; have q7 : x3_2 < (a0.size : Int) := of_decide_eq_true Zp; have hx7 := bt_at a0 x3_2; replace p7 := eq_true p7; replace q7 := eq_true q7
         go_wp2
         go_ret
         exact ⟨Za, Zb⟩
        ·rw [if_neg c8] at H
         have c8b0 := decide_eq_false c8; clear c8
         by_cases c10 : (bt a0 x3_2) > 122
         ·rw [if_pos c10] at H
          have c10b0 : decide (122 < (bt a0 x3_2)) = true := decide_eq_true c10; clear c10; obtain rfl := Option.some.inj H; have p7 : 0 ≤ (x3_2 : Int) := of_decide_eq_true Zp; have q7 : x3_2 < (a0.size : Int) := of_decide_eq_true Zp; have hx7 := bt_at a0 x3_2; replace p7 := eq_true p7; replace q7 := eq_true q7; have p9 : 0 ≤ (x3_2 : Int) := of_decide_eq_true Zp; have q9 : x3_2 < (a0.size : Int) := of_decide_eq_true Zp; have hx9 := bt_at a0 x3_2; replace p9 := eq_true p9; replace q9 := eq_true q9
          go_wp2
          go_ret
          exact ⟨Za, Zb⟩
         ·rw [if_neg c10] at H
          have c10b0 : decide (122 < (bt a0 x3_2)) = false := decide_eq_false c10; clear c10; have H' := Aside0.mk H; clear H; have p7 : 0 ≤ (x3_2 : Int) := of_decide_eq_true Zp; have q7 : x3_2 < (a0.size : Int) := of_decide_eq_true Zp; have hx7 := bt_at a0 x3_2; replace p7 := eq_true p7; replace q7 := eq_true q7; have p9 : 0 ≤ (x3_2 : Int) := of_decide_eq_true Zp; have q9 : x3_2 < (a0.size : Int) := of_decide_eq_true Zp; have hx9 := bt_at a0 x3_2; replace p9 := eq_true p9; replace q9 := eq_true q9
          go_wp2
          go_roundg k2
          case measure => have := HJ1.out; have := HK2.out; omega
          case rel => exact ⟨(wrap64 (x3_2 + 1)), Za, H', ⟨by have := HJ1.out; have := HK2.out; omega⟩, Zb⟩
       ·rw [if_neg c6] at H
        exact absurd H (by simp)
      ·rw [if_neg c5] at H
       have c5b0 := decide_eq_false c5; clear c5; obtain rfl := Option.some.inj H
       go_wp2
       go_ret
       exact ⟨Za, Zb⟩
def impl_IsArticle.f (k : Nat) (a0_0 : ByteArray) (a0_1 : Int) (a0_2 : Int) (a0_3 : Int) (a0_4 : Int) (a0_5 : Int) (a0_6 : Int) (a0_7 : Int) (a0_8 : Int) : Option (Bool) := (impl_IsWord.f k a0_0).bind fun t291 => (if t291 = true then ((impl_within.f a0_1 0 3).bind fun t292 => (if t292 = true then ((impl_within.f a0_2 20 300).bind fun t293 => (if t293 = true then ((impl_within.f a0_3 0 10000).bind fun t294 => (if t294 = true then ((impl_within.f a0_4 0 a0_3).bind fun t295 => (if t295 = true then ((impl_within.f a0_5 1 50).bind fun t296 => (if t296 = true then ((impl_within.f a0_6 0 10000).bind fun t297 => (if t297 = true then ((impl_within.f a0_7 1 100000).bind fun t298 => (if t298 = true then ((impl_within.f a0_8 0 3).bind fun t299 => (some t299)) else (some false))) else (some false))) else (some false))) else (some false))) else (some false))) else (some false))) else (some false))) else (some false))
set_option maxHeartbeats 8000000 in
set_option maxRecDepth 100000 in
theorem impl_IsArticle.calls (k : Nat) (a0_0 : ByteArray) (a0_1 : Int) (a0_2 : Int) (a0_3 : Int) (a0_4 : Int) (a0_5 : Int) (a0_6 : Int) (a0_7 : Int) (a0_8 : Int) (r : Bool) (w : World) (h : impl_IsArticle.f k a0_0 a0_1 a0_2 a0_3 a0_4 a0_5 a0_6 a0_7 a0_8 = some r) :
  Calls Try.prog 129 #[.agg #[.string a0_0, .int .i64 a0_1, .int .i64 a0_2, .int .i64 a0_3, .int .i64 a0_4, .int .i64 a0_5, .int .i64 a0_6, .int .i64 a0_7, .int .i64 a0_8]] w fun e w' => e = .returned (.bool r) ∧ Below w.heap.size w w' := by
 have hu92 := Try.underlying92; have HB := Aside0.mk (Below.refl w.heap.size w); have H : ((impl_IsWord.f k a0_0).bind fun t291 => (if t291 = true then ((impl_within.f a0_1 0 3).bind fun t292 => (if t292 = true then ((impl_within.f a0_2 20 300).bind fun t293 => (if t293 = true then ((impl_within.f a0_3 0 10000).bind fun t294 => (if t294 = true then ((impl_within.f a0_4 0 a0_3).bind fun t295 => (if t295 = true then ((impl_within.f a0_5 1 50).bind fun t296 => (if t296 = true then ((impl_within.f a0_6 0 10000).bind fun t297 => (if t297 = true then ((impl_within.f a0_7 1 100000).bind fun t298 => (if t298 = true then ((impl_within.f a0_8 0 3).bind fun t299 => (some t299)) else (some false))) else (some false))) else (some false))) else (some false))) else (some false))) else (some false))) else (some false))) else (some false))) = some r := h; clear h; replace H := Option.bind_eq_some_iff.mp H; obtain ⟨t291, A20, H⟩ := H; have A2 := Aside0.mk A20; clear A20
 by_cases c3 : t291 = true
 ·subst c3
  have H1 : ((impl_within.f a0_1 0 3).bind fun t292 => (if t292 = true then ((impl_within.f a0_2 20 300).bind fun t293 => (if t293 = true then ((impl_within.f a0_3 0 10000).bind fun t294 => (if t294 = true then ((impl_within.f a0_4 0 a0_3).bind fun t295 => (if t295 = true then ((impl_within.f a0_5 1 50).bind fun t296 => (if t296 = true then ((impl_within.f a0_6 0 10000).bind fun t297 => (if t297 = true then ((impl_within.f a0_7 1 100000).bind fun t298 => (if t298 = true then ((impl_within.f a0_8 0 3).bind fun t299 => (some t299)) else (some false))) else (some false))) else (some false))) else (some false))) else (some false))) else (some false))) else (some false))) = some r := by rw [if_pos rfl] at H; exact H
  clear H; have H := H1; clear H1; replace H := Option.bind_eq_some_iff.mp H; obtain ⟨t292, A40, H⟩ := H; have A4 := Aside0.mk A40; clear A40
  by_cases c5 : t292 = true
  ·subst c5
   have H1 : ((impl_within.f a0_2 20 300).bind fun t293 => (if t293 = true then ((impl_within.f a0_3 0 10000).bind fun t294 => (if t294 = true then ((impl_within.f a0_4 0 a0_3).bind fun t295 => (if t295 = true then ((impl_within.f a0_5 1 50).bind fun t296 => (if t296 = true then ((impl_within.f a0_6 0 10000).bind fun t297 => (if t297 = true then ((impl_within.f a0_7 1 100000).bind fun t298 => (if t298 = true then ((impl_within.f a0_8 0 3).bind fun t299 => (some t299)) else (some false))) else (some false))) else (some false))) else (some false))) else (some false))) else (some false))) = some r := by rw [if_pos rfl] at H; exact H
   clear H; have H := H1; clear H1; replace H := Option.bind_eq_some_iff.mp H; obtain ⟨t293, A60, H⟩ := H; have A6 := Aside0.mk A60; clear A60
   by_cases c7 : t293 = true
   ·subst c7
    have H1 : ((impl_within.f a0_3 0 10000).bind fun t294 => (if t294 = true then ((impl_within.f a0_4 0 a0_3).bind fun t295 => (if t295 = true then ((impl_within.f a0_5 1 50).bind fun t296 => (if t296 = true then ((impl_within.f a0_6 0 10000).bind fun t297 => (if t297 = true then ((impl_within.f a0_7 1 100000).bind fun t298 => (if t298 = true then ((impl_within.f a0_8 0 3).bind fun t299 => (some t299)) else (some false))) else (some false))) else (some false))) else (some false))) else (some false))) = some r := by rw [if_pos rfl] at H; exact H
    clear H; have H := H1; clear H1; replace H := Option.bind_eq_some_iff.mp H; obtain ⟨t294, A80, H⟩ := H; have A8 := Aside0.mk A80; clear A80
    by_cases c9 : t294 = true
    ·subst c9
     have H1 : ((impl_within.f a0_4 0 a0_3).bind fun t295 => (if t295 = true then ((impl_within.f a0_5 1 50).bind fun t296 => (if t296 = true then ((impl_within.f a0_6 0 10000).bind fun t297 => (if t297 = true then ((impl_within.f a0_7 1 100000).bind fun t298 => (if t298 = true then ((impl_within.f a0_8 0 3).bind fun t299 => (some t299)) else (some false))) else (some false))) else (some false))) else (some false))) = some r := by rw [if_pos rfl] at H; exact H
     clear H; have H := H1; clear H1; replace H := Option.bind_eq_some_iff.mp H; obtain ⟨t295, A100, H⟩ := H; have A10 := Aside0.mk A100; clear A100
     by_cases c11 : t295 = true
     ·subst c11
      have H1 : ((impl_within.f a0_5 1 50).bind fun t296 => (if t296 = true then ((impl_within.f a0_6 0 10000).bind fun t297 => (if t297 = true then ((impl_within.f a0_7 1 100000).bind fun t298 => (if t298 = true then ((impl_within.f a0_8 0 3).bind fun t299 => (some t299)) else (some false))) else (some false))) else (some false))) = some r := by rw [if_pos rfl] at H; exact H
      clear H; have H := H1; clear H1; replace H := Option.bind_eq_some_iff.mp H; obtain ⟨t296, A120, H⟩ := H; have A12 := Aside0.mk A120; clear A120
      by_cases c13 : t296 = true
      ·subst c13
       have H1 : ((impl_within.f a0_6 0 10000).bind fun t297 => (if t297 = true then ((impl_within.f a0_7 1 100000).bind fun t298 => (if t298 = true then ((impl_within.f a0_8 0 3).bind fun t299 => (some t299)) else (some false))) else (some false))) = some r := by rw [if_pos rfl] at H; exact H
       clear H; have H := H1; clear H1; replace H := Option.bind_eq_some_iff.mp H; obtain ⟨t297, A140, H⟩ := H; have A14 := Aside0.mk A140; clear A140
       by_cases c15 : t297 = true
       ·subst c15
        have H1 : ((impl_within.f a0_7 1 100000).bind fun t298 => (if t298 = true then ((impl_within.f a0_8 0 3).bind fun t299 => (some t299)) else (some false))) = some r := by rw [if_pos rfl] at H; exact H
        clear H; have H := H1; clear H1; replace H := Option.bind_eq_some_iff.mp H; obtain ⟨t298, A160, H⟩ := H; have A16 := Aside0.mk A160; clear A160
        by_cases c17 : t298 = true
        ·subst c17
         have H1 : ((impl_within.f a0_8 0 3).bind fun t299 => (some t299)) = some r := by rw [if_pos rfl] at H; exact H
         clear H; have H := H1; clear H1; replace H := Option.bind_eq_some_iff.mp H; obtain ⟨t299, A180, H⟩ := H; have A18 := Aside0.mk A180; clear A180; obtain rfl := Option.some.inj H
         go_enter Try.func129, Try.ntmps129
         go_wp2_with (first | ((with_reducible refine gate_dst (N := 1) rfl ?_); refine boxZ 1 #[.string a0_0, .int .i64 a0_1, .int .i64 a0_2, .int .i64 a0_3, .int .i64 a0_4, .int .i64 a0_5, .int .i64 a0_6, .int .i64 a0_7, .int .i64 a0_8] 92 ?_; intro gb290 hg w19 hbox hb; have n0_ := Aside0.mk (below_step Zc hb); have n1_ := Aside0.mk (hbox); have n2_ := Aside0.mk ((Zd : w.heap.size ≤ gb290)); have n3_ := Aside0.mk ((Zd : w.heap.size ≤ gb290)); clear HB; have HB := n0_; have BK290 := n1_; have GW290 := n2_; have GE290 := n3_; clear n0_ n1_ n2_ n3_; clear hb hbox hg; obtain ⟨_, _, _, _, _, _, _, _, _, _, _, _, _, _, _, _, _, _⟩ := cz9 BK290) | ((with_reducible refine gate_callee (f := 135) rfl ?_); refine goesL_ (some 5) rfl rfl Try.func135 Zj rfl #[.string a0_0] rfl Zo ?_; (with_reducible refine (impl_IsWord.calls k a0_0 true _ A2.out).mono ?_); rintro e w' ⟨rfl, ⟨nd, rfl⟩⟩; refine ⟨_, rfl, ?_⟩) | (go_at_call 89; (with_reducible refine (impl_within.calls a0_1 0 3 true _ A4.out).mono ?_); rintro e w' ⟨rfl, ⟨nd, rfl⟩⟩) | (go_at_call 89; (with_reducible refine (impl_within.calls a0_2 20 300 true _ A6.out).mono ?_); rintro e w' ⟨rfl, ⟨nd, rfl⟩⟩) | (go_at_call 89; (with_reducible refine (impl_within.calls a0_3 0 10000 true _ A8.out).mono ?_); rintro e w' ⟨rfl, ⟨nd, rfl⟩⟩) | (go_at_call 89; (with_reducible refine (impl_within.calls a0_4 0 a0_3 true _ A10.out).mono ?_); rintro e w' ⟨rfl, ⟨nd, rfl⟩⟩) | (go_at_call 89; (with_reducible refine (impl_within.calls a0_5 1 50 true _ A12.out).mono ?_); rintro e w' ⟨rfl, ⟨nd, rfl⟩⟩) | (go_at_call 89; (with_reducible refine (impl_within.calls a0_6 0 10000 true _ A14.out).mono ?_); rintro e w' ⟨rfl, ⟨nd, rfl⟩⟩) | (go_at_call 89; (with_reducible refine (impl_within.calls a0_7 1 100000 true _ A16.out).mono ?_); rintro e w' ⟨rfl, ⟨nd, rfl⟩⟩) | (go_at_call 89; (with_reducible refine (impl_within.calls a0_8 0 3 t299 _ A18.out).mono ?_); rintro e w' ⟨rfl, ⟨nd, rfl⟩⟩))
         go_ret
         exact ⟨Zk, (have z0_ := GE290; Ze)⟩
        ·replace c17 := Bool.eq_false_iff.mpr c17
         subst c17
         have H1 : (some false) = some r := by rw [if_neg (show ¬ (false = true) by decide)] at H; exact H
         clear H; have H := H1; clear H1; obtain rfl := Option.some.inj H
         go_enter Try.func129, Try.ntmps129
         go_wp2_with (first | ((with_reducible refine gate_dst (N := 1) rfl ?_); refine boxZ 1 #[.string a0_0, .int .i64 a0_1, .int .i64 a0_2, .int .i64 a0_3, .int .i64 a0_4, .int .i64 a0_5, .int .i64 a0_6, .int .i64 a0_7, .int .i64 a0_8] 92 ?_; intro gb290 hg w21 hbox hb; have n0_ := Aside0.mk (below_step Zc hb); have n1_ := Aside0.mk (hbox); have n2_ := Aside0.mk ((Zd : w.heap.size ≤ gb290)); have n3_ := Aside0.mk ((Zd : w.heap.size ≤ gb290)); clear HB; have HB := n0_; have BK290 := n1_; have GW290 := n2_; have GE290 := n3_; clear n0_ n1_ n2_ n3_; clear hb hbox hg; obtain ⟨_, _, _, _, _, _, _, _, _, _, _, _, _, _, _, _, _, _⟩ := cz9 BK290) | ((with_reducible refine gate_callee (f := 135) rfl ?_); refine goesL_ (some 5) rfl rfl Try.func135 Zj rfl #[.string a0_0] rfl Zo ?_; (with_reducible refine (impl_IsWord.calls k a0_0 true _ A2.out).mono ?_); rintro e w' ⟨rfl, ⟨nd, rfl⟩⟩; refine ⟨_, rfl, ?_⟩) | (go_at_call 89; (with_reducible refine (impl_within.calls a0_1 0 3 true _ A4.out).mono ?_); rintro e w' ⟨rfl, ⟨nd, rfl⟩⟩) | (go_at_call 89; (with_reducible refine (impl_within.calls a0_2 20 300 true _ A6.out).mono ?_); rintro e w' ⟨rfl, ⟨nd, rfl⟩⟩) | (go_at_call 89; (with_reducible refine (impl_within.calls a0_3 0 10000 true _ A8.out).mono ?_); rintro e w' ⟨rfl, ⟨nd, rfl⟩⟩) | (go_at_call 89; (with_reducible refine (impl_within.calls a0_4 0 a0_3 true _ A10.out).mono ?_); rintro e w' ⟨rfl, ⟨nd, rfl⟩⟩) | (go_at_call 89; (with_reducible refine (impl_within.calls a0_5 1 50 true _ A12.out).mono ?_); rintro e w' ⟨rfl, ⟨nd, rfl⟩⟩) | (go_at_call 89; (with_reducible refine (impl_within.calls a0_6 0 10000 true _ A14.out).mono ?_); rintro e w' ⟨rfl, ⟨nd, rfl⟩⟩) | (go_at_call 89; (with_reducible refine (impl_within.calls a0_7 1 100000 false _ A16.out).mono ?_); rintro e w' ⟨rfl, ⟨nd, rfl⟩⟩))
         go_ret
         exact ⟨Zk, (have z0_ := GE290; Ze)⟩
       ·replace c15 := Bool.eq_false_iff.mpr c15
        subst c15
        have H1 : (some false) = some r := by rw [if_neg (show ¬ (false = true) by decide)] at H; exact H
        clear H; have H := H1; clear H1; obtain rfl := Option.some.inj H
        go_enter Try.func129, Try.ntmps129
        go_wp2_with (first | ((with_reducible refine gate_dst (N := 1) rfl ?_); refine boxZ 1 #[.string a0_0, .int .i64 a0_1, .int .i64 a0_2, .int .i64 a0_3, .int .i64 a0_4, .int .i64 a0_5, .int .i64 a0_6, .int .i64 a0_7, .int .i64 a0_8] 92 ?_; intro gb290 hg w23 hbox hb; have n0_ := Aside0.mk (below_step Zc hb); have n1_ := Aside0.mk (hbox); have n2_ := Aside0.mk ((Zd : w.heap.size ≤ gb290)); have n3_ := Aside0.mk ((Zd : w.heap.size ≤ gb290)); clear HB; have HB := n0_; have BK290 := n1_; have GW290 := n2_; have GE290 := n3_; clear n0_ n1_ n2_ n3_; clear hb hbox hg; obtain ⟨_, _, _, _, _, _, _, _, _, _, _, _, _, _, _, _, _, _⟩ := cz9 BK290) | ((with_reducible refine gate_callee (f := 135) rfl ?_); refine goesL_ (some 5) rfl rfl Try.func135 Zj rfl #[.string a0_0] rfl Zo ?_; (with_reducible refine (impl_IsWord.calls k a0_0 true _ A2.out).mono ?_); rintro e w' ⟨rfl, ⟨nd, rfl⟩⟩; refine ⟨_, rfl, ?_⟩) | (go_at_call 89; (with_reducible refine (impl_within.calls a0_1 0 3 true _ A4.out).mono ?_); rintro e w' ⟨rfl, ⟨nd, rfl⟩⟩) | (go_at_call 89; (with_reducible refine (impl_within.calls a0_2 20 300 true _ A6.out).mono ?_); rintro e w' ⟨rfl, ⟨nd, rfl⟩⟩) | (go_at_call 89; (with_reducible refine (impl_within.calls a0_3 0 10000 true _ A8.out).mono ?_); rintro e w' ⟨rfl, ⟨nd, rfl⟩⟩) | (go_at_call 89; (with_reducible refine (impl_within.calls a0_4 0 a0_3 true _ A10.out).mono ?_); rintro e w' ⟨rfl, ⟨nd, rfl⟩⟩) | (go_at_call 89; (with_reducible refine (impl_within.calls a0_5 1 50 true _ A12.out).mono ?_); rintro e w' ⟨rfl, ⟨nd, rfl⟩⟩) | (go_at_call 89; (with_reducible refine (impl_within.calls a0_6 0 10000 false _ A14.out).mono ?_); rintro e w' ⟨rfl, ⟨nd, rfl⟩⟩))
        go_ret
        exact ⟨Zk, (have z0_ := GE290; Ze)⟩
      ·replace c13 := Bool.eq_false_iff.mpr c13
       subst c13
       have H1 : (some false) = some r := by rw [if_neg (show ¬ (false = true) by decide)] at H; exact H
       clear H; have H := H1; clear H1; obtain rfl := Option.some.inj H
       go_enter Try.func129, Try.ntmps129
       go_wp2_with (first | ((with_reducible refine gate_dst (N := 1) rfl ?_); refine boxZ 1 #[.string a0_0, .int .i64 a0_1, .int .i64 a0_2, .int .i64 a0_3, .int .i64 a0_4, .int .i64 a0_5, .int .i64 a0_6, .int .i64 a0_7, .int .i64 a0_8] 92 ?_; intro gb290 hg w25 hbox hb; have n0_ := Aside0.mk (below_step Zc hb); have n1_ := Aside0.mk (hbox); have n2_ := Aside0.mk ((Zd : w.heap.size ≤ gb290)); have n3_ := Aside0.mk ((Zd : w.heap.size ≤ gb290)); clear HB; have HB := n0_; have BK290 := n1_; have GW290 := n2_; have GE290 := n3_; clear n0_ n1_ n2_ n3_; clear hb hbox hg; obtain ⟨_, _, _, _, _, _, _, _, _, _, _, _, _, _, _, _, _, _⟩ := cz9 BK290) | ((with_reducible refine gate_callee (f := 135) rfl ?_); refine goesL_ (some 5) rfl rfl Try.func135 Zj rfl #[.string a0_0] rfl Zo ?_; (with_reducible refine (impl_IsWord.calls k a0_0 true _ A2.out).mono ?_); rintro e w' ⟨rfl, ⟨nd, rfl⟩⟩; refine ⟨_, rfl, ?_⟩) | (go_at_call 89; (with_reducible refine (impl_within.calls a0_1 0 3 true _ A4.out).mono ?_); rintro e w' ⟨rfl, ⟨nd, rfl⟩⟩) | (go_at_call 89; (with_reducible refine (impl_within.calls a0_2 20 300 true _ A6.out).mono ?_); rintro e w' ⟨rfl, ⟨nd, rfl⟩⟩) | (go_at_call 89; (with_reducible refine (impl_within.calls a0_3 0 10000 true _ A8.out).mono ?_); rintro e w' ⟨rfl, ⟨nd, rfl⟩⟩) | (go_at_call 89; (with_reducible refine (impl_within.calls a0_4 0 a0_3 true _ A10.out).mono ?_); rintro e w' ⟨rfl, ⟨nd, rfl⟩⟩) | (go_at_call 89; (with_reducible refine (impl_within.calls a0_5 1 50 false _ A12.out).mono ?_); rintro e w' ⟨rfl, ⟨nd, rfl⟩⟩))
       go_ret
       exact ⟨Zk, (have z0_ := GE290; Ze)⟩
     ·replace c11 := Bool.eq_false_iff.mpr c11
      subst c11
      have H1 : (some false) = some r := by rw [if_neg (show ¬ (false = true) by decide)] at H; exact H
      clear H; have H := H1; clear H1; obtain rfl := Option.some.inj H
      go_enter Try.func129, Try.ntmps129
      go_wp2_with (first | ((with_reducible refine gate_dst (N := 1) rfl ?_); refine boxZ 1 #[.string a0_0, .int .i64 a0_1, .int .i64 a0_2, .int .i64 a0_3, .int .i64 a0_4, .int .i64 a0_5, .int .i64 a0_6, .int .i64 a0_7, .int .i64 a0_8] 92 ?_; intro gb290 hg w27 hbox hb; have n0_ := Aside0.mk (below_step Zc hb); have n1_ := Aside0.mk (hbox); have n2_ := Aside0.mk ((Zd : w.heap.size ≤ gb290)); have n3_ := Aside0.mk ((Zd : w.heap.size ≤ gb290)); clear HB; have HB := n0_; have BK290 := n1_; have GW290 := n2_; have GE290 := n3_; clear n0_ n1_ n2_ n3_; clear hb hbox hg; obtain ⟨_, _, _, _, _, _, _, _, _, _, _, _, _, _, _, _, _, _⟩ := cz9 BK290) | ((with_reducible refine gate_callee (f := 135) rfl ?_); refine goesL_ (some 5) rfl rfl Try.func135 Zj rfl #[.string a0_0] rfl Zo ?_; (with_reducible refine (impl_IsWord.calls k a0_0 true _ A2.out).mono ?_); rintro e w' ⟨rfl, ⟨nd, rfl⟩⟩; refine ⟨_, rfl, ?_⟩) | (go_at_call 89; (with_reducible refine (impl_within.calls a0_1 0 3 true _ A4.out).mono ?_); rintro e w' ⟨rfl, ⟨nd, rfl⟩⟩) | (go_at_call 89; (with_reducible refine (impl_within.calls a0_2 20 300 true _ A6.out).mono ?_); rintro e w' ⟨rfl, ⟨nd, rfl⟩⟩) | (go_at_call 89; (with_reducible refine (impl_within.calls a0_3 0 10000 true _ A8.out).mono ?_); rintro e w' ⟨rfl, ⟨nd, rfl⟩⟩) | (go_at_call 89; (with_reducible refine (impl_within.calls a0_4 0 a0_3 false _ A10.out).mono ?_); rintro e w' ⟨rfl, ⟨nd, rfl⟩⟩))
      go_ret
      exact ⟨Zk, (have z0_ := GE290; Ze)⟩
    ·replace c9 := Bool.eq_false_iff.mpr c9
     subst c9
     have H1 : (some false) = some r := by rw [if_neg (show ¬ (false = true) by decide)] at H; exact H
     clear H; have H := H1; clear H1; obtain rfl := Option.some.inj H
     go_enter Try.func129, Try.ntmps129
     go_wp2_with (first | ((with_reducible refine gate_dst (N := 1) rfl ?_); refine boxZ 1 #[.string a0_0, .int .i64 a0_1, .int .i64 a0_2, .int .i64 a0_3, .int .i64 a0_4, .int .i64 a0_5, .int .i64 a0_6, .int .i64 a0_7, .int .i64 a0_8] 92 ?_; intro gb290 hg w29 hbox hb; have n0_ := Aside0.mk (below_step Zc hb); have n1_ := Aside0.mk (hbox); have n2_ := Aside0.mk ((Zd : w.heap.size ≤ gb290)); have n3_ := Aside0.mk ((Zd : w.heap.size ≤ gb290)); clear HB; have HB := n0_; have BK290 := n1_; have GW290 := n2_; have GE290 := n3_; clear n0_ n1_ n2_ n3_; clear hb hbox hg; obtain ⟨_, _, _, _, _, _, _, _, _, _, _, _, _, _, _, _, _, _⟩ := cz9 BK290) | ((with_reducible refine gate_callee (f := 135) rfl ?_); refine goesL_ (some 5) rfl rfl Try.func135 Zj rfl #[.string a0_0] rfl Zo ?_; (with_reducible refine (impl_IsWord.calls k a0_0 true _ A2.out).mono ?_); rintro e w' ⟨rfl, ⟨nd, rfl⟩⟩; refine ⟨_, rfl, ?_⟩) | (go_at_call 89; (with_reducible refine (impl_within.calls a0_1 0 3 true _ A4.out).mono ?_); rintro e w' ⟨rfl, ⟨nd, rfl⟩⟩) | (go_at_call 89; (with_reducible refine (impl_within.calls a0_2 20 300 true _ A6.out).mono ?_); rintro e w' ⟨rfl, ⟨nd, rfl⟩⟩) | (go_at_call 89; (with_reducible refine (impl_within.calls a0_3 0 10000 false _ A8.out).mono ?_); rintro e w' ⟨rfl, ⟨nd, rfl⟩⟩))
     go_ret
     exact ⟨Zk, (have z0_ := GE290; Ze)⟩
   ·replace c7 := Bool.eq_false_iff.mpr c7
    subst c7
    have H1 : (some false) = some r := by rw [if_neg (show ¬ (false = true) by decide)] at H; exact H
    clear H; have H := H1; clear H1; obtain rfl := Option.some.inj H
    go_enter Try.func129, Try.ntmps129
    go_wp2_with (first | ((with_reducible refine gate_dst (N := 1) rfl ?_); refine boxZ 1 #[.string a0_0, .int .i64 a0_1, .int .i64 a0_2, .int .i64 a0_3, .int .i64 a0_4, .int .i64 a0_5, .int .i64 a0_6, .int .i64 a0_7, .int .i64 a0_8] 92 ?_; intro gb290 hg w31 hbox hb; have n0_ := Aside0.mk (below_step Zc hb); have n1_ := Aside0.mk (hbox); have n2_ := Aside0.mk ((Zd : w.heap.size ≤ gb290)); have n3_ := Aside0.mk ((Zd : w.heap.size ≤ gb290)); clear HB; have HB := n0_; have BK290 := n1_; have GW290 := n2_; have GE290 := n3_; clear n0_ n1_ n2_ n3_; clear hb hbox hg; obtain ⟨_, _, _, _, _, _, _, _, _, _, _, _, _, _, _, _, _, _⟩ := cz9 BK290) | ((with_reducible refine gate_callee (f := 135) rfl ?_); refine goesL_ (some 5) rfl rfl Try.func135 Zj rfl #[.string a0_0] rfl Zo ?_; (with_reducible refine (impl_IsWord.calls k a0_0 true _ A2.out).mono ?_); rintro e w' ⟨rfl, ⟨nd, rfl⟩⟩; refine ⟨_, rfl, ?_⟩) | (go_at_call 89; (with_reducible refine (impl_within.calls a0_1 0 3 true _ A4.out).mono ?_); rintro e w' ⟨rfl, ⟨nd, rfl⟩⟩) | (go_at_call 89; (with_reducible refine (impl_within.calls a0_2 20 300 false _ A6.out).mono ?_); rintro e w' ⟨rfl, ⟨nd, rfl⟩⟩))
    go_ret
    exact ⟨Zk, (have z0_ := GE290; Ze)⟩
  ·replace c5 := Bool.eq_false_iff.mpr c5
   subst c5
   have H1 : (some false) = some r := by rw [if_neg (show ¬ (false = true) by decide)] at H; exact H
   clear H; have H := H1; clear H1; obtain rfl := Option.some.inj H
   go_enter Try.func129, Try.ntmps129
   go_wp2_with (first | ((with_reducible refine gate_dst (N := 1) rfl ?_); refine boxZ 1 #[.string a0_0, .int .i64 a0_1, .int .i64 a0_2, .int .i64 a0_3, .int .i64 a0_4, .int .i64 a0_5, .int .i64 a0_6, .int .i64 a0_7, .int .i64 a0_8] 92 ?_; intro gb290 hg w33 hbox hb; have n0_ := Aside0.mk (below_step Zc hb); have n1_ := Aside0.mk (hbox); have n2_ := Aside0.mk ((Zd : w.heap.size ≤ gb290)); have n3_ := Aside0.mk ((Zd : w.heap.size ≤ gb290)); clear HB; have HB := n0_; have BK290 := n1_; have GW290 := n2_; have GE290 := n3_; clear n0_ n1_ n2_ n3_; clear hb hbox hg; obtain ⟨_, _, _, _, _, _, _, _, _, _, _, _, _, _, _, _, _, _⟩ := cz9 BK290) | ((with_reducible refine gate_callee (f := 135) rfl ?_); refine goesL_ (some 5) rfl rfl Try.func135 Zj rfl #[.string a0_0] rfl Zo ?_; (with_reducible refine (impl_IsWord.calls k a0_0 true _ A2.out).mono ?_); rintro e w' ⟨rfl, ⟨nd, rfl⟩⟩; refine ⟨_, rfl, ?_⟩) | (go_at_call 89; (with_reducible refine (impl_within.calls a0_1 0 3 false _ A4.out).mono ?_); rintro e w' ⟨rfl, ⟨nd, rfl⟩⟩))
   go_ret
   exact ⟨Zk, (have z0_ := GE290; Ze)⟩
 ·replace c3 := Bool.eq_false_iff.mpr c3
  subst c3
  have H1 : (some false) = some r := by rw [if_neg (show ¬ (false = true) by decide)] at H; exact H
  clear H; have H := H1; clear H1; obtain rfl := Option.some.inj H
  go_enter Try.func129, Try.ntmps129
  go_wp2_with (first | ((with_reducible refine gate_dst (N := 1) rfl ?_); refine boxZ 1 #[.string a0_0, .int .i64 a0_1, .int .i64 a0_2, .int .i64 a0_3, .int .i64 a0_4, .int .i64 a0_5, .int .i64 a0_6, .int .i64 a0_7, .int .i64 a0_8] 92 ?_; intro gb290 hg w35 hbox hb; have n0_ := Aside0.mk (below_step Zc hb); have n1_ := Aside0.mk (hbox); have n2_ := Aside0.mk ((Zd : w.heap.size ≤ gb290)); have n3_ := Aside0.mk ((Zd : w.heap.size ≤ gb290)); clear HB; have HB := n0_; have BK290 := n1_; have GW290 := n2_; have GE290 := n3_; clear n0_ n1_ n2_ n3_; clear hb hbox hg; obtain ⟨_, _, _, _, _, _, _, _, _, _, _, _, _, _, _, _, _, _⟩ := cz9 BK290) | ((with_reducible refine gate_callee (f := 135) rfl ?_); refine goesL_ (some 5) rfl rfl Try.func135 Zj rfl #[.string a0_0] rfl Zo ?_; (with_reducible refine (impl_IsWord.calls k a0_0 false _ A2.out).mono ?_); rintro e w' ⟨rfl, ⟨nd, rfl⟩⟩; refine ⟨_, rfl, ?_⟩))
  go_ret
  exact ⟨Zk, (have z0_ := GE290; Ze)⟩
end Go.Proofs.Ytnlbaflbhicooaa.F
