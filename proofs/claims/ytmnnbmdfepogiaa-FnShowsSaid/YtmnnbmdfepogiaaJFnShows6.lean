import Derived.Test.YtmnnbmdfepogiaaJFnShows5
import Derived.Below
import Derived.Deep.Draws
import Derived.Deep.AppendLies
import Derived.Maps.AppendAt
import Derived.OwnWalk
import Derived.Laws.BytesArg
import Derived.Laws.MakeOwn
import Derived.Laws.OwnMore
import Derived.Tactics
import Derived.Lib.ConvBytes
import Derived.Laws.Slices
import Derived.WalkKit
import Derived.KernelRfl
import Derived.RowKit3
import Derived.Deep.LoopGhost
import Derived.Deep.QuietTactic
import Derived.BigQuiet
import Derived.WideLaws
import Derived.Deep.DeepCutAuto
import Derived.Deep.CutBlock
import Derived.Deep.RegionHeld3
import Derived.Lib.AppendStr
import Derived.ArgAppend
import Derived.Laws.IdiomCopy
import Derived.RowKit
import Derived.OrdersHeld
import Derived.Laws.BitsLemmas
import Derived.Laws.StructEq
import Derived.Test.YtmnnbmdfepogiaaProg
import Derived.Laws.Cover1
import Derived.ChangeSlices
import Derived.OpenShut
namespace Go.Proofs.Ytmnnbmdfepogiaa.F
open Go.RowKit Go.Proofs.YtmnnbmdfepogiaaW.PrintWords Go.Proofs.YtmnnbmdfepogiaaW.PrintLast Go.Proofs.YtmnnbmdfepogiaaW.PrintMore
attribute [local go_sem] max2_int min2_int max_two min_two max_three min_three max_four min_four
set_option linter.unusedVariables false
set_option linter.unusedSimpArgs false
def spec_ShowEnd.l0 : Nat → Int → Int → List (S104) → List (S61) → List (S58) → Option (Int × Int)
 | 0, _, _, _, _, _ => none
 | k + 1, x4, x5, x787000, x787001, x787002 => if x5 < (x787002.length : Int) then (if 0 ≤ x5 then ((spec_l03Find.f k x787001 ((rd_T58 x787002 x5).f2)).bind fun t789 => (if 0 ≤ t789 then (if t789 < (x787001.length : Int) then ((spec_l08Time.f k x787000 x787001 x787002 ((rd_T58 x787002 x5).f0) ((rd_T58 x787002 x5).f1) ((rd_T58 x787002 x5).f2) ((rd_T58 x787002 x5).f3)).bind fun t793 => ((spec_l03Window.f ((rd_T61 x787001 t789).f0) ((rd_T61 x787001 t789).f1) ((rd_T61 x787001 t789).f2) ((rd_T61 x787001 t789).f3) ((rd_T61 x787001 t789).f4) ((rd_T61 x787001 t789).f5) ((rd_T61 x787001 t789).f6) ((rd_T61 x787001 t789).f7) ((rd_T61 x787001 t789).f8) t793 (wrap64 (((rd_T61 x787001 t789).f5) - 1))).bind fun t794 => (if 1 < (t794.length : Int) then (spec_ShowEnd.l0 k (mx x4 (rd t794 1)) (wrap64 (x5 + 1)) x787000 x787001 x787002) else (none)))) else (none)) else (none))) else (none)) else (some (x4, 0))
def spec_ShowEnd.f (k : Nat) (l0_0 : List (S104)) (l0_1 : List (S61)) (l0_2 : List (S58)) : Option (Int × Int) := (spec_IsShow.f k l0_0 l0_1 l0_2).bind fun t787 => (if t787 = true then (spec_ShowEnd.l0 k 0 0 l0_0 l0_1 l0_2) else (some (0, 1)))
def spec_ShowEnd.T7 : Bool × List (List Nat × List Nat) := (true, [([], []), ([0], [0]), ([], []), ([2], [2]), ([], []), ([4], [4]), ([], []), ([5, 6], [5, 6]), ([7], [7]), ([8], [8]), ([3, 9], [3, 9]), ([1, 10], [1, 10]), ([11], [11]), ([], []), ([13, 12, 10, 0, 1, 2, 3, 4, 5, 6, 7, 8, 9, 10, 11, 12, 13], [12, 13])])
def spec_ShowEnd.B7 : List Nat := [0, 1, 0, 4, 0, 16, 0, 112, 240, 496, 1020, 2047, 4095, 0, 16383]
theorem spec_ShowEnd.tab7 : rtab .any (opsOf Try.f28 7) = spec_ShowEnd.T7 := by kernel_rfl
theorem spec_ShowEnd.bits7 : waitsOk spec_ShowEnd.T7.2 spec_ShowEnd.B7 = true := by kernel_rfl
def spec_ShowEnd.T8 : Bool × List (List Nat × List Nat) := (true, [([], []), ([], []), ([], []), ([], []), ([3], [3]), ([], []), ([4, 5], [4, 5]), ([6], [6]), ([2, 7], [2, 7]), ([], []), ([9], [9]), ([10], [10]), ([1, 8, 11, 8], [1, 8, 11]), ([12], [12]), ([13], [13]), ([0, 14], [0, 14]), ([15, 12, 0, 1, 2, 3, 4, 5, 6, 7, 8, 9, 10, 11, 12, 13, 14, 15], [0, 15])])
def spec_ShowEnd.B8 : List Nat := [0, 0, 0, 0, 8, 0, 56, 120, 252, 0, 512, 1536, 4094, 8190, 16382, 32767, 65535]
theorem spec_ShowEnd.tab8 : rtab .any (opsOf Try.f28 8) = spec_ShowEnd.T8 := by kernel_rfl
theorem spec_ShowEnd.bits8 : waitsOk spec_ShowEnd.T8.2 spec_ShowEnd.B8 = true := by kernel_rfl
set_option maxHeartbeats 8000000 in
set_option maxRecDepth 100000 in
theorem spec_ShowEnd.calls (k : Nat) (A0_0 : Option Addr) (c0_0 : Nat) (l0_0 : List (S104)) (A0_1 : Option Addr) (c0_1 : Nat) (l0_1 : List (S61)) (A0_2 : Option Addr) (c0_2 : Nat) (l0_2 : List (S58)) (r1 : Int) (r2 : Int) (w : World) (hr0_0 : Kd.C k104 w A0_0 l0_0.length l0_0) (hc0_0 : l0_0.length ≤ c0_0) (hr0_1 : Kd.C k61 w A0_1 l0_1.length l0_1) (hc0_1 : l0_1.length ≤ c0_1) (hr0_2 : Kd.C k58 w A0_2 l0_2.length l0_2) (hc0_2 : l0_2.length ≤ c0_2) (h : spec_ShowEnd.f k l0_0 l0_1 l0_2 = some (r1, r2)) :
  Calls Try.prog 28 #[.agg #[.slice A0_0 l0_0.length c0_0, .slice A0_1 l0_1.length c0_1, .slice A0_2 l0_2.length c0_2]] w fun e w' => e = .returned (.tuple #[.int .i64 r1, .int .i64 r2]) ∧ Below w.heap.size w w' := by
 have hu35 := Try.underlying35; have hu61 := Try.underlying61; have hu58 := Try.underlying58; have HR0_0 := am_ hr0_0; have HC0_0 := am_ hc0_0; clear hr0_0 hc0_0; have HR0_1 := am_ hr0_1; have HC0_1 := am_ hc0_1; clear hr0_1 hc0_1; have HR0_2 := am_ hr0_2; have HC0_2 := am_ hc0_2; clear hr0_2 hc0_2; have HB := am_ (Below.refl w.heap.size w); have H : ((spec_IsShow.f k l0_0 l0_1 l0_2).bind fun t787 => (if t787 = true then (spec_ShowEnd.l0 k 0 0 l0_0 l0_1 l0_2) else (some (0, 1)))) = some (r1, r2) := h; clear h; replace H := Option.bind_eq_some_iff.mp H; obtain ⟨t787, A20, H⟩ := H; have A2 := am_ A20; clear A20; have HS_ := am_ H; clear H
 go_enter Try.func28, Try.ntmps28
 go_wp2_with (first | ((with_reducible refine gate_dst (N := 1) rfl ?_); refine boxZ 1 #[.slice A0_0 l0_0.length c0_0, .slice A0_1 l0_1.length c0_1, .slice A0_2 l0_2.length c0_2] 35 ?_; intro gb786 hg w4 hbox hb; replace BK786 := am_ (hbox); replace GW786 := am_ ((Ze : w.heap.size ≤ gb786)); replace GE786 := GW786; replace HB := (bsZ Zf hb); clear hb hbox hg; refine ci3 BK786 ?_; intros) | ((with_reducible refine gate_callee (f := 43) rfl ?_); refine gZ 8 Try.func43 #[.agg #[.slice A0_0 l0_0.length c0_0, .slice A0_1 l0_1.length c0_1, .slice A0_2 l0_2.length c0_2]] ?_; (with_reducible refine (spec_IsShow.calls k _ _ l0_0 _ _ l0_1 _ _ l0_2 t787 _ ?_ ?_ ?_ ?_ ?_ ?_ A2.out).mono ?_); exact (Zi HR0_0); exact HC0_0.out; exact (Zi HR0_1); exact HC0_1.out; exact (Zi HR0_2); exact HC0_2.out; rintro e w6 ⟨rfl, hb⟩; refine ⟨_, rfl, ?_⟩; replace BK786 := (bkZ BK786 hb); replace HB := (bsZ (Zh GE786) hb); clear hb; refine ?roundEnd))
 case roundEnd =>
  by_cases c3 : t787 = true
  ·have H := HS_.out
   clear HS_; subst c3; rw [if_pos rfl] at H; have H' := am_ H; clear H
   go_wp2_with (first | fail)
   go_loopg [4, 5] k (fun kq v4 v5 w' => ∃ (x4_1 : Int) (x5_1 : Int), v4 = .int .i64 x4_1 ∧ v5 = .int .i64 x5_1 ∧ Aside0 (spec_ShowEnd.l0 kq x4_1 x5_1 l0_0 l0_1 l0_2 = some (r1, r2)) ∧ Aside0 (kq ≤ k) ∧ Aside0 (w'.heap[gb786]? = some (.cells #[(.slice A0_0 l0_0.length c0_0), (.slice A0_1 l0_1.length c0_1), (.slice A0_2 l0_2.length c0_2)] 35 (0, 0))) ∧ Aside0 (Below w.heap.size w w'))
   case atStart => exact ⟨(0), (0), Za, Za, H', ⟨Nat.le_refl _⟩, ⟨(Zq BK786)⟩, ⟨(Zh GE786)⟩⟩
   case round =>
    clear H'
    try clear c2
    try clear p2
    try clear c3
    try clear c4
    obtain ⟨x4_1, x5_1, rfl, rfl, HA, HK1, BK786, HB⟩ := hrel
    cases gk with
    | zero => exact absurd HA.out (by simp [spec_ShowEnd.l0])
    | succ k1 =>
     have H := HA.out; clear HA; simp only [spec_ShowEnd.l0] at H
     by_cases c7 : x5_1 < (l0_2.length : Int)
     ·rw [if_pos c7] at H
      have c7b0 := decide_eq_true c7; clear c7
      by_cases c8 : 0 ≤ x5_1
      ·rw [if_pos c8] at H
       have c8b0 := decide_eq_true c8; clear c8; replace H := Option.bind_eq_some_iff.mp H; obtain ⟨t789, A90, H⟩ := H; have A9 := am_ A90; clear A90
       by_cases c10 : 0 ≤ t789
       ·rw [if_pos c10] at H
        have c10b0 := decide_eq_true c10; clear c10
        by_cases c11 : t789 < (l0_1.length : Int)
        ·rw [if_pos c11] at H
         have c11b0 := decide_eq_true c11; clear c11; replace H := Option.bind_eq_some_iff.mp H; obtain ⟨t793, A120, H⟩ := H; have A12 := am_ A120; clear A120; replace H := Option.bind_eq_some_iff.mp H; obtain ⟨t794, A130, H⟩ := H; have A13 := am_ A130; clear A130
         by_cases c14 : 1 < (t794.length : Int)
         ·rw [if_pos c14] at H
          have c14b0 := decide_eq_true c14; have c14b1 : decide (1 < t794.length) = true := decide_eq_true (by omega); clear c14; obtain ⟨ji15, hji15⟩ : ∃ j_ : Int, (mx x4_1 (rd t794 1)) = j_ := ⟨_, rfl⟩
          replace H : (spec_ShowEnd.l0 k1 ji15 (wrap64 (x5_1 + 1)) l0_0 l0_1 l0_2) = some (r1, r2) := by first | (rw [hji15] at H; exact H) | (simp only [hji15] at H ⊢; exact H)
          (try rw [hji15] at A9)
          (try rw [hji15] at A12)
          (try rw [hji15] at A13)
          have hji15_ : (if x4_1 < (rd t794 1) then (rd t794 1) else x4_1) = ji15 := hji15; have H' := am_ H; clear H; refine ci3 BK786 ?_; intros
          try go_wp2
          replace BK786 := am_ (blk_drew BK786.out); replace HB := am_ (below_drew1 HB.out); have p788 : 0 ≤ (x5_1 : Int) := of_decide_eq_true Zc; have q788 : x5_1 < (l0_2.length : Int) := of_decide_eq_true Zc; obtain ⟨ad788, e788, hx788_0, hx788_1, hx788_2, hx788_3⟩ := at_T58 HR0_2.out x5_1 p788 q788; have hw788_3 := hx788_3; have hw788_2 := hx788_2; have hw788_1 := hx788_1; have hw788_0 := hx788_0
          cases e788
          replace hx788_0 := cbH HB hx788_0; replace hx788_1 := cbH HB hx788_1; replace hx788_2 := cbH HB hx788_2; replace hx788_3 := cbH HB hx788_3; replace p788 := eq_true p788; replace q788 := eq_true q788; have p790 : 0 ≤ (t789 : Int) := of_decide_eq_true Zc; have q790 : t789 < (l0_1.length : Int) := of_decide_eq_true Zc; obtain ⟨ad790, e790, hx790_0, hx790_1, hx790_2, hx790_3, hx790_4, hx790_5, hx790_6, hx790_7, hx790_8⟩ := at_T61 HR0_1.out t789 p790 q790; have hw790_8 := hx790_8; have hw790_7 := hx790_7; have hw790_6 := hx790_6; have hw790_5 := hx790_5; have hw790_4 := hx790_4; have hw790_3 := hx790_3; have hw790_2 := hx790_2; have hw790_1 := hx790_1; have hw790_0 := hx790_0
          cases e790
          replace hx790_0 := cbH HB hx790_0; replace hx790_1 := cbH HB hx790_1; replace hx790_2 := cbH HB hx790_2; replace hx790_3 := cbH HB hx790_3; replace hx790_4 := cbH HB hx790_4; replace hx790_5 := cbH HB hx790_5; replace hx790_6 := cbH HB hx790_6; replace hx790_7 := cbH HB hx790_7; replace hx790_8 := cbH HB hx790_8; replace p790 := eq_true p790; replace q790 := eq_true q790; refine start_ (n := 15) (S := fun w' => w'.cell? ⟨gb786, 0, none⟩ = some (.slice A0_0 l0_0.length c0_0) ∧ w'.cell? ⟨gb786, 1, none⟩ = some (.slice (some ad790) l0_1.length c0_1) ∧ w'.cell? ⟨gb786, 2, none⟩ = some (.slice (some ad788) l0_2.length c0_2) ∧ w'.cell? (ad788.add ((x5_1).toNat * 4)) = some (.int .i64 ((rd_T58 l0_2 x5_1).f0)) ∧ w'.cell? ⟨(ad788.add ((x5_1).toNat * 4)).block, (ad788.add ((x5_1).toNat * 4)).off + 1, none⟩ = some (.int .i64 ((rd_T58 l0_2 x5_1).f1)) ∧ w'.cell? ⟨(ad788.add ((x5_1).toNat * 4)).block, (ad788.add ((x5_1).toNat * 4)).off + 2, none⟩ = some (.string ((rd_T58 l0_2 x5_1).f2)) ∧ w'.cell? ⟨(ad788.add ((x5_1).toNat * 4)).block, (ad788.add ((x5_1).toNat * 4)).off + 3, none⟩ = some (.int .i64 ((rd_T58 l0_2 x5_1).f3)) ∧ w'.cell? (ad790.add ((t789).toNat * 9)) = some (.string ((rd_T61 l0_1 t789).f0)) ∧ w'.cell? ⟨(ad790.add ((t789).toNat * 9)).block, (ad790.add ((t789).toNat * 9)).off + 1, none⟩ = some (.int .i64 ((rd_T61 l0_1 t789).f1)) ∧ w'.cell? ⟨(ad790.add ((t789).toNat * 9)).block, (ad790.add ((t789).toNat * 9)).off + 2, none⟩ = some (.int .i64 ((rd_T61 l0_1 t789).f2)) ∧ w'.cell? ⟨(ad790.add ((t789).toNat * 9)).block, (ad790.add ((t789).toNat * 9)).off + 3, none⟩ = some (.int .i64 ((rd_T61 l0_1 t789).f3)) ∧ w'.cell? ⟨(ad790.add ((t789).toNat * 9)).block, (ad790.add ((t789).toNat * 9)).off + 4, none⟩ = some (.int .i64 ((rd_T61 l0_1 t789).f4)) ∧ w'.cell? ⟨(ad790.add ((t789).toNat * 9)).block, (ad790.add ((t789).toNat * 9)).off + 5, none⟩ = some (.int .i64 ((rd_T61 l0_1 t789).f5)) ∧ w'.cell? ⟨(ad790.add ((t789).toNat * 9)).block, (ad790.add ((t789).toNat * 9)).off + 6, none⟩ = some (.int .i64 ((rd_T61 l0_1 t789).f6)) ∧ w'.cell? ⟨(ad790.add ((t789).toNat * 9)).block, (ad790.add ((t789).toNat * 9)).off + 7, none⟩ = some (.int .i64 ((rd_T61 l0_1 t789).f7)) ∧ w'.cell? ⟨(ad790.add ((t789).toNat * 9)).block, (ad790.add ((t789).toNat * 9)).off + 8, none⟩ = some (.int .i64 ((rd_T61 l0_1 t789).f8))) (ds := []) (bT 15 0) Zm rfl rfl ⟨(blk_cell BK786.out 0).trans rfl, (blk_cell BK786.out 1).trans rfl, (blk_cell BK786.out 2).trans rfl, (cbH HB hw788_0 :), (cbH HB hw788_1 :), (cbH HB hw788_2 :), (cbH HB hw788_3 :), (cbH HB hw790_0 :), (cbH HB hw790_1 :), (cbH HB hw790_2 :), (cbH HB hw790_3 :), (cbH HB hw790_4 :), (cbH HB hw790_5 :), (cbH HB hw790_6 :), (cbH HB hw790_7 :), (cbH HB hw790_8 :)⟩ (fun hHeld => ?_); refine with_tabW spec_ShowEnd.tab7 spec_ShowEnd.bits7 (fun HT_ HW_ => ?_); generalize wr.drew = w17 at BK786 HB hx788_0 hx788_1 hx788_2 hx788_3 hx790_0 hx790_1 hx790_2 hx790_3 hx790_4 hx790_5 hx790_6 hx790_7 hx790_8 hHeld ⊢; refine pureZ HT_ 0 (some 17) (bT 15 1) ?_
          refine pureZ HT_ 2 (some 19) (bB 15 5) ?_; refine pureZ HT_ 4 (some 21) (bB 15 21) ?_; refine pureZ HT_ 6 (some 23) (bB 15 85) ?_; refine takeZ16 HT_ HW_ 1 (some 18) (bB 15 87) hHeld ?_; refine takeZ16 HT_ HW_ 3 (some 20) (bB 15 95) hHeld ?_; refine takeZ16 HT_ HW_ 5 (some 22) (bT 15 7) hHeld ?_; refine pureZ HT_ 7 (some 24) (bT 15 8) ?_; refine pureZ HT_ 8 (some 25) (bT 15 9) ?_; refine takeZ16 HT_ HW_ 9 (some 26) (bT 15 10) hHeld ?_; refine join_ (σ := Nat) 1 (bT 15 14) (fun s_ => [(27, .int .i64 t789), (6, .pointer (some ⟨s_, 0, none⟩)), (28, .pointer (some (ad790.add ((t789).toNat * 9)))), (29, .agg #[.string ((rd_T61 l0_1 t789).f0), .int .i64 ((rd_T61 l0_1 t789).f1), .int .i64 ((rd_T61 l0_1 t789).f2), .int .i64 ((rd_T61 l0_1 t789).f3), .int .i64 ((rd_T61 l0_1 t789).f4), .int .i64 ((rd_T61 l0_1 t789).f5), .int .i64 ((rd_T61 l0_1 t789).f6), .int .i64 ((rd_T61 l0_1 t789).f7), .int .i64 ((rd_T61 l0_1 t789).f8)])]) (fun s_ w' => (w'.cell? ⟨gb786, 0, none⟩ = some (.slice A0_0 l0_0.length c0_0) ∧ w'.cell? ⟨gb786, 1, none⟩ = some (.slice (some ad790) l0_1.length c0_1) ∧ w'.cell? ⟨gb786, 2, none⟩ = some (.slice (some ad788) l0_2.length c0_2) ∧ w'.cell? (ad788.add ((x5_1).toNat * 4)) = some (.int .i64 ((rd_T58 l0_2 x5_1).f0)) ∧ w'.cell? ⟨(ad788.add ((x5_1).toNat * 4)).block, (ad788.add ((x5_1).toNat * 4)).off + 1, none⟩ = some (.int .i64 ((rd_T58 l0_2 x5_1).f1)) ∧ w'.cell? ⟨(ad788.add ((x5_1).toNat * 4)).block, (ad788.add ((x5_1).toNat * 4)).off + 2, none⟩ = some (.string ((rd_T58 l0_2 x5_1).f2)) ∧ w'.cell? ⟨(ad788.add ((x5_1).toNat * 4)).block, (ad788.add ((x5_1).toNat * 4)).off + 3, none⟩ = some (.int .i64 ((rd_T58 l0_2 x5_1).f3)) ∧ w'.cell? (ad790.add ((t789).toNat * 9)) = some (.string ((rd_T61 l0_1 t789).f0)) ∧ w'.cell? ⟨(ad790.add ((t789).toNat * 9)).block, (ad790.add ((t789).toNat * 9)).off + 1, none⟩ = some (.int .i64 ((rd_T61 l0_1 t789).f1)) ∧ w'.cell? ⟨(ad790.add ((t789).toNat * 9)).block, (ad790.add ((t789).toNat * 9)).off + 2, none⟩ = some (.int .i64 ((rd_T61 l0_1 t789).f2)) ∧ w'.cell? ⟨(ad790.add ((t789).toNat * 9)).block, (ad790.add ((t789).toNat * 9)).off + 3, none⟩ = some (.int .i64 ((rd_T61 l0_1 t789).f3)) ∧ w'.cell? ⟨(ad790.add ((t789).toNat * 9)).block, (ad790.add ((t789).toNat * 9)).off + 4, none⟩ = some (.int .i64 ((rd_T61 l0_1 t789).f4)) ∧ w'.cell? ⟨(ad790.add ((t789).toNat * 9)).block, (ad790.add ((t789).toNat * 9)).off + 5, none⟩ = some (.int .i64 ((rd_T61 l0_1 t789).f5)) ∧ w'.cell? ⟨(ad790.add ((t789).toNat * 9)).block, (ad790.add ((t789).toNat * 9)).off + 6, none⟩ = some (.int .i64 ((rd_T61 l0_1 t789).f6)) ∧ w'.cell? ⟨(ad790.add ((t789).toNat * 9)).block, (ad790.add ((t789).toNat * 9)).off + 7, none⟩ = some (.int .i64 ((rd_T61 l0_1 t789).f7)) ∧ w'.cell? ⟨(ad790.add ((t789).toNat * 9)).block, (ad790.add ((t789).toNat * 9)).off + 8, none⟩ = some (.int .i64 ((rd_T61 l0_1 t789).f8))) ∧ (w'.heap[gb786]? = some (.cells #[.slice A0_0 l0_0.length c0_0, .slice (some ad790) l0_1.length c0_1, .slice (some ad788) l0_2.length c0_2] 35 (0, 0))) ∧ (w'.heap[s_]? = some (.cells #[.string (⟨#[]⟩ : ByteArray), .int .i64 0, .int .i64 0, .int .i64 0, .int .i64 0, .int .i64 0, .int .i64 0, .int .i64 0, .int .i64 0] 61 (0, 0))) ∧ (w.heap.size ≤ s_) ∧ (w.heap.size ≤ s_) ∧ (gb786 ≠ s_) ∧ (s_ ≠ gb786) ∧ (Below w.heap.size w w')) ?_ ?_
          rotate_left
          ·intro hCont
           refine two_ (i := 10) (j := 13) (Ni := some 27) (Nj := some 6) (bT 15 11) (bB 15 9215) rfl rfl rfl rfl (two_of HT_.out Zm) (by decide) (by decide) (fun K hK => ?_) (fun K hK => ?_)
           ·skip
            refine goes_ Try.func70 Zm rfl #[.slice (some ad790) l0_1.length c0_1, .string ((rd_T58 l0_2 x5_1).f2)] (by rfl) rfl rfl Zn ?_
            with_reducible refine (spec_l03Find.calls k1 _ _ l0_1 ((rd_T58 l0_2 x5_1).f2) t789 _ ?side1 ?side2 A9.out).mono ?_
            (case side1 => exact (Zi HR0_1))
            (case side2 => exact HC0_1.out)
            rintro e w' ⟨rfl, ⟨nd, rfl⟩⟩; refine ⟨_, rfl, ?_⟩; refine hK.out _ _ (Zcv BK786 hw788_0 hw788_1 hw788_2 hw788_3 hw790_0 hw790_1 hw790_2 hw790_3 hw790_4 hw790_5 hw790_6 hw790_7 hw790_8) (fun hHeld => ?_); clear hK K; refine normZ 27 ?_; refine pureZ HT_ 11 (some 28) (bT 15 12) ?_; refine takeZ16 HT_ HW_ 12 (some 29) (bT 15 13) hHeld ?_; refine one_ (i := 13) (N := some 6) (bT 15 14) rfl rfl (one_of HT_.out Zm) (by decide) (fun K hK => ?_); refine box_step ?hg (N := 6) ?hd (cs := #[.string (⟨#[]⟩ : ByteArray), .int .i64 0, .int .i64 0, .int .i64 0, .int .i64 0, .int .i64 0, .int .i64 0, .int .i64 0, .int .i64 0]) (t := 61) ?hr ?_; (case hd => rfl); (case hg => rfl); (case hr => first | (go_simp; done) | (go_simp; rfl)); intro gb791 hg w18 hbox hb; replace BK791 := am_ (hbox); replace GW791 := am_ (((Zg GE786) : w.heap.size ≤ gb791)); replace GE791 := GW791; replace HB := (bsZ (Zh GE786) hb); replace NB786_791 := am_ ((by rw [hg]; exact Nat.ne_of_lt (blk_lt (g := gb786) (b0Z BK786)) : gb786 ≠ gb791)); replace NB791_786 := am_ ((by rw [hg]; exact Nat.ne_of_gt (blk_lt (g := gb786) (b0Z BK786)) : gb791 ≠ gb786)); replace BK786 := (bkZ BK786 hb); clear hb hbox hg; refine hK.out _ _ (Zcv BK786 hw788_0 hw788_1 hw788_2 hw788_3 hw790_0 hw790_1 hw790_2 hw790_3 hw790_4 hw790_5 hw790_6 hw790_7 hw790_8) (fun hHeld => ?_); clear hK K; refine normZ 6 ?_; exact norm_ Zv (hCont (gb791) _ ⟨hHeld, (b0Z BK786), (b0Z BK791), GW791.out, GE791.out, NB786_791.out, NB791_786.out, (Zk GE786 GE791)⟩)
           ·skip
            refine box_step ?hg (N := 6) ?hd (cs := #[.string (⟨#[]⟩ : ByteArray), .int .i64 0, .int .i64 0, .int .i64 0, .int .i64 0, .int .i64 0, .int .i64 0, .int .i64 0, .int .i64 0]) (t := 61) ?hr ?_; (case hd => rfl); (case hg => rfl); (case hr => first | (go_simp; done) | (go_simp; rfl)); intro gb791 hg w18 hbox hb; replace BK791 := am_ (hbox); replace GW791 := am_ (((Zg GE786) : w.heap.size ≤ gb791)); replace GE791 := GW791; replace HB := (bsZ (Zh GE786) hb); replace NB786_791 := am_ ((by rw [hg]; exact Nat.ne_of_lt (blk_lt (g := gb786) (b0Z BK786)) : gb786 ≠ gb791)); replace NB791_786 := am_ ((by rw [hg]; exact Nat.ne_of_gt (blk_lt (g := gb786) (b0Z BK786)) : gb791 ≠ gb786)); replace BK786 := (bkZ BK786 hb); clear hb hbox hg; refine hK.out _ _ (Zcv BK786 hw788_0 hw788_1 hw788_2 hw788_3 hw790_0 hw790_1 hw790_2 hw790_3 hw790_4 hw790_5 hw790_6 hw790_7 hw790_8) (fun hHeld => ?_); clear hK K; refine normZ 6 ?_; refine one_ (i := 10) (N := some 27) (bB 15 10239) rfl rfl (one_of HT_.out Zm) (by decide) (fun K hK => ?_); refine goes_ Try.func70 Zm rfl #[.slice (some ad790) l0_1.length c0_1, .string ((rd_T58 l0_2 x5_1).f2)] (by rfl) rfl rfl Zn ?_
            with_reducible refine (spec_l03Find.calls k1 _ _ l0_1 ((rd_T58 l0_2 x5_1).f2) t789 _ ?side1 ?side2 A9.out).mono ?_
            (case side1 => exact (Zi HR0_1))
            (case side2 => exact HC0_1.out)
            rintro e w' ⟨rfl, ⟨nd, rfl⟩⟩; refine ⟨_, rfl, ?_⟩; refine hK.out _ _ (Zcv BK786 hw788_0 hw788_1 hw788_2 hw788_3 hw790_0 hw790_1 hw790_2 hw790_3 hw790_4 hw790_5 hw790_6 hw790_7 hw790_8) (fun hHeld => ?_); clear hK K; refine normZ 27 ?_; refine pureZ HT_ 11 (some 28) (bB 15 12287) ?_; refine takeZ16 HT_ HW_ 12 (some 29) (bT 15 14) hHeld ?_; exact norm_ Zv (hCont (gb791) _ ⟨hHeld, (b0Z BK786), (b0Z BK791), GW791.out, GE791.out, NB786_791.out, NB791_786.out, (Zk GE786 GE791)⟩)
          rintro gb791 w19 ⟨hS_, h0_, h1_, h2_, h3_, h4_, h5_, h6_⟩
          (try dsimp only at hS_ h0_ h1_ h2_ h3_ h4_ h5_ h6_)
          replace BK786 := am_ h0_; replace BK791 := am_ h1_; replace GW791 := am_ h2_; replace GE791 := am_ h3_; replace NB786_791 := am_ h4_; replace NB791_786 := am_ h5_; replace HB := am_ h6_; clear h0_ h1_ h2_ h3_ h4_ h5_ h6_; have hHeld := hS_; refine normP ?_; refine one_ (i := 14) (N := none) (bT 15 15) rfl rfl (one_of HT_.out Zm) (by decide) (fun K hK => ?_); have hs20 : w19.cell? ⟨gb791, 0, none⟩ = some (.string (⟨#[]⟩ : ByteArray)) := (blk_cell BK791.out 0).trans rfl; have hfs20 := blk_frozen BK791.out 0; have hns20_0 := NB786_791.out; have hms20_0 := NB791_786.out; have hs21 : w19.cell? ⟨gb791, 1, none⟩ = some (.int .i64 0) := (blk_cell BK791.out 1).trans rfl; have hfs21 := blk_frozen BK791.out 1; have hns21_0 := NB786_791.out; have hms21_0 := NB791_786.out; have hs22 : w19.cell? ⟨gb791, 2, none⟩ = some (.int .i64 0) := (blk_cell BK791.out 2).trans rfl; have hfs22 := blk_frozen BK791.out 2; have hns22_0 := NB786_791.out; have hms22_0 := NB791_786.out; have hs23 : w19.cell? ⟨gb791, 3, none⟩ = some (.int .i64 0) := (blk_cell BK791.out 3).trans rfl; have hfs23 := blk_frozen BK791.out 3; have hns23_0 := NB786_791.out; have hms23_0 := NB791_786.out; have hs24 : w19.cell? ⟨gb791, 4, none⟩ = some (.int .i64 0) := (blk_cell BK791.out 4).trans rfl; have hfs24 := blk_frozen BK791.out 4; have hns24_0 := NB786_791.out; have hms24_0 := NB791_786.out; have hs25 : w19.cell? ⟨gb791, 5, none⟩ = some (.int .i64 0) := (blk_cell BK791.out 5).trans rfl; have hfs25 := blk_frozen BK791.out 5; have hns25_0 := NB786_791.out; have hms25_0 := NB791_786.out; have hs26 : w19.cell? ⟨gb791, 6, none⟩ = some (.int .i64 0) := (blk_cell BK791.out 6).trans rfl; have hfs26 := blk_frozen BK791.out 6; have hns26_0 := NB786_791.out; have hms26_0 := NB791_786.out; have hs27 : w19.cell? ⟨gb791, 7, none⟩ = some (.int .i64 0) := (blk_cell BK791.out 7).trans rfl; have hfs27 := blk_frozen BK791.out 7; have hns27_0 := NB786_791.out; have hms27_0 := NB791_786.out; have hs28 : w19.cell? ⟨gb791, 8, none⟩ = some (.int .i64 0) := (blk_cell BK791.out 8).trans rfl; have hfs28 := blk_frozen BK791.out 8; have hns28_0 := NB786_791.out; have hms28_0 := NB791_786.out; refine skip_ (w1 := ?_) (by rfl) rfl ?_ ?_; rotate_left
          ·go_simp
           rfl
          refine hK.out _ _ ⟨(cg1 (hHeld.1) NB786_791), (cg1 (hHeld.2.1) NB786_791), (cg1 (hHeld.2.2.1) NB786_791), (cfZ gb791 (hHeld.2.2.2.1) (Zcu hw788_0 GW791)), (cfZ gb791 (hHeld.2.2.2.2.1) (Zcu hw788_1 GW791)), (cfZ gb791 (hHeld.2.2.2.2.2.1) (Zcu hw788_2 GW791)), (cfZ gb791 (hHeld.2.2.2.2.2.2.1) (Zcu hw788_3 GW791)), (cfZ gb791 (hHeld.2.2.2.2.2.2.2.1) (Zcu hw790_0 GW791)), (cfZ gb791 (hHeld.2.2.2.2.2.2.2.2.1) (Zcu hw790_1 GW791)), (cfZ gb791 (hHeld.2.2.2.2.2.2.2.2.2.1) (Zcu hw790_2 GW791)), (cfZ gb791 (hHeld.2.2.2.2.2.2.2.2.2.2.1) (Zcu hw790_3 GW791)), (cfZ gb791 (hHeld.2.2.2.2.2.2.2.2.2.2.2.1) (Zcu hw790_4 GW791)), (cfZ gb791 (hHeld.2.2.2.2.2.2.2.2.2.2.2.2.1) (Zcu hw790_5 GW791)), (cfZ gb791 (hHeld.2.2.2.2.2.2.2.2.2.2.2.2.2.1) (Zcu hw790_6 GW791)), (cfZ gb791 (hHeld.2.2.2.2.2.2.2.2.2.2.2.2.2.2.1) (Zcu hw790_7 GW791)), (cfZ gb791 (hHeld.2.2.2.2.2.2.2.2.2.2.2.2.2.2.2) (Zcu hw790_8 GW791))⟩ (fun hHeld => ?_); clear hK K; refine done_ (done_of HT_.out Zm) ?_
          try go_wp2
          have n0_ : Aside0 ((((((((((w19.setCell ⟨gb791, 0, none⟩ (.string ((rd_T61 l0_1 t789).f0))).setCell ⟨gb791, 1, none⟩ (.int .i64 ((rd_T61 l0_1 t789).f1))).setCell ⟨gb791, 2, none⟩ (.int .i64 ((rd_T61 l0_1 t789).f2))).setCell ⟨gb791, 3, none⟩ (.int .i64 ((rd_T61 l0_1 t789).f3))).setCell ⟨gb791, 4, none⟩ (.int .i64 ((rd_T61 l0_1 t789).f4))).setCell ⟨gb791, 5, none⟩ (.int .i64 ((rd_T61 l0_1 t789).f5))).setCell ⟨gb791, 6, none⟩ (.int .i64 ((rd_T61 l0_1 t789).f6))).setCell ⟨gb791, 7, none⟩ (.int .i64 ((rd_T61 l0_1 t789).f7))).setCell ⟨gb791, 8, none⟩ (.int .i64 ((rd_T61 l0_1 t789).f8))).heap[gb786]? = some (.cells #[.slice A0_0 l0_0.length c0_0, .slice (some ad790) l0_1.length c0_1, .slice (some ad788) l0_2.length c0_2] 35 (0, 0))) := ⟨by refine blk_far ?_ NB786_791.out _; refine blk_far ?_ NB786_791.out _; refine blk_far ?_ NB786_791.out _; refine blk_far ?_ NB786_791.out _; refine blk_far ?_ NB786_791.out _; refine blk_far ?_ NB786_791.out _; refine blk_far ?_ NB786_791.out _; refine blk_far ?_ NB786_791.out _; refine blk_far ?_ NB786_791.out _; exact BK786.out⟩; have n1_ : Aside0 ((((((((((w19.setCell ⟨gb791, 0, none⟩ (.string ((rd_T61 l0_1 t789).f0))).setCell ⟨gb791, 1, none⟩ (.int .i64 ((rd_T61 l0_1 t789).f1))).setCell ⟨gb791, 2, none⟩ (.int .i64 ((rd_T61 l0_1 t789).f2))).setCell ⟨gb791, 3, none⟩ (.int .i64 ((rd_T61 l0_1 t789).f3))).setCell ⟨gb791, 4, none⟩ (.int .i64 ((rd_T61 l0_1 t789).f4))).setCell ⟨gb791, 5, none⟩ (.int .i64 ((rd_T61 l0_1 t789).f5))).setCell ⟨gb791, 6, none⟩ (.int .i64 ((rd_T61 l0_1 t789).f6))).setCell ⟨gb791, 7, none⟩ (.int .i64 ((rd_T61 l0_1 t789).f7))).setCell ⟨gb791, 8, none⟩ (.int .i64 ((rd_T61 l0_1 t789).f8))).heap[gb791]? = some (.cells #[.string ((rd_T61 l0_1 t789).f0), .int .i64 ((rd_T61 l0_1 t789).f1), .int .i64 ((rd_T61 l0_1 t789).f2), .int .i64 ((rd_T61 l0_1 t789).f3), .int .i64 ((rd_T61 l0_1 t789).f4), .int .i64 ((rd_T61 l0_1 t789).f5), .int .i64 ((rd_T61 l0_1 t789).f6), .int .i64 ((rd_T61 l0_1 t789).f7), .int .i64 ((rd_T61 l0_1 t789).f8)] 61 (0, 0))) := ⟨by refine blk_put (cs := #[.string ((rd_T61 l0_1 t789).f0), .int .i64 ((rd_T61 l0_1 t789).f1), .int .i64 ((rd_T61 l0_1 t789).f2), .int .i64 ((rd_T61 l0_1 t789).f3), .int .i64 ((rd_T61 l0_1 t789).f4), .int .i64 ((rd_T61 l0_1 t789).f5), .int .i64 ((rd_T61 l0_1 t789).f6), .int .i64 ((rd_T61 l0_1 t789).f7), .int .i64 0]) ?_ 8 _ rfl; refine blk_put (cs := #[.string ((rd_T61 l0_1 t789).f0), .int .i64 ((rd_T61 l0_1 t789).f1), .int .i64 ((rd_T61 l0_1 t789).f2), .int .i64 ((rd_T61 l0_1 t789).f3), .int .i64 ((rd_T61 l0_1 t789).f4), .int .i64 ((rd_T61 l0_1 t789).f5), .int .i64 ((rd_T61 l0_1 t789).f6), .int .i64 0, .int .i64 0]) ?_ 7 _ rfl; refine blk_put (cs := #[.string ((rd_T61 l0_1 t789).f0), .int .i64 ((rd_T61 l0_1 t789).f1), .int .i64 ((rd_T61 l0_1 t789).f2), .int .i64 ((rd_T61 l0_1 t789).f3), .int .i64 ((rd_T61 l0_1 t789).f4), .int .i64 ((rd_T61 l0_1 t789).f5), .int .i64 0, .int .i64 0, .int .i64 0]) ?_ 6 _ rfl; refine blk_put (cs := #[.string ((rd_T61 l0_1 t789).f0), .int .i64 ((rd_T61 l0_1 t789).f1), .int .i64 ((rd_T61 l0_1 t789).f2), .int .i64 ((rd_T61 l0_1 t789).f3), .int .i64 ((rd_T61 l0_1 t789).f4), .int .i64 0, .int .i64 0, .int .i64 0, .int .i64 0]) ?_ 5 _ rfl; refine blk_put (cs := #[.string ((rd_T61 l0_1 t789).f0), .int .i64 ((rd_T61 l0_1 t789).f1), .int .i64 ((rd_T61 l0_1 t789).f2), .int .i64 ((rd_T61 l0_1 t789).f3), .int .i64 0, .int .i64 0, .int .i64 0, .int .i64 0, .int .i64 0]) ?_ 4 _ rfl; refine blk_put (cs := #[.string ((rd_T61 l0_1 t789).f0), .int .i64 ((rd_T61 l0_1 t789).f1), .int .i64 ((rd_T61 l0_1 t789).f2), .int .i64 0, .int .i64 0, .int .i64 0, .int .i64 0, .int .i64 0, .int .i64 0]) ?_ 3 _ rfl; refine blk_put (cs := #[.string ((rd_T61 l0_1 t789).f0), .int .i64 ((rd_T61 l0_1 t789).f1), .int .i64 0, .int .i64 0, .int .i64 0, .int .i64 0, .int .i64 0, .int .i64 0, .int .i64 0]) ?_ 2 _ rfl; refine blk_put (cs := #[.string ((rd_T61 l0_1 t789).f0), .int .i64 0, .int .i64 0, .int .i64 0, .int .i64 0, .int .i64 0, .int .i64 0, .int .i64 0, .int .i64 0]) ?_ 1 _ rfl; refine blk_put (cs := #[.string (⟨#[]⟩ : ByteArray), .int .i64 0, .int .i64 0, .int .i64 0, .int .i64 0, .int .i64 0, .int .i64 0, .int .i64 0, .int .i64 0]) ?_ 0 _ rfl; exact BK791.out⟩
          have n2_ : Aside0 (Below w.heap.size w (((((((((w19.setCell ⟨gb791, 0, none⟩ (.string ((rd_T61 l0_1 t789).f0))).setCell ⟨gb791, 1, none⟩ (.int .i64 ((rd_T61 l0_1 t789).f1))).setCell ⟨gb791, 2, none⟩ (.int .i64 ((rd_T61 l0_1 t789).f2))).setCell ⟨gb791, 3, none⟩ (.int .i64 ((rd_T61 l0_1 t789).f3))).setCell ⟨gb791, 4, none⟩ (.int .i64 ((rd_T61 l0_1 t789).f4))).setCell ⟨gb791, 5, none⟩ (.int .i64 ((rd_T61 l0_1 t789).f5))).setCell ⟨gb791, 6, none⟩ (.int .i64 ((rd_T61 l0_1 t789).f6))).setCell ⟨gb791, 7, none⟩ (.int .i64 ((rd_T61 l0_1 t789).f7))).setCell ⟨gb791, 8, none⟩ (.int .i64 ((rd_T61 l0_1 t789).f8)))) := ⟨(Zk GE786 GE791)⟩
          (try clear BK786)
          (try clear BK791)
          (try clear HB)
          generalize (((((((((w19.setCell ⟨gb791, 0, none⟩ (.string ((rd_T61 l0_1 t789).f0))).setCell ⟨gb791, 1, none⟩ (.int .i64 ((rd_T61 l0_1 t789).f1))).setCell ⟨gb791, 2, none⟩ (.int .i64 ((rd_T61 l0_1 t789).f2))).setCell ⟨gb791, 3, none⟩ (.int .i64 ((rd_T61 l0_1 t789).f3))).setCell ⟨gb791, 4, none⟩ (.int .i64 ((rd_T61 l0_1 t789).f4))).setCell ⟨gb791, 5, none⟩ (.int .i64 ((rd_T61 l0_1 t789).f5))).setCell ⟨gb791, 6, none⟩ (.int .i64 ((rd_T61 l0_1 t789).f6))).setCell ⟨gb791, 7, none⟩ (.int .i64 ((rd_T61 l0_1 t789).f7))).setCell ⟨gb791, 8, none⟩ (.int .i64 ((rd_T61 l0_1 t789).f8))) = w29 at n0_ n1_ n2_ ⊢; have BK786 := n0_; have BK791 := n1_; have HB := n2_; clear n0_ n1_ n2_; replace BK786 := am_ (blk_drew BK786.out); replace BK791 := am_ (blk_drew BK791.out); replace HB := am_ (below_drew1 HB.out); have p792 : 0 ≤ (x5_1 : Int) := of_decide_eq_true Zc; have q792 : x5_1 < (l0_2.length : Int) := of_decide_eq_true Zc; obtain ⟨ad792, e792, hx792_0, hx792_1, hx792_2, hx792_3⟩ := at_T58 HR0_2.out x5_1 p792 q792; have hw792_3 := hx792_3; have hw792_2 := hx792_2; have hw792_1 := hx792_1; have hw792_0 := hx792_0; obtain rfl : ad788 = ad792 := (by injection e792); replace hx792_0 := cbH HB hx792_0; replace hx792_1 := cbH HB hx792_1; replace hx792_2 := cbH HB hx792_2; replace hx792_3 := cbH HB hx792_3; replace p792 := eq_true p792; replace q792 := eq_true q792; refine start_ (n := 17) (S := fun w' => w'.cell? ⟨gb791, 0, none⟩ = some (.string ((rd_T61 l0_1 t789).f0)) ∧ w'.cell? ⟨gb791, 1, none⟩ = some (.int .i64 ((rd_T61 l0_1 t789).f1)) ∧ w'.cell? ⟨gb791, 2, none⟩ = some (.int .i64 ((rd_T61 l0_1 t789).f2)) ∧ w'.cell? ⟨gb791, 3, none⟩ = some (.int .i64 ((rd_T61 l0_1 t789).f3)) ∧ w'.cell? ⟨gb791, 4, none⟩ = some (.int .i64 ((rd_T61 l0_1 t789).f4)) ∧ w'.cell? ⟨gb791, 5, none⟩ = some (.int .i64 ((rd_T61 l0_1 t789).f5)) ∧ w'.cell? ⟨gb791, 6, none⟩ = some (.int .i64 ((rd_T61 l0_1 t789).f6)) ∧ w'.cell? ⟨gb791, 7, none⟩ = some (.int .i64 ((rd_T61 l0_1 t789).f7)) ∧ w'.cell? ⟨gb791, 8, none⟩ = some (.int .i64 ((rd_T61 l0_1 t789).f8)) ∧ w'.cell? ⟨gb786, 0, none⟩ = some (.slice A0_0 l0_0.length c0_0) ∧ w'.cell? ⟨gb786, 1, none⟩ = some (.slice (some ad790) l0_1.length c0_1) ∧ w'.cell? ⟨gb786, 2, none⟩ = some (.slice (some ad788) l0_2.length c0_2) ∧ w'.cell? (ad788.add ((x5_1).toNat * 4)) = some (.int .i64 ((rd_T58 l0_2 x5_1).f0)) ∧ w'.cell? ⟨(ad788.add ((x5_1).toNat * 4)).block, (ad788.add ((x5_1).toNat * 4)).off + 1, none⟩ = some (.int .i64 ((rd_T58 l0_2 x5_1).f1)) ∧ w'.cell? ⟨(ad788.add ((x5_1).toNat * 4)).block, (ad788.add ((x5_1).toNat * 4)).off + 2, none⟩ = some (.string ((rd_T58 l0_2 x5_1).f2)) ∧ w'.cell? ⟨(ad788.add ((x5_1).toNat * 4)).block, (ad788.add ((x5_1).toNat * 4)).off + 3, none⟩ = some (.int .i64 ((rd_T58 l0_2 x5_1).f3))) (ds := []) (bT 17 0) Zm rfl rfl ⟨(blk_cell BK791.out 0).trans rfl, (blk_cell BK791.out 1).trans rfl, (blk_cell BK791.out 2).trans rfl, (blk_cell BK791.out 3).trans rfl, (blk_cell BK791.out 4).trans rfl, (blk_cell BK791.out 5).trans rfl, (blk_cell BK791.out 6).trans rfl, (blk_cell BK791.out 7).trans rfl, (blk_cell BK791.out 8).trans rfl, (blk_cell BK786.out 0).trans rfl, (blk_cell BK786.out 1).trans rfl, (blk_cell BK786.out 2).trans rfl, (cbH HB hw792_0 :), (cbH HB hw792_1 :), (cbH HB hw792_2 :), (cbH HB hw792_3 :)⟩ (fun hHeld => ?_); refine with_tabW spec_ShowEnd.tab8 spec_ShowEnd.bits8 (fun HT_ HW_ => ?_)
          generalize w29.drew = w30 at BK786 BK791 HB hx792_0 hx792_1 hx792_2 hx792_3 hHeld ⊢; refine pureZ HT_ 0 (some 30) (bT 17 1) ?_; refine pureZ HT_ 3 (some 33) (bB 17 9) ?_; refine pureZ HT_ 5 (some 35) (bB 17 41) ?_; refine pureZ HT_ 9 (some 39) (bB 17 553) ?_; refine takeZ16 HT_ HW_ 1 (some 31) (bB 17 555) hHeld ?_; refine takeZ16 HT_ HW_ 2 (some 32) (bB 17 559) hHeld ?_; refine takeZ16 HT_ HW_ 4 (some 34) (bB 17 575) hHeld ?_; refine pureZ HT_ 6 (some 36) (bB 17 639) ?_; refine takeZ16 HT_ HW_ 7 (some 37) (bB 17 767) hHeld ?_; refine takeZ16 HT_ HW_ 10 (some 40) (bB 17 1791) hHeld ?_; refine pureZ HT_ 11 (some 41) (bB 17 3839) ?_; refine one_ (i := 8) (N := some 38) (bT 17 12) rfl rfl (one_of HT_.out Zm) (by decide) (fun K hK => ?_); refine goes_ Try.func72 Zm rfl #[.agg #[.slice A0_0 l0_0.length c0_0, .slice (some ad790) l0_1.length c0_1, .slice (some ad788) l0_2.length c0_2], .agg #[.int .i64 ((rd_T58 l0_2 x5_1).f0), .int .i64 ((rd_T58 l0_2 x5_1).f1), .string ((rd_T58 l0_2 x5_1).f2), .int .i64 ((rd_T58 l0_2 x5_1).f3)]] (by rfl) rfl rfl Zn ?_
          with_reducible refine (spec_l08Time.calls k1 _ _ l0_0 _ _ l0_1 _ _ l0_2 ((rd_T58 l0_2 x5_1).f0) ((rd_T58 l0_2 x5_1).f1) ((rd_T58 l0_2 x5_1).f2) ((rd_T58 l0_2 x5_1).f3) t793 _ ?side1 ?side2 ?side3 ?side4 ?side5 ?side6 A12.out).mono ?_
          (case side1 => exact (Zi HR0_0))
          (case side2 => exact HC0_0.out)
          (case side3 => exact (Zi HR0_1))
          (case side4 => exact HC0_1.out)
          (case side5 => exact (Zi HR0_2))
          (case side6 => exact HC0_2.out)
          rintro e w31 ⟨rfl, hb⟩; refine ⟨_, rfl, ?_⟩; replace BK786 := (bkZ BK786 hb); replace BK791 := (bkZ BK791 hb); replace HB := (bsZ (Zk GE786 GE791) hb)
          (try clear hb)
          (try clear hb2)
          (try clear hk)
          (try clear hi)
          refine hK.out _ _ (Zcw BK791 BK786 hw792_0 hw792_1 hw792_2 hw792_3) (fun hHeld => ?_); clear hK K; refine normZ 38 ?_; refine one_ (i := 12) (N := some 42) (bT 17 13) rfl rfl (one_of HT_.out Zm) (by decide) (fun K hK => ?_); refine goes_ Try.func71 Zm rfl #[.agg #[.string ((rd_T61 l0_1 t789).f0), .int .i64 ((rd_T61 l0_1 t789).f1), .int .i64 ((rd_T61 l0_1 t789).f2), .int .i64 ((rd_T61 l0_1 t789).f3), .int .i64 ((rd_T61 l0_1 t789).f4), .int .i64 ((rd_T61 l0_1 t789).f5), .int .i64 ((rd_T61 l0_1 t789).f6), .int .i64 ((rd_T61 l0_1 t789).f7), .int .i64 ((rd_T61 l0_1 t789).f8)], .int .i64 t793, .int .i64 (wrap64 (((rd_T61 l0_1 t789).f5) - 1))] (by rfl) rfl rfl Zn ?_
          with_reducible refine (spec_l03Window.calls ((rd_T61 l0_1 t789).f0) ((rd_T61 l0_1 t789).f1) ((rd_T61 l0_1 t789).f2) ((rd_T61 l0_1 t789).f3) ((rd_T61 l0_1 t789).f4) ((rd_T61 l0_1 t789).f5) ((rd_T61 l0_1 t789).f6) ((rd_T61 l0_1 t789).f7) ((rd_T61 l0_1 t789).f8) t793 (wrap64 (((rd_T61 l0_1 t789).f5) - 1)) t794 _ A13.out).mono ?_
          rintro e w32 ⟨v795, rfl, ho0, hb⟩; refine ⟨_, rfl, ?_⟩; replace HO796 := am_ (Kd.R_lower ho0 (below_size (Zk GE786 GE791))); replace BK786 := (bkZ BK786 hb); replace BK791 := (bkZ BK791 hb); replace HB := (bsZ (Zk GE786 GE791) hb)
          (try clear hb)
          (try clear hb2)
          (try clear hk)
          (try clear hi)
          (try clear ho0)
          obtain ⟨Ao33, co33, eo33⟩ := Kd.R_slice HO796.out
          (first | subst eo33 | (injection eo33 with f1_ f2_ f3_; have f4_ := f1_.symm; have f5_ := f3_.symm; clear f1_ f2_ f3_; subst f4_; subst f5_))
          have p797 : 0 ≤ (1 : Int) := (by omega); have q797 : 1 < (t794.length : Int) := of_decide_eq_true Zc; obtain ⟨ad797, e797, hx797_0⟩ := Kd.at_int (Kd.R_reads' HO796.out).2.2 1 p797 q797
          cases e797
          (try simp only [show (1 : Int).toNat = 1 from rfl, Nat.reduceMul, Nat.reduceEqDiff, Go.Addr.add, ↓reduceIte] at hx797_0)
          have qi797 : (1 < t794.length) = True := eq_true (by omega)
          (try rw [show ((1 : Int)).toNat = 1 from rfl] at hx797_0)
          replace p797 := eq_true p797; replace q797 := eq_true q797; refine hK.out _ _ (Zcw BK791 BK786 hw792_0 hw792_1 hw792_2 hw792_3) (fun hHeld => ?_); clear hK K; refine normZ 42 ?_; refine pureZ HT_ 13 (some 43) (bT 17 14) ?_; refine one_ (i := 14) (N := some 44) (bT 17 15) rfl rfl (one_of HT_.out Zm) (by decide) (fun K hK => ?_); refine value_ (v := .int .i64 (rd t794 1)) (by rfl) rfl (by go_simp; rfl) ?_; refine hK.out _ _ (Zcw BK791 BK786 hw792_0 hw792_1 hw792_2 hw792_3) (fun hHeld => ?_); clear hK K; refine normZ 44 ?_; refine pureZ HT_ 15 (some 45) (bT 17 16) ?_; refine pureZ HT_ 16 (some 4) (bT 17 17) ?_; refine done_ (done_of HT_.out Zm) ?_
          try go_wp2
          go_roundg k1
          case measure => have := HK1.out; omega
          case rel => exact ⟨(ji15), (wrap64 (x5_1 + 1)), (by first | rfl | (simp; done) | (simp only [← hji15] <;> (first | rfl | simp)) | (simp [*]; done)), Za, H', ⟨Zd⟩, ⟨(Zq BK786)⟩, ⟨(Zk GE786 GE791)⟩⟩
         ·rw [if_neg c14] at H
          exact absurd H (by simp)
        ·rw [if_neg c11] at H
         exact absurd H (by simp)
       ·rw [if_neg c10] at H
        exact absurd H (by simp)
      ·rw [if_neg c8] at H
       exact absurd H (by simp)
     ·rw [if_neg c7] at H
      have c7b0 := decide_eq_false c7; clear c7; simp only [Option.some.injEq, Prod.mk.injEq] at H; obtain ⟨rfl, rfl⟩ := H; refine ci3 BK786 ?_; intros
      go_wp2
      go_ret2
      exact ⟨Zl, (Zh GE786)⟩
  ·have H := HS_.out
   clear HS_; replace c3 := Bool.eq_false_iff.mpr c3; subst c3; rw [if_neg (show ¬ (false = true) by decide)] at H; simp only [Option.some.injEq, Prod.mk.injEq] at H; obtain ⟨rfl, rfl⟩ := H
   go_wp2_with (first | fail)
   go_ret2
   exact ⟨Zl, (Zh GE786)⟩
def laws_likeInts.l0 : Nat → List Int → List Int → Int → Option (Bool)
 | 0, _, _, _ => none
 | k + 1, x0, x1, x5 => if x5 < (x0.length : Int) then (if 0 ≤ x5 then (if x5 < (x1.length : Int) then (if (rd x0 x5) = (rd x1 x5) then (laws_likeInts.l0 k x0 x1 (wrap64 (x5 + 1))) else (some false)) else (none)) else (none)) else (some true)
def laws_likeInts.f (k : Nat) (l0 : List Int) (l1 : List Int) : Option (Bool) := if (l0.length : Int) = (l1.length : Int) then (laws_likeInts.l0 k l0 l1 0) else (some false)
set_option maxHeartbeats 8000000 in
set_option maxRecDepth 100000 in
theorem laws_likeInts.calls (k : Nat) (A0 : Option Addr) (c0 : Nat) (l0 : List Int) (A1 : Option Addr) (c1 : Nat) (l1 : List Int) (r : Bool) (w : World) (hr0 : Kd.C (Kd.int .i64) w A0 l0.length l0) (hc0 : l0.length ≤ c0) (hr1 : Kd.C (Kd.int .i64) w A1 l1.length l1) (hc1 : l1.length ≤ c1) (h : laws_likeInts.f k l0 l1 = some r) :
  Calls Try.prog 29 #[.slice A0 l0.length c0, .slice A1 l1.length c1] w fun e w' => e = .returned (.bool r) ∧ Drawn0 w w' := by
 have HR0 := am_ hr0; have HC0 := am_ hc0; clear hr0 hc0; have HR1 := am_ hr1; have HC1 := am_ hc1; clear hr1 hc1; have H : (if (l0.length : Int) = (l1.length : Int) then (laws_likeInts.l0 k l0 l1 0) else (some false)) = some r := h; clear h
 by_cases c3 : (l0.length : Int) = (l1.length : Int)
 ·rw [if_pos c3] at H
  have c3b0 := beq_iff_eq.mpr c3; have c3b1 := bne_eq_false_iff_eq.mpr c3
  have c3b2 : (l0.length == l1.length) = true := by first | simpa using c3 | (simp at c3 ⊢; omega)
  clear c3; have H' := am_ H; clear H
  go_enter Try.func29, Try.ntmps29
  go_wp2
  repeat (go_quiet (fail); try go_wp2)
  go_loopg [5] k (fun kq v5 w' => ∃ (x5_1 : Int), v5 = .int .i64 x5_1 ∧ Aside0 (laws_likeInts.l0 kq l0 l1 x5_1 = some r) ∧ Aside0 (kq ≤ k) ∧ Drawn0 w w')
  case atStart => exact ⟨(0), Za, H', ⟨Nat.le_refl _⟩, Zb⟩
  case round =>
   clear H'
   try clear c1
   try clear c2
   try clear p2
   try clear c3
   try clear c3b0
   try clear c3b1
   try clear c3b2
   obtain ⟨x5_1, rfl, HA, HK1, ⟨m1, rfl⟩⟩ := hrel
   cases gk with
   | zero => exact absurd HA.out (by simp [laws_likeInts.l0])
   | succ k1 =>
    have H := HA.out; clear HA; simp only [laws_likeInts.l0] at H
    by_cases c4 : x5_1 < (l0.length : Int)
    ·rw [if_pos c4] at H
     have c4b0 := decide_eq_true c4; clear c4
     by_cases c5 : 0 ≤ x5_1
     ·rw [if_pos c5] at H
      have c5b0 := decide_eq_true c5; clear c5
      by_cases c6 : x5_1 < (l1.length : Int)
      ·rw [if_pos c6] at H
       have c6b0 := decide_eq_true c6; clear c6
       by_cases c7 : (rd l0 x5_1) = (rd l1 x5_1)
       ·rw [if_pos c7] at H
        have c7b0 := beq_iff_eq.mpr c7; have c7b1 := bne_eq_false_iff_eq.mpr c7; clear c7; have H' := am_ H; clear H; have p798 : 0 ≤ (x5_1 : Int) := of_decide_eq_true Zc; have q798 : x5_1 < (l0.length : Int) := of_decide_eq_true Zc; obtain ⟨ad798, e798, hx798_0⟩ := Kd.at_int HR0.out x5_1 p798 q798
        cases e798
        replace p798 := eq_true p798; replace q798 := eq_true q798; have p799 : 0 ≤ (x5_1 : Int) := of_decide_eq_true Zc; have q799 : x5_1 < (l1.length : Int) := of_decide_eq_true Zc; obtain ⟨ad799, e799, hx799_0⟩ := Kd.at_int HR1.out x5_1 p799 q799
        cases e799
        replace p799 := eq_true p799; replace q799 := eq_true q799
        go_wp2
        repeat (go_quiet (fail); try go_wp2)
        go_roundg k1
        case measure => have := HK1.out; omega
        case rel => exact ⟨(wrap64 (x5_1 + 1)), Za, H', ⟨Zd⟩, Zb⟩
       ·rw [if_neg c7] at H
        have c7b0 := beq_eq_false_iff_ne.mpr c7; have c7b1 := bne_iff_ne.mpr c7; obtain rfl := Option.some.inj H; have p798 : 0 ≤ (x5_1 : Int) := of_decide_eq_true Zc; have q798 : x5_1 < (l0.length : Int) := of_decide_eq_true Zc; obtain ⟨ad798, e798, hx798_0⟩ := Kd.at_int HR0.out x5_1 p798 q798
        cases e798
        replace p798 := eq_true p798; replace q798 := eq_true q798; have p799 : 0 ≤ (x5_1 : Int) := of_decide_eq_true Zc; have q799 : x5_1 < (l1.length : Int) := of_decide_eq_true Zc; obtain ⟨ad799, e799, hx799_0⟩ := Kd.at_int HR1.out x5_1 p799 q799
        cases e799
        replace p799 := eq_true p799; replace q799 := eq_true q799
        go_wp2
        repeat (go_quiet (fail); try go_wp2)
        go_ret
        exact ⟨Za, Zb⟩
      ·rw [if_neg c6] at H
       exact absurd H (by simp)
     ·rw [if_neg c5] at H
      exact absurd H (by simp)
    ·rw [if_neg c4] at H
     have c4b0 := decide_eq_false c4; clear c4; obtain rfl := Option.some.inj H
     go_wp2
     repeat (go_quiet (fail); try go_wp2)
     go_ret
     exact ⟨Za, Zb⟩
 ·rw [if_neg c3] at H
  have c3b0 := beq_eq_false_iff_ne.mpr c3; have c3b1 := bne_iff_ne.mpr c3
  have c3b2 : (l0.length == l1.length) = false := by first | simpa using c3 | (simp at c3 ⊢; omega)
  obtain rfl := Option.some.inj H
  go_enter Try.func29, Try.ntmps29
  go_wp2
  repeat (go_quiet (fail); try go_wp2)
  go_ret
  exact ⟨Za, Zb⟩
def impl_BeatTime.f (k : Nat) (l0 : List (S104)) (a1 : Int) (a2 : Int) : Option (Int × Int) := (impl_IsScore.f k l0).bind fun t800 => (if t800 = true then ((impl_isBeat.f l0 a1 a2).bind fun t801 => (if t801 = true then ((impl_beatTime.f k l0 a1 a2).bind fun t802 => (some (t802, 0))) else (some (0, 2)))) else (some (0, 1)))
set_option maxHeartbeats 8000000 in
set_option maxRecDepth 100000 in
theorem impl_BeatTime.calls (k : Nat) (A0 : Option Addr) (c0 : Nat) (l0 : List (S104)) (a1 : Int) (a2 : Int) (r1 : Int) (r2 : Int) (w : World) (hr0 : Kd.C k104 w A0 l0.length l0) (hc0 : l0.length ≤ c0) (h : impl_BeatTime.f k l0 a1 a2 = some (r1, r2)) :
  Calls Try.prog 31 #[.slice A0 l0.length c0, .int .i64 a1, .int .i64 a2] w fun e w' => e = .returned (.tuple #[.int .i64 r1, .int .i64 r2]) ∧ Below w.heap.size w w' := by
 have HR0 := am_ hr0; have HC0 := am_ hc0; clear hr0 hc0; have HB := am_ (Below.refl w.heap.size w); have H : ((impl_IsScore.f k l0).bind fun t800 => (if t800 = true then ((impl_isBeat.f l0 a1 a2).bind fun t801 => (if t801 = true then ((impl_beatTime.f k l0 a1 a2).bind fun t802 => (some (t802, 0))) else (some (0, 2)))) else (some (0, 1)))) = some (r1, r2) := h; clear h; replace H := Option.bind_eq_some_iff.mp H; obtain ⟨t800, A40, H⟩ := H; have A4 := am_ A40; clear A40; have HS_ := am_ H; clear H
 go_enter Try.func31, Try.ntmps31
 go_wp2_with (first | ((with_reducible refine gate_callee (f := 73) rfl ?_); refine gZ 9 Try.func73 #[.slice A0 l0.length c0] ?_; (with_reducible refine (impl_IsScore.calls k _ _ l0 t800 _ ?_ ?_ A4.out).mono ?_); exact (Zcx HR0); exact HC0.out; rintro e w9 ⟨rfl, hb⟩; refine ⟨_, rfl, ?_⟩; replace HB := (bsZ Zf hb); clear hb; refine ?roundEnd))
 case roundEnd =>
  by_cases c5 : t800 = true
  ·have H := HS_.out
   clear HS_; subst c5; rw [if_pos rfl] at H; replace H := Option.bind_eq_some_iff.mp H; obtain ⟨t801, A60, H⟩ := H; have A6 := am_ A60; clear A60; have HS_ := am_ H; clear H
   go_wp2_with (first | ((with_reducible refine gate_callee (f := 75) rfl ?_); refine gZ 14 Try.func75 #[.slice A0 l0.length c0, .int .i64 a1, .int .i64 a2] ?_; (with_reducible refine (impl_isBeat.calls _ _ l0 a1 a2 t801 _ ?_ ?_ A6.out).mono ?_); exact (Zi HR0); exact HC0.out; rintro e w' ⟨rfl, ⟨nd, rfl⟩⟩; refine ⟨_, rfl, ?_⟩; refine ?roundEnd))
   case roundEnd =>
    by_cases c7 : t801 = true
    ·have H := HS_.out
     clear HS_; subst c7; rw [if_pos rfl] at H; replace H := Option.bind_eq_some_iff.mp H; obtain ⟨t802, A80, H⟩ := H; have A8 := am_ A80; clear A80; simp only [Option.some.injEq, Prod.mk.injEq] at H; obtain ⟨rfl, rfl⟩ := H
     go_wp2_with (first | ((with_reducible refine gate_callee (f := 76) rfl ?_); refine gZ 19 Try.func76 #[.slice A0 l0.length c0, .int .i64 a1, .int .i64 a2] ?_; (with_reducible refine (impl_beatTime.calls k _ _ l0 a1 a2 t802 _ ?_ ?_ A8.out).mono ?_); exact (by repeat (first | exact (Kd.C_below HR0.out Zf) | (with_reducible refine Kd.C_alloc ?_ _) | (with_reducible refine Kd.C_drewN ?_ _) | (with_reducible refine Kd.C_drew ?_))); exact HC0.out; rintro e w10 ⟨rfl, hb⟩; refine ⟨_, rfl, ?_⟩; replace HB := (bsZ Zf hb); clear hb))
     go_ret2
     exact ⟨Zl, Zf⟩
    ·have H := HS_.out
     clear HS_; replace c7 := Bool.eq_false_iff.mpr c7; subst c7; rw [if_neg (show ¬ (false = true) by decide)] at H; simp only [Option.some.injEq, Prod.mk.injEq] at H; obtain ⟨rfl, rfl⟩ := H
     go_wp2_with (first | fail)
     go_ret2
     exact ⟨Zl, Zf⟩
  ·have H := HS_.out
   clear HS_; replace c5 := Bool.eq_false_iff.mpr c5; subst c5; rw [if_neg (show ¬ (false = true) by decide)] at H; simp only [Option.some.injEq, Prod.mk.injEq] at H; obtain ⟨rfl, rfl⟩ := H
   go_wp2_with (first | fail)
   go_ret2
   exact ⟨Zl, Zf⟩
def impl_FindArticle.f (k : Nat) (l0 : List (S61)) (a1 : ByteArray) : Option (Int × Int) := (impl_AreArticles.f k l0).bind fun t803 => (if t803 = true then ((impl_articleOf.f k l0 a1).bind fun t804 => (if t804 < 0 then (some (0, 4)) else (some (t804, 0)))) else (some (0, 1)))
set_option maxHeartbeats 8000000 in
set_option maxRecDepth 100000 in
theorem impl_FindArticle.calls (k : Nat) (A0 : Option Addr) (c0 : Nat) (l0 : List (S61)) (a1 : ByteArray) (r1 : Int) (r2 : Int) (w : World) (hr0 : Kd.C k61 w A0 l0.length l0) (hc0 : l0.length ≤ c0) (h : impl_FindArticle.f k l0 a1 = some (r1, r2)) :
  Calls Try.prog 32 #[.slice A0 l0.length c0, .string a1] w fun e w' => e = .returned (.tuple #[.int .i64 r1, .int .i64 r2]) ∧ Below w.heap.size w w' := by
 have HR0 := am_ hr0; have HC0 := am_ hc0; clear hr0 hc0; have HB := am_ (Below.refl w.heap.size w); have H : ((impl_AreArticles.f k l0).bind fun t803 => (if t803 = true then ((impl_articleOf.f k l0 a1).bind fun t804 => (if t804 < 0 then (some (0, 4)) else (some (t804, 0)))) else (some (0, 1)))) = some (r1, r2) := h; clear h; replace H := Option.bind_eq_some_iff.mp H; obtain ⟨t803, A30, H⟩ := H; have A3 := am_ A30; clear A30; have HS_ := am_ H; clear H
 go_enter Try.func32, Try.ntmps32
 go_wp2_with (first | ((with_reducible refine gate_callee (f := 74) rfl ?_); refine gZ 8 Try.func74 #[.slice A0 l0.length c0] ?_; (with_reducible refine (impl_AreArticles.calls k _ _ l0 t803 _ ?_ ?_ A3.out).mono ?_); exact (Zcx HR0); exact HC0.out; rintro e w7 ⟨rfl, hb⟩; refine ⟨_, rfl, ?_⟩; replace HB := (bsZ Zf hb); clear hb; refine ?roundEnd))
 case roundEnd =>
  by_cases c4 : t803 = true
  ·have H := HS_.out
   clear HS_; subst c4; rw [if_pos rfl] at H; replace H := Option.bind_eq_some_iff.mp H; obtain ⟨t804, A50, H⟩ := H; have A5 := am_ A50; clear A50; have HS_ := am_ H; clear H
   go_wp2_with (first | ((with_reducible refine gate_callee (f := 77) rfl ?_); refine gZ 12 Try.func77 #[.slice A0 l0.length c0, .string a1] ?_; (with_reducible refine (impl_articleOf.calls k _ _ l0 a1 t804 _ ?_ ?_ A5.out).mono ?_); exact (Zi HR0); exact HC0.out; rintro e w8 ⟨rfl, hb⟩; refine ⟨_, rfl, ?_⟩; replace HB := (bsZ Zf hb); clear hb; refine ?roundEnd))
   case roundEnd =>
    by_cases c6 : t804 < 0
    ·have H := HS_.out
     clear HS_; rw [if_pos c6] at H; have c6b0 := decide_eq_true c6; clear c6; simp only [Option.some.injEq, Prod.mk.injEq] at H; obtain ⟨rfl, rfl⟩ := H
     go_wp2_with (first | fail)
     go_ret2
     exact ⟨Zl, Zf⟩
    ·have H := HS_.out
     clear HS_; rw [if_neg c6] at H; have c6b0 := decide_eq_false c6; clear c6; simp only [Option.some.injEq, Prod.mk.injEq] at H; obtain ⟨rfl, rfl⟩ := H
     go_wp2_with (first | fail)
     go_ret2
     exact ⟨Zl, Zf⟩
  ·have H := HS_.out
   clear HS_; replace c4 := Bool.eq_false_iff.mpr c4; subst c4; rw [if_neg (show ¬ (false = true) by decide)] at H; simp only [Option.some.injEq, Prod.mk.injEq] at H; obtain ⟨rfl, rfl⟩ := H
   go_wp2_with (first | fail)
   go_ret2
   exact ⟨Zl, Zf⟩
def spec_FindArticle.f (k : Nat) (l0 : List (S61)) (a1 : ByteArray) : Option (Int × Int) := (spec_AreArticles.f k l0).bind fun t805 => (if t805 = true then ((spec_l03Find.f k l0 a1).bind fun t806 => (if t806 < 0 then (some (0, 4)) else (some (t806, 0)))) else (some (0, 1)))
set_option maxHeartbeats 8000000 in
set_option maxRecDepth 100000 in
theorem spec_FindArticle.calls (k : Nat) (A0 : Option Addr) (c0 : Nat) (l0 : List (S61)) (a1 : ByteArray) (r1 : Int) (r2 : Int) (w : World) (hr0 : Kd.C k61 w A0 l0.length l0) (hc0 : l0.length ≤ c0) (h : spec_FindArticle.f k l0 a1 = some (r1, r2)) :
  Calls Try.prog 33 #[.slice A0 l0.length c0, .string a1] w fun e w' => e = .returned (.tuple #[.int .i64 r1, .int .i64 r2]) ∧ Below w.heap.size w w' := by
 have HR0 := am_ hr0; have HC0 := am_ hc0; clear hr0 hc0; have HB := am_ (Below.refl w.heap.size w); have H : ((spec_AreArticles.f k l0).bind fun t805 => (if t805 = true then ((spec_l03Find.f k l0 a1).bind fun t806 => (if t806 < 0 then (some (0, 4)) else (some (t806, 0)))) else (some (0, 1)))) = some (r1, r2) := h; clear h; replace H := Option.bind_eq_some_iff.mp H; obtain ⟨t805, A30, H⟩ := H; have A3 := am_ A30; clear A30; have HS_ := am_ H; clear H
 go_enter Try.func33, Try.ntmps33
 go_wp2_with (first | ((with_reducible refine gate_callee (f := 78) rfl ?_); refine gZ 8 Try.func78 #[.slice A0 l0.length c0] ?_; (with_reducible refine (spec_AreArticles.calls k _ _ l0 t805 _ ?_ ?_ A3.out).mono ?_); exact (Zcx HR0); exact HC0.out; rintro e w7 ⟨rfl, hb⟩; refine ⟨_, rfl, ?_⟩; replace HB := (bsZ Zf hb); clear hb; refine ?roundEnd))
 case roundEnd =>
  by_cases c4 : t805 = true
  ·have H := HS_.out
   clear HS_; subst c4; rw [if_pos rfl] at H; replace H := Option.bind_eq_some_iff.mp H; obtain ⟨t806, A50, H⟩ := H; have A5 := am_ A50; clear A50; have HS_ := am_ H; clear H
   go_wp2_with (first | ((with_reducible refine gate_callee (f := 70) rfl ?_); refine gZ 12 Try.func70 #[.slice A0 l0.length c0, .string a1] ?_; (with_reducible refine (spec_l03Find.calls k _ _ l0 a1 t806 _ ?_ ?_ A5.out).mono ?_); exact (Zi HR0); exact HC0.out; rintro e w' ⟨rfl, ⟨nd, rfl⟩⟩; refine ⟨_, rfl, ?_⟩; refine ?roundEnd))
   case roundEnd =>
    by_cases c6 : t806 < 0
    ·have H := HS_.out
     clear HS_; rw [if_pos c6] at H; have c6b0 := decide_eq_true c6; clear c6; simp only [Option.some.injEq, Prod.mk.injEq] at H; obtain ⟨rfl, rfl⟩ := H
     go_wp2_with (first | fail)
     go_ret2
     exact ⟨Zl, Zf⟩
    ·have H := HS_.out
     clear HS_; rw [if_neg c6] at H; have c6b0 := decide_eq_false c6; clear c6; simp only [Option.some.injEq, Prod.mk.injEq] at H; obtain ⟨rfl, rfl⟩ := H
     go_wp2_with (first | fail)
     go_ret2
     exact ⟨Zl, Zf⟩
  ·have H := HS_.out
   clear HS_; replace c4 := Bool.eq_false_iff.mpr c4; subst c4; rw [if_neg (show ¬ (false = true) by decide)] at H; simp only [Option.some.injEq, Prod.mk.injEq] at H; obtain ⟨rfl, rfl⟩ := H
   go_wp2_with (first | fail)
   go_ret2
   exact ⟨Zl, Zf⟩
def laws_hasInt.l0 : Nat → List Int → Int → Int → Option (Bool)
 | 0, _, _, _ => none
 | k + 1, x0, x1, x5 => if x5 < (x0.length : Int) then (if 0 ≤ x5 then (if (rd x0 x5) = x1 then (some true) else (laws_hasInt.l0 k x0 x1 (wrap64 (x5 + 1)))) else (none)) else (some false)
def laws_hasInt.f (k : Nat) (l0 : List Int) (a1 : Int) : Option (Bool) := laws_hasInt.l0 k l0 a1 0
set_option maxHeartbeats 8000000 in
set_option maxRecDepth 100000 in
theorem laws_hasInt.calls (k : Nat) (A0 : Option Addr) (c0 : Nat) (l0 : List Int) (a1 : Int) (r : Bool) (w : World) (hr0 : Kd.C (Kd.int .i64) w A0 l0.length l0) (hc0 : l0.length ≤ c0) (h : laws_hasInt.f k l0 a1 = some r) :
  Calls Try.prog 34 #[.slice A0 l0.length c0, .int .i64 a1] w fun e w' => e = .returned (.bool r) ∧ Drawn0 w w' := by
 have HR0 := am_ hr0; have HC0 := am_ hc0; clear hr0 hc0; have H : (laws_hasInt.l0 k l0 a1 0) = some r := h; clear h; have H' := am_ H; clear H
 go_enter Try.func34, Try.ntmps34
 go_wp2
 go_loopg [5] k (fun kq v5 w' => ∃ (x5_1 : Int), v5 = .int .i64 x5_1 ∧ Aside0 (laws_hasInt.l0 kq l0 a1 x5_1 = some r) ∧ Aside0 (kq ≤ k) ∧ Drawn0 w w')
 case atStart => exact ⟨(0), Za, H', ⟨Nat.le_refl _⟩, Zb⟩
 case round =>
  clear H'
  try clear p2
  obtain ⟨x5_1, rfl, HA, HK1, ⟨m1, rfl⟩⟩ := hrel
  cases gk with
  | zero => exact absurd HA.out (by simp [laws_hasInt.l0])
  | succ k1 =>
   have H := HA.out; clear HA; simp only [laws_hasInt.l0] at H
   by_cases c3 : x5_1 < (l0.length : Int)
   ·rw [if_pos c3] at H
    have c3b0 := decide_eq_true c3; clear c3
    by_cases c4 : 0 ≤ x5_1
    ·rw [if_pos c4] at H
     have c4b0 := decide_eq_true c4; clear c4
     by_cases c5 : (rd l0 x5_1) = a1
     ·rw [if_pos c5] at H
      have c5b0 := beq_iff_eq.mpr c5; have c5b1 := bne_eq_false_iff_eq.mpr c5; clear c5; obtain rfl := Option.some.inj H; have p807 : 0 ≤ (x5_1 : Int) := of_decide_eq_true Zc; have q807 : x5_1 < (l0.length : Int) := of_decide_eq_true Zc; obtain ⟨ad807, e807, hx807_0⟩ := Kd.at_int HR0.out x5_1 p807 q807
      cases e807
      replace p807 := eq_true p807; replace q807 := eq_true q807
      go_wp2
      go_ret
      exact ⟨Za, Zb⟩
     ·rw [if_neg c5] at H
      have c5b0 := beq_eq_false_iff_ne.mpr c5; have c5b1 := bne_iff_ne.mpr c5; have H' := am_ H; clear H; have p807 : 0 ≤ (x5_1 : Int) := of_decide_eq_true Zc; have q807 : x5_1 < (l0.length : Int) := of_decide_eq_true Zc; obtain ⟨ad807, e807, hx807_0⟩ := Kd.at_int HR0.out x5_1 p807 q807
      cases e807
      replace p807 := eq_true p807; replace q807 := eq_true q807
      go_wp2
      go_roundg k1
      case measure => have := HK1.out; omega
      case rel => exact ⟨(wrap64 (x5_1 + 1)), Za, H', ⟨Zd⟩, Zb⟩
    ·rw [if_neg c4] at H
     exact absurd H (by simp)
   ·rw [if_neg c3] at H
    have c3b0 := decide_eq_false c3; clear c3; obtain rfl := Option.some.inj H
    go_wp2
    go_ret
    exact ⟨Za, Zb⟩
mutual
def laws_FnShows.j0 : Nat → Int → List Int → Int → List Int → Int → List Int → Int → Bool → List (S104) → List (S61) → List (S58) → Option (Bool)
 | 0, _, _, _, _, _, _, _, _, _, _, _ => none
 | k + 1, x4, x5, x6, x9, x10, x13, x17, x135, x820000, x820001, x820002 => if x135 = true then (some false) else (laws_FnShows.l0 k x4 x5 x6 x9 x10 x13 x17 0 x820000 x820001 x820002)
def laws_FnShows.l0 : Nat → Int → List Int → Int → List Int → Int → List Int → Int → Int → List (S104) → List (S61) → List (S58) → Option (Bool)
 | 0, _, _, _, _, _, _, _, _, _, _, _ => none
 | k + 1, x4, x5, x6, x9, x10, x13, x17, x21, x820000, x820001, x820002 => if x10 = 0 then (laws_FnShows.j2 k x4 x5 x6 x9 x10 x13 x17 x21 (decide (x21 < (x820002.length : Int))) x820000 x820001 x820002) else (laws_FnShows.j2 k x4 x5 x6 x9 x10 x13 x17 x21 false x820000 x820001 x820002)
def laws_FnShows.j2 : Nat → Int → List Int → Int → List Int → Int → List Int → Int → Int → Bool → List (S104) → List (S61) → List (S58) → Option (Bool)
 | 0, _, _, _, _, _, _, _, _, _, _, _, _ => none
 | k + 1, x4, x5, x6, x9, x10, x13, x17, x21, x144, x820000, x820001, x820002 => if x144 = true then (if 0 ≤ x21 then (if x21 < (x820002.length : Int) then ((impl_BeatTime.f k x820000 ((rd_T58 x820002 x21).f0) ((rd_T58 x820002 x21).f1)).bind fun bt854 => ((impl_FindArticle.f k x820001 ((rd_T58 x820002 x21).f2)).bind fun bt857 => ((spec_FindArticle.f k x820001 ((rd_T58 x820002 x21).f2)).bind fun bt860 => (if bt857.1 = bt860.1 then (laws_FnShows.j3 k x4 x5 x6 x9 x10 x13 x17 x21 bt854.1 bt854.2 bt857.1 bt857.2 (bt857.2 != bt860.2) x820000 x820001 x820002) else (laws_FnShows.j3 k x4 x5 x6 x9 x10 x13 x17 x21 bt854.1 bt854.2 bt857.1 bt857.2 true x820000 x820001 x820002))))) else (none)) else (none)) else (laws_FnShows.l1 k x4 x5 x6 x9 0 x820000 x820001 x820002)
def laws_FnShows.j3 : Nat → Int → List Int → Int → List Int → Int → List Int → Int → Int → Int → Int → Int → Int → Bool → List (S104) → List (S61) → List (S58) → Option (Bool)
 | 0, _, _, _, _, _, _, _, _, _, _, _, _, _, _, _, _ => none
 | k + 1, x4, x5, x6, x9, x10, x13, x17, x21, x22, x23, x24, x25, x196, x820000, x820001, x820002 => if x196 = true then (some false) else (if x23 = 0 then (if x25 = 0 then (if 0 ≤ x21 then (if x21 < (x9.length : Int) then (if 0 ≤ x24 then (if x24 < (x820001.length : Int) then (if (wrap64 ((rd x9 x21) + ((rd_T61 x820001 x24).f3))) = x22 then (if (rd x9 x21) < 0 then (laws_FnShows.j4 k x4 x5 x6 x9 x10 x13 x17 x21 true x820000 x820001 x820002) else (laws_FnShows.j4 k x4 x5 x6 x9 x10 x13 x17 x21 (decide (x22 > x17)) x820000 x820001 x820002)) else (laws_FnShows.j4 k x4 x5 x6 x9 x10 x13 x17 x21 true x820000 x820001 x820002)) else (none)) else (none)) else (none)) else (none)) else (laws_FnShows.j4 k x4 x5 x6 x9 x10 x13 x17 x21 true x820000 x820001 x820002)) else (laws_FnShows.j4 k x4 x5 x6 x9 x10 x13 x17 x21 true x820000 x820001 x820002))
def laws_FnShows.j4 : Nat → Int → List Int → Int → List Int → Int → List Int → Int → Int → Bool → List (S104) → List (S61) → List (S58) → Option (Bool)
 | 0, _, _, _, _, _, _, _, _, _, _, _, _ => none
 | k + 1, x4, x5, x6, x9, x10, x13, x17, x21, x229, x820000, x820001, x820002 => if x229 = true then (some false) else (if x21 > 0 then (if 0 ≤ (wrap64 (x21 - 1)) then (if (wrap64 (x21 - 1)) < (x13.length : Int) then (if 0 ≤ (rd x13 (wrap64 (x21 - 1))) then (if (rd x13 (wrap64 (x21 - 1))) < (x9.length : Int) then (if 0 ≤ x21 then (if x21 < (x13.length : Int) then (if 0 ≤ (rd x13 x21) then (if (rd x13 x21) < (x9.length : Int) then (if (rd x9 (rd x13 (wrap64 (x21 - 1)))) > (rd x9 (rd x13 x21)) then (some false) else (if (rd x9 (rd x13 (wrap64 (x21 - 1)))) = (rd x9 (rd x13 x21)) then (if (rd x13 (wrap64 (x21 - 1))) ≥ (rd x13 x21) then (some false) else (laws_FnShows.l0 k x4 x5 x6 x9 x10 x13 x17 (wrap64 (x21 + 1)) x820000 x820001 x820002)) else (laws_FnShows.l0 k x4 x5 x6 x9 x10 x13 x17 (wrap64 (x21 + 1)) x820000 x820001 x820002))) else (none)) else (none)) else (none)) else (none)) else (none)) else (none)) else (none)) else (none)) else (laws_FnShows.l0 k x4 x5 x6 x9 x10 x13 x17 (wrap64 (x21 + 1)) x820000 x820001 x820002))
def laws_FnShows.l1 : Nat → Int → List Int → Int → List Int → Int → List (S104) → List (S61) → List (S58) → Option (Bool)
 | 0, _, _, _, _, _, _, _, _ => none
 | k + 1, x4, x5, x6, x9, x28, x820000, x820001, x820002 => if x6 = 0 then (laws_FnShows.j6 k x4 x5 x6 x9 x28 (decide (x28 < (x820002.length : Int))) x820000 x820001 x820002) else (laws_FnShows.j6 k x4 x5 x6 x9 x28 false x820000 x820001 x820002)
def laws_FnShows.j6 : Nat → Int → List Int → Int → List Int → Int → Bool → List (S104) → List (S61) → List (S58) → Option (Bool)
 | 0, _, _, _, _, _, _, _, _, _ => none
 | k + 1, x4, x5, x6, x9, x28, x288, x820000, x820001, x820002 => if x288 = true then ((laws_hasInt.f k x5 x28).bind fun t875 => (if 0 ≤ x28 then (if x28 < (x9.length : Int) then (if (t875 != ((rd x9 x28) == x4)) = true then (some false) else (laws_FnShows.l1 k x4 x5 x6 x9 (wrap64 (x28 + 1)) x820000 x820001 x820002)) else (none)) else (none))) else (some true)
end
def laws_FnShows.f (k : Nat) (l0 : List Int) : Option (Bool) := (laws_big.f l0).bind fun t808 => (if t808 = true then (some true) else ((spec_DrawFiredAt.f k l0).bind fun bt809 => ((impl_FiredAt.f k bt809.1 bt809.2.1 bt809.2.2.1 bt809.2.2.2).bind fun bt820 => ((spec_FiredAt.f k bt809.1 bt809.2.1 bt809.2.2.1 bt809.2.2.2).bind fun bt824 => ((impl_FireTimes.f k bt809.1 bt809.2.1 bt809.2.2.1).bind fun bt828 => ((spec_FireTimes.f k bt809.1 bt809.2.1 bt809.2.2.1).bind fun bt832 => ((impl_FireOrder.f k bt809.1 bt809.2.1 bt809.2.2.1).bind fun bt836 => ((spec_FireOrder.f k bt809.1 bt809.2.1 bt809.2.2.1).bind fun bt840 => ((impl_ShowEnd.f k bt809.1 bt809.2.1 bt809.2.2.1).bind fun bt844 => ((spec_ShowEnd.f k bt809.1 bt809.2.1 bt809.2.2.1).bind fun bt846 => (if bt820.2 = bt824.2 then ((laws_likeInts.f k bt820.1 bt824.1).bind fun t848 => (if t848 = true then (if bt828.2 = bt832.2 then ((laws_likeInts.f k bt828.1 bt832.1).bind fun t849 => (if t849 = true then (if bt836.2 = bt840.2 then ((laws_likeInts.f k bt836.1 bt840.1).bind fun t850 => (if t850 = true then (if bt844.2 = bt846.2 then (if bt844.1 = bt846.1 then ((impl_IsShow.f k bt809.1 bt809.2.1 bt809.2.2.1).bind fun t851 => (if (t851 != (bt832.2 == 0)) = true then (laws_FnShows.j0 k bt809.2.2.2 bt820.1 bt820.2 bt828.1 bt828.2 bt836.1 bt844.1 true bt809.1 bt809.2.1 bt809.2.2.1) else (if bt836.2 = bt828.2 then (laws_FnShows.j0 k bt809.2.2.2 bt820.1 bt820.2 bt828.1 bt828.2 bt836.1 bt844.1 (bt844.2 != bt828.2) bt809.1 bt809.2.1 bt809.2.2.1) else (laws_FnShows.j0 k bt809.2.2.2 bt820.1 bt820.2 bt828.1 bt828.2 bt836.1 bt844.1 true bt809.1 bt809.2.1 bt809.2.2.1)))) else (laws_FnShows.j0 k bt809.2.2.2 bt820.1 bt820.2 bt828.1 bt828.2 bt836.1 bt844.1 true bt809.1 bt809.2.1 bt809.2.2.1)) else (laws_FnShows.j0 k bt809.2.2.2 bt820.1 bt820.2 bt828.1 bt828.2 bt836.1 bt844.1 true bt809.1 bt809.2.1 bt809.2.2.1)) else (laws_FnShows.j0 k bt809.2.2.2 bt820.1 bt820.2 bt828.1 bt828.2 bt836.1 bt844.1 true bt809.1 bt809.2.1 bt809.2.2.1))) else (laws_FnShows.j0 k bt809.2.2.2 bt820.1 bt820.2 bt828.1 bt828.2 bt836.1 bt844.1 true bt809.1 bt809.2.1 bt809.2.2.1)) else (laws_FnShows.j0 k bt809.2.2.2 bt820.1 bt820.2 bt828.1 bt828.2 bt836.1 bt844.1 true bt809.1 bt809.2.1 bt809.2.2.1))) else (laws_FnShows.j0 k bt809.2.2.2 bt820.1 bt820.2 bt828.1 bt828.2 bt836.1 bt844.1 true bt809.1 bt809.2.1 bt809.2.2.1)) else (laws_FnShows.j0 k bt809.2.2.2 bt820.1 bt820.2 bt828.1 bt828.2 bt836.1 bt844.1 true bt809.1 bt809.2.1 bt809.2.2.1))) else (laws_FnShows.j0 k bt809.2.2.2 bt820.1 bt820.2 bt828.1 bt828.2 bt836.1 bt844.1 true bt809.1 bt809.2.1 bt809.2.2.1))))))))))))
def laws_FnShows.T17 : Bool × List (List Nat × List Nat) := (true, [([], []), ([0], [0]), ([], []), ([2], [2]), ([], []), ([3, 4], [3, 4]), ([5], [5]), ([6], [6]), ([], []), ([8], [8]), ([], []), ([9, 10], [9, 10]), ([11], [11]), ([12], [12]), ([1, 7, 13], [1, 7, 13]), ([14], [14]), ([15], [15]), ([15], [15]), ([16, 14, 0, 1, 2, 3, 4, 5, 6, 7, 8, 9, 10, 11, 12, 13, 14, 15, 16], [16]), ([17, 18, 0, 1, 2, 3, 4, 5, 6, 7, 8, 9, 10, 11, 12, 13, 14, 15, 16, 17, 18], [17])])
def laws_FnShows.B17 : List Nat := [0, 1, 0, 4, 0, 28, 60, 124, 0, 256, 0, 1792, 3840, 7936, 16383, 32767, 65535, 65535, 131071, 524287]
theorem laws_FnShows.tab17 : rtab .any (opsOf Try.f5 17) = laws_FnShows.T17 := by kernel_rfl
theorem laws_FnShows.bits17 : waitsOk laws_FnShows.T17.2 laws_FnShows.B17 = true := by kernel_rfl
def laws_FnShows.T18 : Bool × List (List Nat × List Nat) := (true, [([], []), ([0], [0]), ([], []), ([2], [2]), ([], []), ([3, 4], [3, 4]), ([5], [5]), ([6], [6]), ([1, 7], [1, 7]), ([8], [8]), ([9], [9]), ([9], [9]), ([10, 8, 0, 1, 2, 3, 4, 5, 6, 7, 8, 9, 10], [10]), ([11, 12, 0, 1, 2, 3, 4, 5, 6, 7, 8, 9, 10, 11, 12], [11])])
def laws_FnShows.B18 : List Nat := [0, 1, 0, 4, 0, 28, 60, 124, 255, 511, 1023, 1023, 2047, 8191]
theorem laws_FnShows.tab18 : rtab .any (opsOf Try.f5 18) = laws_FnShows.T18 := by kernel_rfl
theorem laws_FnShows.bits18 : waitsOk laws_FnShows.T18.2 laws_FnShows.B18 = true := by kernel_rfl
def laws_FnShows.T19 : Bool × List (List Nat × List Nat) := (true, [([], []), ([0], [0]), ([], []), ([2], [2]), ([], []), ([3, 4], [3, 4]), ([5], [5]), ([6], [6]), ([1, 7], [1, 7]), ([8], [8]), ([9], [9]), ([9], [9]), ([10, 8, 0, 1, 2, 3, 4, 5, 6, 7, 8, 9, 10], [10]), ([11, 12, 0, 1, 2, 3, 4, 5, 6, 7, 8, 9, 10, 11, 12], [11])])
def laws_FnShows.B19 : List Nat := [0, 1, 0, 4, 0, 28, 60, 124, 255, 511, 1023, 1023, 2047, 8191]
theorem laws_FnShows.tab19 : rtab .any (opsOf Try.f5 19) = laws_FnShows.T19 := by kernel_rfl
theorem laws_FnShows.bits19 : waitsOk laws_FnShows.T19.2 laws_FnShows.B19 = true := by kernel_rfl
def laws_FnShows.T22 : Bool × List (List Nat × List Nat) := (true, [([], []), ([0], [0]), ([1], [1]), ([2], [2]), ([3, 2], [2, 3]), ([2, 4], [2, 4]), ([5, 2], [5]), ([6], [6]), ([6], [6]), ([7, 8, 6], [6, 7, 8]), ([9, 6], [6, 9]), ([6], [6]), ([11, 6], [6, 11]), ([6], [6]), ([12, 13, 6], [6, 12, 13]), ([14, 6], [6, 14]), ([15, 6], [6, 15]), ([10, 16, 6], [6, 10, 16]), ([6], [6]), ([17, 18, 6], [6, 17, 18]), ([6, 19], [6, 19]), ([20, 6], [20]), ([21], [21]), ([21], [21]), ([22, 23, 21], [21, 22, 23]), ([24, 21], [21, 24]), ([25, 21], [21, 25]), ([21, 26], [21, 26]), ([27, 21], [27]), ([28], [28]), ([28], [28]), ([29, 30, 28], [28, 29, 30]), ([28, 31], [28, 31])])
def laws_FnShows.B22 : List Nat := [0, 1, 3, 7, 15, 31, 63, 127, 127, 511, 1023, 127, 2175, 127, 14463, 30847, 63615, 131071, 127, 524287, 1048575, 2097151, 4194303, 4194303, 16777215, 33554431, 67108863, 134217727, 268435455, 536870911, 536870911, 2147483647, 4294967295]
theorem laws_FnShows.tab22 : rtab .any (opsOf Try.f5 22) = laws_FnShows.T22 := by kernel_rfl
theorem laws_FnShows.bits22 : waitsOk laws_FnShows.T22.2 laws_FnShows.B22 = true := by kernel_rfl
def laws_FnShows.T24 : Bool × List (List Nat × List Nat) := (true, [([], []), ([0], [0]), ([1], [1]), ([2], [2]), ([2], [2]), ([2], [2]), ([5, 2], [2, 5]), ([4, 6, 2], [2, 4, 6]), ([7, 2], [2, 7]), ([3, 8, 2], [2, 3, 8]), ([9, 2], [2, 9]), ([2], [2]), ([2], [2]), ([2], [2]), ([12, 13, 2], [2, 12, 13]), ([14, 2], [2, 14]), ([11, 15, 2], [2, 11, 15]), ([16, 2], [2, 16]), ([10, 17, 2], [2, 10, 17]), ([18, 2, 2], [2, 18]), ([19], [19]), ([19], [19]), ([19], [19]), ([22, 19], [19, 22]), ([21, 23, 19], [19, 21, 23]), ([24, 19], [19, 24]), ([20, 25, 19], [19, 20, 25]), ([26, 19], [19, 26]), ([19], [19]), ([19], [19]), ([19], [19]), ([29, 30, 19], [19, 29, 30]), ([31, 19], [19, 31]), ([28, 32, 19], [19, 28, 32]), ([33, 19], [19, 33]), ([27, 34, 19], [19, 27, 34]), ([35, 19, 19], [19, 35]), ([36], [36]), ([36], [36]), ([38, 36], [36, 38]), ([37, 39, 36], [36, 37, 39]), ([40, 36], [36, 40]), ([36], [36]), ([36], [36]), ([42, 43, 36], [36, 42, 43]), ([44, 36], [36, 44]), ([41, 45, 36], [36, 41, 45]), ([36, 46, 19], [19, 36, 46]), ([19, 47, 2], [2, 19, 47]), ([2, 48], [2, 48])])
def laws_FnShows.B24 : List Nat := [0, 1, 3, 7, 7, 7, 39, 119, 247, 511, 1023, 7, 7, 7, 12295, 28679, 63495, 129031, 262143, 524287, 1048575, 1048575, 1048575, 5242879, 15728639, 32505855, 67108863, 134217727, 1048575, 1048575, 1048575, 1611661311, 3759144959, 8322547711, 16912482303, 34359738367, 68719476735, 137438953471, 137438953471, 412316860415, 1099511627775, 2199023255551, 137438953471, 137438953471, 13331578486783, 30923764531199, 70368744177663, 140737488355327, 281474976710655, 562949953421311]
theorem laws_FnShows.tab24 : rtab .any (opsOf Try.f5 24) = laws_FnShows.T24 := by kernel_rfl
theorem laws_FnShows.bits24 : waitsOk laws_FnShows.T24.2 laws_FnShows.B24 = true := by kernel_rfl
def laws_FnShows.T29 : Bool × List (List Nat × List Nat) := (true, [([], []), ([], []), ([0, 1], [0, 1]), ([], []), ([], []), ([3, 4], [3, 4]), ([5], [5]), ([], []), ([6, 7], [6, 7]), ([2, 8], [2, 8])])
def laws_FnShows.B29 : List Nat := [0, 0, 3, 0, 0, 24, 56, 0, 248, 511]
theorem laws_FnShows.tab29 : rtab .any (opsOf Try.f5 29) = laws_FnShows.T29 := by kernel_rfl
theorem laws_FnShows.bits29 : waitsOk laws_FnShows.T29.2 laws_FnShows.B29 = true := by kernel_rfl
theorem laws_FnShows.j0_true (k : Nat) (x4 : Int) (x5 : List Int) (x6 : Int) (x9 : List Int) (x10 : Int) (x13 : List Int) (x17 : Int) (x820000 : List (S104)) (x820001 : List (S61)) (x820002 : List (S58)) : ¬ laws_FnShows.j0 k x4 x5 x6 x9 x10 x13 x17 true x820000 x820001 x820002 = some true := by
 cases k with
 | zero => simp [laws_FnShows.j0]
 | succ k => simp [laws_FnShows.j0]
theorem laws_FnShows.j3_true (k : Nat) (x4 : Int) (x5 : List Int) (x6 : Int) (x9 : List Int) (x10 : Int) (x13 : List Int) (x17 : Int) (x21 : Int) (x22 : Int) (x23 : Int) (x24 : Int) (x25 : Int) (x820000 : List (S104)) (x820001 : List (S61)) (x820002 : List (S58)) : ¬ laws_FnShows.j3 k x4 x5 x6 x9 x10 x13 x17 x21 x22 x23 x24 x25 true x820000 x820001 x820002 = some true := by
 cases k with
 | zero => simp [laws_FnShows.j3]
 | succ k => simp [laws_FnShows.j3]
theorem laws_FnShows.j4_true (k : Nat) (x4 : Int) (x5 : List Int) (x6 : Int) (x9 : List Int) (x10 : Int) (x13 : List Int) (x17 : Int) (x21 : Int) (x820000 : List (S104)) (x820001 : List (S61)) (x820002 : List (S58)) : ¬ laws_FnShows.j4 k x4 x5 x6 x9 x10 x13 x17 x21 true x820000 x820001 x820002 = some true := by
 cases k with
 | zero => simp [laws_FnShows.j4]
 | succ k => simp [laws_FnShows.j4]
set_option maxHeartbeats 8000000 in
set_option maxRecDepth 100000 in
theorem laws_FnShows.calls (k : Nat) (A0 : Option Addr) (c0 : Nat) (l0 : List Int) (r : Bool) (w : World) (hr0 : Kd.C (Kd.int .u8) w A0 l0.length l0) (hc0 : l0.length ≤ c0) (h : laws_FnShows.f k l0 = some r) (hr_ : r = true) :
  Calls Try.prog 5 #[.slice A0 l0.length c0] w fun e w' => e = .returned (.bool r) ∧ Below w.heap.size w w' := by
 have HR_ := am_ hr_; clear hr_; have hu35 := Try.underlying35; have HR0 := am_ hr0; have HC0 := am_ hc0; clear hr0 hc0; have HB := am_ (Below.refl w.heap.size w); have H : ((laws_big.f l0).bind fun t808 => (if t808 = true then (some true) else ((spec_DrawFiredAt.f k l0).bind fun bt809 => ((impl_FiredAt.f k bt809.1 bt809.2.1 bt809.2.2.1 bt809.2.2.2).bind fun bt820 => ((spec_FiredAt.f k bt809.1 bt809.2.1 bt809.2.2.1 bt809.2.2.2).bind fun bt824 => ((impl_FireTimes.f k bt809.1 bt809.2.1 bt809.2.2.1).bind fun bt828 => ((spec_FireTimes.f k bt809.1 bt809.2.1 bt809.2.2.1).bind fun bt832 => ((impl_FireOrder.f k bt809.1 bt809.2.1 bt809.2.2.1).bind fun bt836 => ((spec_FireOrder.f k bt809.1 bt809.2.1 bt809.2.2.1).bind fun bt840 => ((impl_ShowEnd.f k bt809.1 bt809.2.1 bt809.2.2.1).bind fun bt844 => ((spec_ShowEnd.f k bt809.1 bt809.2.1 bt809.2.2.1).bind fun bt846 => (if bt820.2 = bt824.2 then ((laws_likeInts.f k bt820.1 bt824.1).bind fun t848 => (if t848 = true then (if bt828.2 = bt832.2 then ((laws_likeInts.f k bt828.1 bt832.1).bind fun t849 => (if t849 = true then (if bt836.2 = bt840.2 then ((laws_likeInts.f k bt836.1 bt840.1).bind fun t850 => (if t850 = true then (if bt844.2 = bt846.2 then (if bt844.1 = bt846.1 then ((impl_IsShow.f k bt809.1 bt809.2.1 bt809.2.2.1).bind fun t851 => (if (t851 != (bt832.2 == 0)) = true then (laws_FnShows.j0 k bt809.2.2.2 bt820.1 bt820.2 bt828.1 bt828.2 bt836.1 bt844.1 true bt809.1 bt809.2.1 bt809.2.2.1) else (if bt836.2 = bt828.2 then (laws_FnShows.j0 k bt809.2.2.2 bt820.1 bt820.2 bt828.1 bt828.2 bt836.1 bt844.1 (bt844.2 != bt828.2) bt809.1 bt809.2.1 bt809.2.2.1) else (laws_FnShows.j0 k bt809.2.2.2 bt820.1 bt820.2 bt828.1 bt828.2 bt836.1 bt844.1 true bt809.1 bt809.2.1 bt809.2.2.1)))) else (laws_FnShows.j0 k bt809.2.2.2 bt820.1 bt820.2 bt828.1 bt828.2 bt836.1 bt844.1 true bt809.1 bt809.2.1 bt809.2.2.1)) else (laws_FnShows.j0 k bt809.2.2.2 bt820.1 bt820.2 bt828.1 bt828.2 bt836.1 bt844.1 true bt809.1 bt809.2.1 bt809.2.2.1)) else (laws_FnShows.j0 k bt809.2.2.2 bt820.1 bt820.2 bt828.1 bt828.2 bt836.1 bt844.1 true bt809.1 bt809.2.1 bt809.2.2.1))) else (laws_FnShows.j0 k bt809.2.2.2 bt820.1 bt820.2 bt828.1 bt828.2 bt836.1 bt844.1 true bt809.1 bt809.2.1 bt809.2.2.1)) else (laws_FnShows.j0 k bt809.2.2.2 bt820.1 bt820.2 bt828.1 bt828.2 bt836.1 bt844.1 true bt809.1 bt809.2.1 bt809.2.2.1))) else (laws_FnShows.j0 k bt809.2.2.2 bt820.1 bt820.2 bt828.1 bt828.2 bt836.1 bt844.1 true bt809.1 bt809.2.1 bt809.2.2.1)) else (laws_FnShows.j0 k bt809.2.2.2 bt820.1 bt820.2 bt828.1 bt828.2 bt836.1 bt844.1 true bt809.1 bt809.2.1 bt809.2.2.1))) else (laws_FnShows.j0 k bt809.2.2.2 bt820.1 bt820.2 bt828.1 bt828.2 bt836.1 bt844.1 true bt809.1 bt809.2.1 bt809.2.2.1))))))))))))) = some r := h; clear h; replace H := Option.bind_eq_some_iff.mp H; obtain ⟨t808, A20, H⟩ := H; have A2 := am_ A20; clear A20
 by_cases c3 : t808 = true
 ·subst c3
  rw [if_pos rfl] at H; obtain rfl := Option.some.inj H
  go_enter Try.func5, Try.ntmps5
  go_wp2_with (first | ((with_reducible refine gate_callee (f := 21) rfl ?_); refine gZ 30 Try.func21 #[.slice A0 l0.length c0] ?_; (with_reducible refine (laws_big.calls _ _ l0 true _ ?_ ?_ A2.out).mono ?_); exact (Zcx HR0); exact HC0.out; rintro e w' ⟨rfl, ⟨nd, rfl⟩⟩; refine ⟨_, rfl, ?_⟩))
  go_ret
  exact ⟨Zl, Zf⟩
 ·replace c3 := Bool.eq_false_iff.mpr c3
  subst c3; rw [if_neg (show ¬ (false = true) by decide)] at H; replace H := Option.bind_eq_some_iff.mp H; obtain ⟨⟨t809, t812, t815, t818⟩, A40, H⟩ := H
  dsimp only at H
  have A4 := am_ A40; clear A40; replace H := Option.bind_eq_some_iff.mp H; obtain ⟨⟨t820, t823⟩, A50, H⟩ := H
  dsimp only at H
  have A5 := am_ A50; clear A50; replace H := Option.bind_eq_some_iff.mp H; obtain ⟨⟨t824, t827⟩, A60, H⟩ := H
  dsimp only at H
  have A6 := am_ A60; clear A60; replace H := Option.bind_eq_some_iff.mp H; obtain ⟨⟨t828, t831⟩, A70, H⟩ := H
  dsimp only at H
  have A7 := am_ A70; clear A70; replace H := Option.bind_eq_some_iff.mp H; obtain ⟨⟨t832, t835⟩, A80, H⟩ := H
  dsimp only at H
  have A8 := am_ A80; clear A80; replace H := Option.bind_eq_some_iff.mp H; obtain ⟨⟨t836, t839⟩, A90, H⟩ := H
  dsimp only at H
  have A9 := am_ A90; clear A90; replace H := Option.bind_eq_some_iff.mp H; obtain ⟨⟨t840, t843⟩, A100, H⟩ := H
  dsimp only at H
  have A10 := am_ A100; clear A100; replace H := Option.bind_eq_some_iff.mp H; obtain ⟨⟨t844, t845⟩, A110, H⟩ := H
  dsimp only at H
  have A11 := am_ A110; clear A110; replace H := Option.bind_eq_some_iff.mp H; obtain ⟨⟨t846, t847⟩, A120, H⟩ := H
  dsimp only at H
  have A12 := am_ A120; clear A120; have HC13 := am_ H; clear H
  go_enter Try.func5, Try.ntmps5
  go_upto_region 12 with (first | ((with_reducible refine gate_callee (f := 21) rfl ?_); refine gZ 30 Try.func21 #[.slice A0 l0.length c0] ?_; (with_reducible refine (laws_big.calls _ _ l0 false _ ?_ ?_ A2.out).mono ?_); exact (Zcx HR0); exact HC0.out; rintro e w' ⟨rfl, ⟨nd, rfl⟩⟩; refine ⟨_, rfl, ?_⟩) | ((with_reducible refine gate_callee (f := 22) rfl ?_); refine gZ 33 Try.func22 #[.slice A0 l0.length c0] ?_; (with_reducible refine (spec_DrawFiredAt.calls k _ _ l0 t809 t812 t815 t818 _ ?_ ?_ A4.out).mono ?_); exact (Zcx HR0); exact HC0.out; rintro e w14 ⟨v810, v813, v816, rfl, ho0, ho1, ho2, hb⟩; refine ⟨_, rfl, ?_⟩; replace HO811 := am_ (Kd.R_lower ho0 (below_size Zf)); replace HO814 := am_ (Kd.R_lower ho1 (below_size Zf)); replace HO817 := am_ (Kd.R_lower ho2 (below_size Zf)); replace HB := (bsZ Zf hb); clear hb ho0 ho1 ho2) | ((with_reducible refine gate_dst (N := 3) rfl ?_); (try (refine gate_guard (by rfl) ?_; dsimp only)); refine boxZ 3 #[.slice none 0 0, .slice none 0 0, .slice none 0 0] 35 ?_; intro gb819 hg w15 hbox hb; replace HO811 := (hbZ HO811 hb); replace HO814 := (hbZ HO814 hb); replace HO817 := (hbZ HO817 hb); replace BK819 := am_ (hbox); replace GW819 := am_ ((Ze : w.heap.size ≤ gb819)); replace GE819 := GW819; replace HB := (bsZ Zf hb); clear hb hbox hg; obtain ⟨Ao16, co16, eo16⟩ := Kd.R_slice HO811.out; subst eo16; refine ci3 BK819 ?_; intros; obtain ⟨Ao18, co18, eo18⟩ := Kd.R_slice HO814.out; subst eo18; obtain ⟨Ao19, co19, eo19⟩ := Kd.R_slice HO817.out; subst eo19) | ((with_reducible refine gate_callee (f := 23) rfl ?_); refine gZ 39 Try.func23 #[.agg #[.slice Ao16 t809.length co16, .slice Ao18 t812.length co18, .slice Ao19 t815.length co19], .int .i64 t818] ?_; (with_reducible refine (impl_FiredAt.calls k _ _ t809 _ _ t812 _ _ t815 t818 t820 t823 _ ?_ ?_ ?_ ?_ ?_ ?_ A5.out).mono ?_); refine (Kd.R_reads' (e := 104) (base := w.heap.size) (ok := fun k_ => True) (n := t809.length) (c := co16) ?_).2.2; exact (Zaf HO811 BK819); exact (Kd.R_reads' HO811.out).2.1; refine (Kd.R_reads' (e := 61) (base := w.heap.size) (ok := fun k_ => True) (n := t812.length) (c := co18) ?_).2.2; exact (Zaf HO814 BK819); exact (Kd.R_reads' HO814.out).2.1; refine (Kd.R_reads' (e := 58) (base := w.heap.size) (ok := fun k_ => True) (n := t815.length) (c := co19) ?_).2.2; exact (Zaf HO817 BK819); exact (Kd.R_reads' HO817.out).2.1; rintro e w20 ⟨v821, rfl, ho0, hb⟩; refine ⟨_, rfl, ?_⟩; replace HO811 := am_ (Kd.R_below (Zaf HO811 BK819) hb); replace HO814 := am_ (Kd.R_below (Zaf HO814 BK819) hb); replace HO817 := am_ (Kd.R_below (Zaf HO817 BK819) hb); replace HO822 := am_ (Kd.R_lower ho0 (below_size (Zh GE819))); replace BK819 := am_ (blk_below (g := gb819) (o := .cells #[.slice Ao16 t809.length co16, .slice Ao18 t812.length co18, .slice Ao19 t815.length co19] 35 (0, 0)) (bpZ BK819) hb); replace HB := (bsZ (Zh GE819) hb); clear hb ho0; refine ci3 BK819 ?_; intros) | ((with_reducible refine gate_callee (f := 24) rfl ?_); refine gZ 45 Try.func24 #[.agg #[.slice Ao16 t809.length co16, .slice Ao18 t812.length co18, .slice Ao19 t815.length co19], .int .i64 t818] ?_; (with_reducible refine (spec_FiredAt.calls k _ _ t809 _ _ t812 _ _ t815 t818 t824 t827 _ ?_ ?_ ?_ ?_ ?_ ?_ A6.out).mono ?_); exact (Zaa HO811); exact (Kd.R_reads' HO811.out).2.1; exact (Zaa HO814); exact (Kd.R_reads' HO814.out).2.1; exact (Zaa HO817); exact (Kd.R_reads' HO817.out).2.1; rintro e w22 ⟨v825, rfl, ho0, hb⟩; refine ⟨_, rfl, ?_⟩; replace HO811 := (hbZ HO811 hb); replace HO814 := (hbZ HO814 hb); replace HO817 := (hbZ HO817 hb); replace HO826 := am_ (Kd.R_lower (Kd.R_new' ho0 (Kd.R_lt (Zr HO822))) (below_size (Zh GE819))); replace HO822 := am_ (Kd.R_elder' (Zr HO822) (Kd.R_base ho0) hb); replace BK819 := (bkZ BK819 hb); replace HB := (bsZ (Zh GE819) hb); clear hb ho0; refine ci3 BK819 ?_; intros) | ((with_reducible refine gate_callee (f := 25) rfl ?_); refine gZ 50 Try.func25 #[.agg #[.slice Ao16 t809.length co16, .slice Ao18 t812.length co18, .slice Ao19 t815.length co19]] ?_; (with_reducible refine (impl_FireTimes.calls k _ _ t809 _ _ t812 _ _ t815 t828 t831 _ ?_ ?_ ?_ ?_ ?_ ?_ A7.out).mono ?_); exact (Zaa HO811); exact (Kd.R_reads' HO811.out).2.1; exact (Zaa HO814); exact (Kd.R_reads' HO814.out).2.1; exact (Zaa HO817); exact (Kd.R_reads' HO817.out).2.1; rintro e w24 ⟨v829, rfl, ho0, hb⟩; refine ⟨_, rfl, ?_⟩; replace HO811 := (hbZ HO811 hb); replace HO814 := (hbZ HO814 hb); replace HO817 := (hbZ HO817 hb); replace HO830 := am_ (Kd.R_lower (Kd.R_new' (Kd.R_new' ho0 (Kd.R_lt (Zr HO822))) (Kd.R_lt (Zr HO826))) (below_size (Zh GE819))); replace HO822 := am_ (Kd.R_elder' (Zr HO822) (Kd.R_base ho0) hb); replace HO826 := am_ (Kd.R_elder' (Zr HO826) (Kd.R_base ho0) hb); replace BK819 := (bkZ BK819 hb); replace HB := (bsZ (Zh GE819) hb); clear hb ho0; refine ci3 BK819 ?_; intros) | ((with_reducible refine gate_callee (f := 26) rfl ?_); refine gZ 55 Try.func26 #[.agg #[.slice Ao16 t809.length co16, .slice Ao18 t812.length co18, .slice Ao19 t815.length co19]] ?_; (with_reducible refine (spec_FireTimes.calls k _ _ t809 _ _ t812 _ _ t815 t832 t835 _ ?_ ?_ ?_ ?_ ?_ ?_ A8.out).mono ?_); exact (Zaa HO811); exact (Kd.R_reads' HO811.out).2.1; exact (Zaa HO814); exact (Kd.R_reads' HO814.out).2.1; exact (Zaa HO817); exact (Kd.R_reads' HO817.out).2.1; rintro e w26 ⟨v833, rfl, ho0, hb⟩; refine ⟨_, rfl, ?_⟩; replace HO811 := (hbZ HO811 hb); replace HO814 := (hbZ HO814 hb); replace HO817 := (hbZ HO817 hb); replace HO834 := am_ (Kd.R_lower (Kd.R_new' (Kd.R_new' (Kd.R_new' ho0 (Kd.R_lt (Zr HO822))) (Kd.R_lt (Zr HO826))) (Kd.R_lt (Zr HO830))) (below_size (Zh GE819))); replace HO822 := am_ (Kd.R_elder' (Zr HO822) (Kd.R_base ho0) hb); replace HO826 := am_ (Kd.R_elder' (Zr HO826) (Kd.R_base ho0) hb); replace HO830 := am_ (Kd.R_elder' (Zr HO830) (Kd.R_base ho0) hb); replace BK819 := (bkZ BK819 hb); replace HB := (bsZ (Zh GE819) hb); clear hb ho0; refine ci3 BK819 ?_; intros) | ((with_reducible refine gate_callee (f := 10) rfl ?_); refine gZ 60 Try.func10 #[.agg #[.slice Ao16 t809.length co16, .slice Ao18 t812.length co18, .slice Ao19 t815.length co19]] ?_; (with_reducible refine (impl_FireOrder.calls k _ _ t809 _ _ t812 _ _ t815 t836 t839 _ ?_ ?_ ?_ ?_ ?_ ?_ A9.out).mono ?_); exact (Zaa HO811); exact (Kd.R_reads' HO811.out).2.1; exact (Zaa HO814); exact (Kd.R_reads' HO814.out).2.1; exact (Zaa HO817); exact (Kd.R_reads' HO817.out).2.1; rintro e w28 ⟨v837, rfl, ho0, hb⟩; refine ⟨_, rfl, ?_⟩; replace HO811 := (hbZ HO811 hb); replace HO814 := (hbZ HO814 hb); replace HO817 := (hbZ HO817 hb); replace HO838 := am_ (Kd.R_lower (Kd.R_new' (Kd.R_new' (Kd.R_new' (Kd.R_new' ho0 (Kd.R_lt (Zr HO822))) (Kd.R_lt (Zr HO826))) (Kd.R_lt (Zr HO830))) (Kd.R_lt (Zr HO834))) (below_size (Zh GE819))); replace HO822 := am_ (Kd.R_elder' (Zr HO822) (Kd.R_base ho0) hb); replace HO826 := am_ (Kd.R_elder' (Zr HO826) (Kd.R_base ho0) hb); replace HO830 := am_ (Kd.R_elder' (Zr HO830) (Kd.R_base ho0) hb); replace HO834 := am_ (Kd.R_elder' (Zr HO834) (Kd.R_base ho0) hb); replace BK819 := (bkZ BK819 hb); replace HB := (bsZ (Zh GE819) hb); clear hb ho0; refine ci3 BK819 ?_; intros) | ((with_reducible refine gate_callee (f := 8) rfl ?_); refine gZ 65 Try.func8 #[.agg #[.slice Ao16 t809.length co16, .slice Ao18 t812.length co18, .slice Ao19 t815.length co19]] ?_; (with_reducible refine (spec_FireOrder.calls k _ _ t809 _ _ t812 _ _ t815 t840 t843 _ ?_ ?_ ?_ ?_ ?_ ?_ A10.out).mono ?_); exact (Zaa HO811); exact (Kd.R_reads' HO811.out).2.1; exact (Zaa HO814); exact (Kd.R_reads' HO814.out).2.1; exact (Zaa HO817); exact (Kd.R_reads' HO817.out).2.1; rintro e w30 ⟨v841, rfl, ho0, hb⟩; refine ⟨_, rfl, ?_⟩; replace HO811 := (hbZ HO811 hb); replace HO814 := (hbZ HO814 hb); replace HO817 := (hbZ HO817 hb); replace HO842 := am_ (Kd.R_lower (Kd.R_new' (Kd.R_new' (Kd.R_new' (Kd.R_new' (Kd.R_new' ho0 (Kd.R_lt (Zr HO822))) (Kd.R_lt (Zr HO826))) (Kd.R_lt (Zr HO830))) (Kd.R_lt (Zr HO834))) (Kd.R_lt (Zr HO838))) (below_size (Zh GE819))); replace HO822 := am_ (Kd.R_elder' (Zr HO822) (Kd.R_base ho0) hb); replace HO826 := am_ (Kd.R_elder' (Zr HO826) (Kd.R_base ho0) hb); replace HO830 := am_ (Kd.R_elder' (Zr HO830) (Kd.R_base ho0) hb); replace HO834 := am_ (Kd.R_elder' (Zr HO834) (Kd.R_base ho0) hb); replace HO838 := am_ (Kd.R_elder' (Zr HO838) (Kd.R_base ho0) hb); replace BK819 := (bkZ BK819 hb); replace HB := (bsZ (Zh GE819) hb); clear hb ho0; refine ci3 BK819 ?_; intros) | ((with_reducible refine gate_callee (f := 27) rfl ?_); refine gZ 70 Try.func27 #[.agg #[.slice Ao16 t809.length co16, .slice Ao18 t812.length co18, .slice Ao19 t815.length co19]] ?_; (with_reducible refine (impl_ShowEnd.calls k _ _ t809 _ _ t812 _ _ t815 t844 t845 _ ?_ ?_ ?_ ?_ ?_ ?_ A11.out).mono ?_); exact (Zaa HO811); exact (Kd.R_reads' HO811.out).2.1; exact (Zaa HO814); exact (Kd.R_reads' HO814.out).2.1; exact (Zaa HO817); exact (Kd.R_reads' HO817.out).2.1; rintro e w32 ⟨rfl, hb⟩; refine ⟨_, rfl, ?_⟩; replace HO811 := (hbZ HO811 hb); replace HO814 := (hbZ HO814 hb); replace HO817 := (hbZ HO817 hb); replace HO822 := (hbZ HO822 hb); replace HO826 := (hbZ HO826 hb); replace HO830 := (hbZ HO830 hb); replace HO834 := (hbZ HO834 hb); replace HO838 := (hbZ HO838 hb); replace HO842 := (hbZ HO842 hb); replace BK819 := (bkZ BK819 hb); replace HB := (bsZ (Zh GE819) hb); clear hb; refine ci3 BK819 ?_; intros) | ((with_reducible refine gate_callee (f := 28) rfl ?_); refine gZ 75 Try.func28 #[.agg #[.slice Ao16 t809.length co16, .slice Ao18 t812.length co18, .slice Ao19 t815.length co19]] ?_; (with_reducible refine (spec_ShowEnd.calls k _ _ t809 _ _ t812 _ _ t815 t846 t847 _ ?_ ?_ ?_ ?_ ?_ ?_ A12.out).mono ?_); exact (Zaa HO811); exact (Kd.R_reads' HO811.out).2.1; exact (Zaa HO814); exact (Kd.R_reads' HO814.out).2.1; exact (Zaa HO817); exact (Kd.R_reads' HO817.out).2.1; rintro e w34 ⟨rfl, hb⟩; refine ⟨_, rfl, ?_⟩; replace HO811 := (hbZ HO811 hb); replace HO814 := (hbZ HO814 hb); replace HO817 := (hbZ HO817 hb); replace HO822 := (hbZ HO822 hb); replace HO826 := (hbZ HO826 hb); replace HO830 := (hbZ HO830 hb); replace HO834 := (hbZ HO834 hb); replace HO838 := (hbZ HO838 hb); replace HO842 := (hbZ HO842 hb); replace BK819 := (bkZ BK819 hb); replace HB := (bsZ (Zh GE819) hb); clear hb))
  (try simp only [Act.put, List.setIfInBounds_toArray, List.set_cons_zero, List.set_cons_succ])
  go_cut [135] (fun v135 wc => ∃ (kq : Nat) (x135_12 : Bool), v135 = .bool x135_12 ∧ Aside0 (laws_FnShows.j0 kq t818 t820 t823 t828 t831 t836 t844 x135_12 t809 t812 t815 = some r) ∧ Aside0 (kq ≤ k) ∧ Aside0 (Kd.R (Kd.int .i64) 2 wc w.heap.size (fun k_ => some k_ ≠ (v829 : Value).ownBlock ∧ some k_ ≠ (v837 : Value).ownBlock) v821 t820) ∧ Aside0 (Kd.R (Kd.int .i64) 2 wc w.heap.size (fun k_ => some k_ ≠ (v821 : Value).ownBlock ∧ some k_ ≠ (v837 : Value).ownBlock) v829 t828) ∧ Aside0 (Kd.R (Kd.int .i64) 2 wc w.heap.size (fun k_ => some k_ ≠ (v821 : Value).ownBlock ∧ some k_ ≠ (v829 : Value).ownBlock) v837 t836) ∧ Aside0 (Kd.R k104 104 wc w.heap.size (fun _ => True) (.slice Ao16 t809.length co16) t809) ∧ Aside0 (Kd.R k61 61 wc w.heap.size (fun _ => True) (.slice Ao18 t812.length co18) t812) ∧ Aside0 (Kd.R k58 58 wc w.heap.size (fun _ => True) (.slice Ao19 t815.length co19) t815) ∧ Aside0 (wc.heap[gb819]? = some (.cells #[(.slice Ao16 t809.length co16), (.slice Ao18 t812.length co18), (.slice Ao19 t815.length co19)] 35 (0, 0))) ∧ Aside0 (Below w.heap.size w wc))
  case first => as_aux_lemma =>
   have H := HC13.out; clear HC13
   by_cases c35 : t823 = t827
   ·rw [if_pos c35] at H
    have c35b0 := beq_iff_eq.mpr c35; have c35b1 := bne_eq_false_iff_eq.mpr c35; clear c35
    (first | rw [c35b0] | (simp only [i64_w, i32_w]; rw [c35b0]) | skip)
    replace H := Option.bind_eq_some_iff.mp H; obtain ⟨t848, A360, H⟩ := H; have A36 := am_ A360; clear A360
    by_cases c37 : t848 = true
    ·subst c37
     rw [if_pos rfl] at H
     by_cases c38 : t831 = t835
     ·rw [if_pos c38] at H
      have c38b0 := beq_iff_eq.mpr c38; have c38b1 := bne_eq_false_iff_eq.mpr c38; clear c38; replace H := Option.bind_eq_some_iff.mp H; obtain ⟨t849, A390, H⟩ := H; have A39 := am_ A390; clear A390
      by_cases c40 : t849 = true
      ·subst c40
       rw [if_pos rfl] at H
       by_cases c41 : t839 = t843
       ·rw [if_pos c41] at H
        have c41b0 := beq_iff_eq.mpr c41; have c41b1 := bne_eq_false_iff_eq.mpr c41; clear c41; replace H := Option.bind_eq_some_iff.mp H; obtain ⟨t850, A420, H⟩ := H; have A42 := am_ A420; clear A420
        by_cases c43 : t850 = true
        ·subst c43
         rw [if_pos rfl] at H
         by_cases c44 : t845 = t847
         ·rw [if_pos c44] at H
          have c44b0 := beq_iff_eq.mpr c44; have c44b1 := bne_eq_false_iff_eq.mpr c44; clear c44
          by_cases c45 : t844 = t846
          ·rw [if_pos c45] at H
           have c45b0 := beq_iff_eq.mpr c45; have c45b1 := bne_eq_false_iff_eq.mpr c45; clear c45; replace H := Option.bind_eq_some_iff.mp H; obtain ⟨t851, A460, H⟩ := H; have A46 := am_ A460; clear A460
           by_cases c47 : (t851 != (t835 == 0)) = true
           ·rw [if_pos c47] at H
            have c47b0 : (t851 != (t835 == 0)) = true := c47
            (try (have c47b1 : decide (t851 = (t835 == 0)) = false := by simpa using c47))
            (try (have c47b2 : (t851 == (t835 == 0)) = false := by simpa using c47))
            (try (have c47b3 : ¬ (t851 = (t835 == 0)) := by simpa using c47))
            clear c47; exact absurd (H.trans (congrArg some HR_.out)) (laws_FnShows.j0_true _ _ _ _ _ _ _ _ _ _ _)
           ·rw [if_neg c47] at H
            have c47b0 : (t851 != (t835 == 0)) = false := by simpa using c47
            (try (have c47b1 : decide (t851 = (t835 == 0)) = true := by simpa using c47))
            (try (have c47b2 : (t851 == (t835 == 0)) = true := by simpa using c47))
            clear c47
            by_cases c56 : t839 = t831
            ·rw [if_pos c56] at H
             have c56b0 := beq_iff_eq.mpr c56; have c56b1 := bne_eq_false_iff_eq.mpr c56; clear c56; have H' := am_ H; clear H; obtain ⟨Ao57, co57, eo57⟩ := Kd.R_slice HO822.out; subst eo57; obtain ⟨Ao58, co58, eo58⟩ := Kd.R_slice HO826.out; subst eo58
             go_wp2_with (first | (go_at_call 29; (with_reducible refine (laws_likeInts.calls k _ _ t820 _ _ t824 true _ ?_ ?_ ?_ ?_ A36.out).mono ?_); exact (Zaa HO822); exact (Kd.R_reads' HO822.out).2.1; exact (Zaa HO826); exact (Kd.R_reads' HO826.out).2.1; rintro e w' ⟨rfl, ⟨nd, rfl⟩⟩; obtain ⟨Ao59, co59, eo59⟩ := Kd.R_slice HO830.out; subst eo59; obtain ⟨Ao60, co60, eo60⟩ := Kd.R_slice HO834.out; subst eo60) | (go_at_call 29; (with_reducible refine (laws_likeInts.calls k _ _ t828 _ _ t832 true _ ?_ ?_ ?_ ?_ A39.out).mono ?_); exact (Zaa HO830); exact (Kd.R_reads' HO830.out).2.1; exact (Zaa HO834); exact (Kd.R_reads' HO834.out).2.1; rintro e w' ⟨rfl, ⟨nd, rfl⟩⟩; obtain ⟨Ao61, co61, eo61⟩ := Kd.R_slice HO838.out; subst eo61; obtain ⟨Ao62, co62, eo62⟩ := Kd.R_slice HO842.out; subst eo62) | (go_at_call 29; (with_reducible refine (laws_likeInts.calls k _ _ t836 _ _ t840 true _ ?_ ?_ ?_ ?_ A42.out).mono ?_); exact (Zaa HO838); exact (Kd.R_reads' HO838.out).2.1; exact (Zaa HO842); exact (Kd.R_reads' HO842.out).2.1; rintro e w' ⟨rfl, ⟨nd, rfl⟩⟩; refine ci3 BK819 ?_; intros) | (go_at_call 30; (with_reducible refine (impl_IsShow.calls k _ _ t809 _ _ t812 _ _ t815 t851 _ ?_ ?_ ?_ ?_ ?_ ?_ A46.out).mono ?_); exact (Zaa HO811); exact (Kd.R_reads' HO811.out).2.1; exact (Zaa HO814); exact (Kd.R_reads' HO814.out).2.1; exact (Zaa HO817); exact (Kd.R_reads' HO817.out).2.1; rintro e w64 ⟨rfl, hb⟩; replace HO811 := (hbZ HO811 hb); replace HO814 := (hbZ HO814 hb); replace HO817 := (hbZ HO817 hb); replace HO822 := (hbZ HO822 hb); replace HO826 := (hbZ HO826 hb); replace HO830 := (hbZ HO830 hb); replace HO834 := (hbZ HO834 hb); replace HO838 := (hbZ HO838 hb); replace HO842 := (hbZ HO842 hb); replace BK819 := (bkZ BK819 hb); replace HB := (bsZ (Zh GE819) hb); clear hb))
             go_meet
             case rel => exact ⟨_, ((t845 != t831)), Za, H', ⟨Zp⟩, ⟨by (with_reducible repeat (first | apply Kd.R_alloc | apply Kd.R_drewN | apply Kd.R_drew)); exact Kd.R_mono HO822.out (fun _ hk => ⟨hk.1.1.1.2, hk.1.2⟩)⟩, ⟨by (with_reducible repeat (first | apply Kd.R_alloc | apply Kd.R_drewN | apply Kd.R_drew)); exact Kd.R_mono HO830.out (fun _ hk => ⟨hk.1.1.1.1.2, hk.1.2⟩)⟩, ⟨by (with_reducible repeat (first | apply Kd.R_alloc | apply Kd.R_drewN | apply Kd.R_drew)); exact Kd.R_mono HO838.out (fun _ hk => ⟨hk.1.1.1.1.2, hk.1.1.2⟩)⟩, ⟨(Zr HO811)⟩, ⟨(Zr HO814)⟩, ⟨(Zr HO817)⟩, ⟨(Zq BK819)⟩, ⟨(Zh GE819)⟩⟩
            ·rw [if_neg c56] at H
             have c56b0 := beq_eq_false_iff_ne.mpr c56; have c56b1 := bne_iff_ne.mpr c56; exact absurd (H.trans (congrArg some HR_.out)) (laws_FnShows.j0_true _ _ _ _ _ _ _ _ _ _ _)
          ·rw [if_neg c45] at H
           have c45b0 := beq_eq_false_iff_ne.mpr c45; have c45b1 := bne_iff_ne.mpr c45; exact absurd (H.trans (congrArg some HR_.out)) (laws_FnShows.j0_true _ _ _ _ _ _ _ _ _ _ _)
         ·rw [if_neg c44] at H
          have c44b0 := beq_eq_false_iff_ne.mpr c44; have c44b1 := bne_iff_ne.mpr c44; exact absurd (H.trans (congrArg some HR_.out)) (laws_FnShows.j0_true _ _ _ _ _ _ _ _ _ _ _)
        ·replace c43 := Bool.eq_false_iff.mpr c43
         subst c43; rw [if_neg (show ¬ (false = true) by decide)] at H; exact absurd (H.trans (congrArg some HR_.out)) (laws_FnShows.j0_true _ _ _ _ _ _ _ _ _ _ _)
       ·rw [if_neg c41] at H
        have c41b0 := beq_eq_false_iff_ne.mpr c41; have c41b1 := bne_iff_ne.mpr c41; exact absurd (H.trans (congrArg some HR_.out)) (laws_FnShows.j0_true _ _ _ _ _ _ _ _ _ _ _)
      ·replace c40 := Bool.eq_false_iff.mpr c40
       subst c40; rw [if_neg (show ¬ (false = true) by decide)] at H; exact absurd (H.trans (congrArg some HR_.out)) (laws_FnShows.j0_true _ _ _ _ _ _ _ _ _ _ _)
     ·rw [if_neg c38] at H
      have c38b0 := beq_eq_false_iff_ne.mpr c38; have c38b1 := bne_iff_ne.mpr c38; exact absurd (H.trans (congrArg some HR_.out)) (laws_FnShows.j0_true _ _ _ _ _ _ _ _ _ _ _)
    ·replace c37 := Bool.eq_false_iff.mpr c37
     subst c37; rw [if_neg (show ¬ (false = true) by decide)] at H; exact absurd (H.trans (congrArg some HR_.out)) (laws_FnShows.j0_true _ _ _ _ _ _ _ _ _ _ _)
   ·rw [if_neg c35] at H
    have c35b0 := beq_eq_false_iff_ne.mpr c35; have c35b1 := bne_iff_ne.mpr c35
    (first | rw [c35b0] | (simp only [i64_w, i32_w]; rw [c35b0]) | skip)
    exact absurd (H.trans (congrArg some HR_.out)) (laws_FnShows.j0_true _ _ _ _ _ _ _ _ _ _ _)
  case rest => as_aux_lemma =>
   clear HC13
   try clear c1
   try clear c2
   try clear p2
   try clear c3
   try clear c4
   try clear c5
   try clear c8
   try clear c10
   try clear c21
   try clear c22
   try clear c23
   try clear c24
   try clear c25
   try clear c26
   try clear c27
   try clear c28
   try clear c35
   try clear c35b0
   try clear c35b1
   try clear c37
   try clear c38
   try clear c38b0
   try clear c38b1
   try clear c40
   try clear c41
   try clear c41b0
   try clear c41b1
   try clear c43
   try clear c44
   try clear c44b0
   try clear c44b1
   try clear c45
   try clear c45b0
   try clear c45b1
   try clear c47
   try clear c47b0
   try clear c47b1
   try clear c47b2
   try clear c56
   try clear c56b0
   try clear c56b1
   obtain ⟨kq, x135_12, rfl, HA, HJ12, HO_5, HO_9, HO_13, HO_820000, HO_820001, HO_820002, BK819, HB⟩ := hcut
   cases kq with
   | zero => exact absurd HA.out (by simp [laws_FnShows.j0])
   | succ kj12 =>
    have H := HA.out; clear HA; simp only [laws_FnShows.j0] at H
    by_cases c103 : x135_12 = true
    ·subst c103
     rw [if_pos rfl] at H; exact absurd ((Option.some.inj H).trans HR_.out) (by decide)
    ·replace c103 := Bool.eq_false_iff.mpr c103
     subst c103; rw [if_neg (show ¬ (false = true) by decide)] at H; have H' := am_ H; clear H
     go_wp2
     go_loopg [21] kj12 (fun kq v21 w' => ∃ (x21_2 : Int), v21 = .int .i64 x21_2 ∧ Aside0 (laws_FnShows.l0 kq t818 t820 t823 t828 t831 t836 t844 x21_2 t809 t812 t815 = some r) ∧ Aside0 (kq ≤ kj12) ∧ Aside0 (Kd.R (Kd.int .i64) 2 w' w.heap.size (fun k_ => some k_ ≠ (v829 : Value).ownBlock ∧ some k_ ≠ (v837 : Value).ownBlock) v821 t820) ∧ Aside0 (Kd.R (Kd.int .i64) 2 w' w.heap.size (fun k_ => some k_ ≠ (v821 : Value).ownBlock ∧ some k_ ≠ (v837 : Value).ownBlock) v829 t828) ∧ Aside0 (Kd.R (Kd.int .i64) 2 w' w.heap.size (fun k_ => some k_ ≠ (v821 : Value).ownBlock ∧ some k_ ≠ (v829 : Value).ownBlock) v837 t836) ∧ Aside0 (Kd.R k104 104 w' w.heap.size (fun _ => True) (.slice Ao16 t809.length co16) t809) ∧ Aside0 (Kd.R k61 61 w' w.heap.size (fun _ => True) (.slice Ao18 t812.length co18) t812) ∧ Aside0 (Kd.R k58 58 w' w.heap.size (fun _ => True) (.slice Ao19 t815.length co19) t815) ∧ Aside0 (w'.heap[gb819]? = some (.cells #[(.slice Ao16 t809.length co16), (.slice Ao18 t812.length co18), (.slice Ao19 t815.length co19)] 35 (0, 0))) ∧ Aside0 (Below w.heap.size w w'))
     case atStart => exact ⟨(0), Za, H', ⟨Nat.le_refl _⟩, ⟨(Zr HO_5)⟩, ⟨(Zr HO_9)⟩, ⟨(Zr HO_13)⟩, ⟨(Zr HO_820000)⟩, ⟨(Zr HO_820001)⟩, ⟨(Zr HO_820002)⟩, ⟨(Zq BK819)⟩, ⟨(Zh GE819)⟩⟩
     case round => as_aux_lemma =>
      clear H'
      try clear c1
      try clear c2
      try clear p2
      try clear c3
      try clear c4
      try clear c5
      try clear c8
      try clear c10
      try clear c21
      try clear c22
      try clear c23
      try clear c24
      try clear c25
      try clear c26
      try clear c27
      try clear c28
      try clear c35
      try clear c35b0
      try clear c35b1
      try clear c37
      try clear c38
      try clear c38b0
      try clear c38b1
      try clear c40
      try clear c41
      try clear c41b0
      try clear c41b1
      try clear c43
      try clear c44
      try clear c44b0
      try clear c44b1
      try clear c45
      try clear c45b0
      try clear c45b1
      try clear c47
      try clear c47b0
      try clear c47b1
      try clear c47b2
      try clear c56
      try clear c56b0
      try clear c56b1
      try clear c103
      try clear p2
      obtain ⟨x21_2, rfl, HA, HK2, HO_5, HO_9, HO_13, HO_820000, HO_820001, HO_820002, BK819, HB⟩ := hrel
      cases gk with
      | zero => exact absurd HA.out (by simp [laws_FnShows.l0])
      | succ k2 =>
       have H := HA.out; clear HA; simp only [laws_FnShows.l0] at H; have HC104 := am_ H; clear H
       go_upto_region 15 with (fail)
       go_cut [144] (fun v144 wc => ∃ (kq : Nat) (x144_103 : Bool), v144 = .bool x144_103 ∧ Aside0 (laws_FnShows.j2 kq t818 t820 t823 t828 t831 t836 t844 x21_2 x144_103 t809 t812 t815 = some r) ∧ Aside0 (kq ≤ k2) ∧ Aside0 (Kd.R (Kd.int .i64) 2 wc w.heap.size (fun k_ => some k_ ≠ (v829 : Value).ownBlock ∧ some k_ ≠ (v837 : Value).ownBlock) v821 t820) ∧ Aside0 (Kd.R (Kd.int .i64) 2 wc w.heap.size (fun k_ => some k_ ≠ (v821 : Value).ownBlock ∧ some k_ ≠ (v837 : Value).ownBlock) v829 t828) ∧ Aside0 (Kd.R (Kd.int .i64) 2 wc w.heap.size (fun k_ => some k_ ≠ (v821 : Value).ownBlock ∧ some k_ ≠ (v829 : Value).ownBlock) v837 t836) ∧ Aside0 (Kd.R k104 104 wc w.heap.size (fun _ => True) (.slice Ao16 t809.length co16) t809) ∧ Aside0 (Kd.R k61 61 wc w.heap.size (fun _ => True) (.slice Ao18 t812.length co18) t812) ∧ Aside0 (Kd.R k58 58 wc w.heap.size (fun _ => True) (.slice Ao19 t815.length co19) t815) ∧ Aside0 (wc.heap[gb819]? = some (.cells #[(.slice Ao16 t809.length co16), (.slice Ao18 t812.length co18), (.slice Ao19 t815.length co19)] 35 (0, 0))) ∧ Aside0 (Below w.heap.size w wc))
       case first => as_aux_lemma =>
        have H := HC104.out; clear HC104
        by_cases c105 : t831 = 0
        ·rw [if_pos c105] at H
         have c105b0 := beq_iff_eq.mpr c105; have c105b1 := bne_eq_false_iff_eq.mpr c105; clear c105
         (first | rw [c105b0] | (simp only [i64_w, i32_w]; rw [c105b0]) | skip)
         have H' := am_ H; clear H; refine ci3 BK819 ?_; intros
         go_wp2
         go_meet
         case rel => exact ⟨_, (decide (x21_2 < (t815.length : Int))), Za, H', ⟨by have := HJ12.out; have := HK2.out; first | omega | exact Nat.le_refl _⟩, ⟨(Zr HO_5)⟩, ⟨(Zr HO_9)⟩, ⟨(Zr HO_13)⟩, ⟨(Zr HO_820000)⟩, ⟨(Zr HO_820001)⟩, ⟨(Zr HO_820002)⟩, ⟨(Zq BK819)⟩, ⟨(Zh GE819)⟩⟩
        ·rw [if_neg c105] at H
         have c105b0 := beq_eq_false_iff_ne.mpr c105; have c105b1 := bne_iff_ne.mpr c105
         (first | rw [c105b0] | (simp only [i64_w, i32_w]; rw [c105b0]) | skip)
         have H' := am_ H; clear H
         go_wp2
         go_meet
         case rel => exact ⟨_, (false), Za, H', ⟨by have := HJ12.out; have := HK2.out; first | omega | exact Nat.le_refl _⟩, ⟨(Zr HO_5)⟩, ⟨(Zr HO_9)⟩, ⟨(Zr HO_13)⟩, ⟨(Zr HO_820000)⟩, ⟨(Zr HO_820001)⟩, ⟨(Zr HO_820002)⟩, ⟨(Zq BK819)⟩, ⟨(Zh GE819)⟩⟩
       case rest => as_aux_lemma =>
        clear HC104
        try clear c1
        try clear c2
        try clear p2
        try clear c3
        try clear c4
        try clear c5
        try clear c8
        try clear c10
        try clear c21
        try clear c22
        try clear c23
        try clear c24
        try clear c25
        try clear c26
        try clear c27
        try clear c28
        try clear c35
        try clear c35b0
        try clear c35b1
        try clear c37
        try clear c38
        try clear c38b0
        try clear c38b1
        try clear c40
        try clear c41
        try clear c41b0
        try clear c41b1
        try clear c43
        try clear c44
        try clear c44b0
        try clear c44b1
        try clear c45
        try clear c45b0
        try clear c45b1
        try clear c47
        try clear c47b0
        try clear c47b1
        try clear c47b2
        try clear c56
        try clear c56b0
        try clear c56b1
        try clear c103
        try clear c105
        try clear c105b0
        try clear c105b1
        try clear p2
        obtain ⟨kq, x144_103, rfl, HA, HJ103, HO_5, HO_9, HO_13, HO_820000, HO_820001, HO_820002, BK819, HB⟩ := hcut
        cases kq with
        | zero => exact absurd HA.out (by simp [laws_FnShows.j2])
        | succ kj103 =>
         have H := HA.out; clear HA; simp only [laws_FnShows.j2] at H
         by_cases c107 : x144_103 = true
         ·subst c107
          rw [if_pos rfl] at H
          by_cases c108 : 0 ≤ x21_2
          ·rw [if_pos c108] at H
           have c108b0 := decide_eq_true c108; clear c108
           by_cases c109 : x21_2 < (t815.length : Int)
           ·rw [if_pos c109] at H
            have c109b0 := decide_eq_true c109; clear c109; replace H := Option.bind_eq_some_iff.mp H; obtain ⟨⟨t854, t855⟩, A1100, H⟩ := H
            dsimp only at H
            have A110 := am_ A1100; clear A1100; replace H := Option.bind_eq_some_iff.mp H; obtain ⟨⟨t857, t858⟩, A1110, H⟩ := H
            dsimp only at H
            have A111 := am_ A1110; clear A1110; replace H := Option.bind_eq_some_iff.mp H; obtain ⟨⟨t860, t861⟩, A1120, H⟩ := H
            dsimp only at H
            have A112 := am_ A1120; clear A1120; have HC113 := am_ H; clear H
            try go_wp2
            replace HO_5 := am_ (Kd.R_drew HO_5.out); replace HO_9 := am_ (Kd.R_drew HO_9.out); replace HO_13 := am_ (Kd.R_drew HO_13.out); replace HO_820000 := am_ (Kd.R_drew HO_820000.out); replace HO_820001 := am_ (Kd.R_drew HO_820001.out); replace HO_820002 := am_ (Kd.R_drew HO_820002.out); replace BK819 := am_ (blk_drew BK819.out); replace HB := am_ (below_drew1 HB.out); have p852 : 0 ≤ (x21_2 : Int) := of_decide_eq_true Zc; have q852 : x21_2 < (t815.length : Int) := of_decide_eq_true Zc; obtain ⟨ad852, e852, hx852_0, hx852_1, hx852_2, hx852_3⟩ := at_T58 (Kd.R_reads' HO_820002.out).2.2 x21_2 p852 q852
            cases e852
            replace p852 := eq_true p852; replace q852 := eq_true q852; have p853 : 0 ≤ (x21_2 : Int) := of_decide_eq_true Zc; have q853 : x21_2 < (t815.length : Int) := of_decide_eq_true Zc; obtain ⟨ad853, e853, hx853_0, hx853_1, hx853_2, hx853_3⟩ := at_T58 (Kd.R_reads' HO_820002.out).2.2 x21_2 p853 q853; obtain rfl : ad852 = ad853 := (by injection e853); replace p853 := eq_true p853; replace q853 := eq_true q853; refine start_ (n := 20) (S := fun w' => w'.cell? ⟨gb819, 0, none⟩ = some (.slice Ao16 t809.length co16) ∧ w'.cell? ⟨gb819, 1, none⟩ = some (.slice Ao18 t812.length co18) ∧ w'.cell? ⟨gb819, 2, none⟩ = some (.slice (some ad852) t815.length co19) ∧ w'.cell? (ad852.add ((x21_2).toNat * 4)) = some (.int .i64 ((rd_T58 t815 x21_2).f0)) ∧ w'.cell? ⟨(ad852.add ((x21_2).toNat * 4)).block, (ad852.add ((x21_2).toNat * 4)).off + 1, none⟩ = some (.int .i64 ((rd_T58 t815 x21_2).f1)) ∧ w'.cell? ⟨(ad852.add ((x21_2).toNat * 4)).block, (ad852.add ((x21_2).toNat * 4)).off + 2, none⟩ = some (.string ((rd_T58 t815 x21_2).f2)) ∧ w'.cell? ⟨(ad852.add ((x21_2).toNat * 4)).block, (ad852.add ((x21_2).toNat * 4)).off + 3, none⟩ = some (.int .i64 ((rd_T58 t815 x21_2).f3)) ∧ w'.cell? (ad852.add ((x21_2).toNat * 4)) = some (.int .i64 ((rd_T58 t815 x21_2).f0)) ∧ w'.cell? ⟨(ad852.add ((x21_2).toNat * 4)).block, (ad852.add ((x21_2).toNat * 4)).off + 1, none⟩ = some (.int .i64 ((rd_T58 t815 x21_2).f1)) ∧ w'.cell? ⟨(ad852.add ((x21_2).toNat * 4)).block, (ad852.add ((x21_2).toNat * 4)).off + 2, none⟩ = some (.string ((rd_T58 t815 x21_2).f2)) ∧ w'.cell? ⟨(ad852.add ((x21_2).toNat * 4)).block, (ad852.add ((x21_2).toNat * 4)).off + 3, none⟩ = some (.int .i64 ((rd_T58 t815 x21_2).f3))) (ds := []) (bT 20 0) Zm rfl rfl ⟨(blk_cell BK819.out 0).trans rfl, (blk_cell BK819.out 1).trans rfl, (blk_cell BK819.out 2).trans rfl, hx852_0, hx852_1, hx852_2, hx852_3, hx853_0, hx853_1, hx853_2, hx853_3⟩ (fun hHeld => ?_); refine with_tabW laws_FnShows.tab17 laws_FnShows.bits17 (fun HT_ HW_ => ?_); generalize wc.drew = w114 at HO_5 HO_9 HO_13 HO_820000 HO_820001 HO_820002 BK819 HB hx852_0 hx852_1 hx852_2 hx852_3 hx853_0 hx853_1 hx853_2 hx853_3 hHeld ⊢; refine pureZ HT_ 0 (some 148) (bT 20 1) ?_; refine pureZ HT_ 2 (some 150) (bB 20 5) ?_; refine pureZ HT_ 4 (some 152) (bB 20 21) ?_; refine pureZ HT_ 8 (some 156) (bB 20 277) ?_; refine pureZ HT_ 10 (some 158) (bB 20 1301) ?_; refine takeZ11 HT_ HW_ 1 (some 149) (bB 20 1303) hHeld ?_; refine takeZ11 HT_ HW_ 3 (some 151) (bB 20 1311) hHeld ?_; refine pureZ HT_ 5 (some 153) (bB 20 1343) ?_; refine pureZ HT_ 6 (some 154) (bB 20 1407) ?_; refine takeZ11 HT_ HW_ 7 (some 155) (bB 20 1535) hHeld ?_; refine takeZ11 HT_ HW_ 9 (some 157) (bT 20 11) hHeld ?_; refine pureZ HT_ 11 (some 159) (bT 20 12) ?_; refine pureZ HT_ 12 (some 160) (bT 20 13) ?_; refine takeZ11 HT_ HW_ 13 (some 161) (bT 20 14) hHeld ?_; refine one_ (i := 14) (N := some 162) (bT 20 15) rfl rfl (one_of HT_.out Zm) (by decide) (fun K hK => ?_); refine goes_ Try.func31 Zm rfl #[.slice Ao16 t809.length co16, .int .i64 ((rd_T58 t815 x21_2).f0), .int .i64 ((rd_T58 t815 x21_2).f1)] (by rfl) rfl rfl Zn ?_
            with_reducible refine (impl_BeatTime.calls kj103 _ _ t809 ((rd_T58 t815 x21_2).f0) ((rd_T58 t815 x21_2).f1) t854 t855 _ ?side1 ?side2 A110.out).mono ?_
            (case side1 => exact (Zaa HO_820000))
            (case side2 => exact (Kd.R_reads' HO_820000.out).2.1)
            rintro e w115 ⟨rfl, hb⟩; have HS3_ := (hb.cell (World.block_lt_of_cell? _ _ (hHeld.2.2.2.1))).trans (hHeld.2.2.2.1); have HS4_ := (hb.cell (World.block_lt_of_cell? _ _ (hHeld.2.2.2.2.1))).trans (hHeld.2.2.2.2.1); have HS5_ := (hb.cell (World.block_lt_of_cell? _ _ (hHeld.2.2.2.2.2.1))).trans (hHeld.2.2.2.2.2.1); have HS6_ := (hb.cell (World.block_lt_of_cell? _ _ (hHeld.2.2.2.2.2.2.1))).trans (hHeld.2.2.2.2.2.2.1); have HS7_ := (hb.cell (World.block_lt_of_cell? _ _ (hHeld.2.2.2.2.2.2.2.1))).trans (hHeld.2.2.2.2.2.2.2.1); have HS8_ := (hb.cell (World.block_lt_of_cell? _ _ (hHeld.2.2.2.2.2.2.2.2.1))).trans (hHeld.2.2.2.2.2.2.2.2.1); have HS9_ := (hb.cell (World.block_lt_of_cell? _ _ (hHeld.2.2.2.2.2.2.2.2.2.1))).trans (hHeld.2.2.2.2.2.2.2.2.2.1); have HS10_ := (hb.cell (World.block_lt_of_cell? _ _ (hHeld.2.2.2.2.2.2.2.2.2.2))).trans (hHeld.2.2.2.2.2.2.2.2.2.2); refine ⟨_, rfl, ?_⟩; replace HO_5 := (hbZ HO_5 hb); replace HO_9 := (hbZ HO_9 hb); replace HO_13 := (hbZ HO_13 hb); replace HO_820000 := (hbZ HO_820000 hb); replace HO_820001 := (hbZ HO_820001 hb); replace HO_820002 := (hbZ HO_820002 hb); replace BK819 := (bkZ BK819 hb); replace HB := (bsZ (Zh GE819) hb)
            (try clear hb)
            (try clear hb2)
            (try clear hk)
            (try clear hi)
            refine hK.out _ _ (by exact ⟨(blk_cell BK819.out 0).trans rfl, (blk_cell BK819.out 1).trans rfl, (blk_cell BK819.out 2).trans rfl, HS3_, HS4_, HS5_, HS6_, HS7_, HS8_, HS9_, HS10_⟩) (fun hHeld => ?_); clear hK K; refine normZ 162 ?_; refine pureZ HT_ 15 (some 147) (bT 20 16) ?_; refine pureZ HT_ 16 (some 163) (bT 20 17) ?_; refine pureZ HT_ 17 (some 164) (bT 20 18) ?_; refine pureZ HT_ 18 (some 22) (bT 20 19) ?_; refine pureZ HT_ 19 (some 23) (bT 20 20) ?_; refine done_ (done_of HT_.out Zm) ?_
            try go_wp2
            replace HO_5 := am_ (Kd.R_drew HO_5.out); replace HO_9 := am_ (Kd.R_drew HO_9.out); replace HO_13 := am_ (Kd.R_drew HO_13.out); replace HO_820000 := am_ (Kd.R_drew HO_820000.out); replace HO_820001 := am_ (Kd.R_drew HO_820001.out); replace HO_820002 := am_ (Kd.R_drew HO_820002.out); replace BK819 := am_ (blk_drew BK819.out); replace HB := am_ (below_drew1 HB.out); have p856 : 0 ≤ (x21_2 : Int) := of_decide_eq_true Zc; have q856 : x21_2 < (t815.length : Int) := of_decide_eq_true Zc; obtain ⟨ad856, e856, hx856_0, hx856_1, hx856_2, hx856_3⟩ := at_T58 (Kd.R_reads' HO_820002.out).2.2 x21_2 p856 q856; obtain rfl : ad852 = ad856 := (by injection e856); replace p856 := eq_true p856; replace q856 := eq_true q856; refine start_ (n := 14) (S := fun w' => w'.cell? ⟨gb819, 0, none⟩ = some (.slice Ao16 t809.length co16) ∧ w'.cell? ⟨gb819, 1, none⟩ = some (.slice Ao18 t812.length co18) ∧ w'.cell? ⟨gb819, 2, none⟩ = some (.slice (some ad852) t815.length co19) ∧ w'.cell? (ad852.add ((x21_2).toNat * 4)) = some (.int .i64 ((rd_T58 t815 x21_2).f0)) ∧ w'.cell? ⟨(ad852.add ((x21_2).toNat * 4)).block, (ad852.add ((x21_2).toNat * 4)).off + 1, none⟩ = some (.int .i64 ((rd_T58 t815 x21_2).f1)) ∧ w'.cell? ⟨(ad852.add ((x21_2).toNat * 4)).block, (ad852.add ((x21_2).toNat * 4)).off + 2, none⟩ = some (.string ((rd_T58 t815 x21_2).f2)) ∧ w'.cell? ⟨(ad852.add ((x21_2).toNat * 4)).block, (ad852.add ((x21_2).toNat * 4)).off + 3, none⟩ = some (.int .i64 ((rd_T58 t815 x21_2).f3))) (ds := []) (bT 14 0) Zm rfl rfl ⟨(blk_cell BK819.out 0).trans rfl, (blk_cell BK819.out 1).trans rfl, (blk_cell BK819.out 2).trans rfl, hx856_0, hx856_1, hx856_2, hx856_3⟩ (fun hHeld => ?_); refine with_tabW laws_FnShows.tab18 laws_FnShows.bits18 (fun HT_ HW_ => ?_); generalize w115.drew = w116 at HO_5 HO_9 HO_13 HO_820000 HO_820001 HO_820002 BK819 HB hx856_0 hx856_1 hx856_2 hx856_3 hHeld ⊢; refine pureZ HT_ 0 (some 166) (bT 14 1) ?_; refine pureZ HT_ 2 (some 168) (bB 14 5) ?_; refine pureZ HT_ 4 (some 170) (bB 14 21) ?_; refine takeZ7 HT_ HW_ 1 (some 167) (bB 14 23) hHeld ?_; refine takeZ7 HT_ HW_ 3 (some 169) (bT 14 5) hHeld ?_; refine pureZ HT_ 5 (some 171) (bT 14 6) ?_; refine pureZ HT_ 6 (some 172) (bT 14 7) ?_; refine takeZ7 HT_ HW_ 7 (some 173) (bT 14 8) hHeld ?_; refine one_ (i := 8) (N := some 174) (bT 14 9) rfl rfl (one_of HT_.out Zm) (by decide) (fun K hK => ?_); refine goes_ Try.func32 Zm rfl #[.slice Ao18 t812.length co18, .string ((rd_T58 t815 x21_2).f2)] (by rfl) rfl rfl Zn ?_
            with_reducible refine (impl_FindArticle.calls kj103 _ _ t812 ((rd_T58 t815 x21_2).f2) t857 t858 _ ?side1 ?side2 A111.out).mono ?_
            (case side1 => exact (Zaa HO_820001))
            (case side2 => exact (Kd.R_reads' HO_820001.out).2.1)
            rintro e w117 ⟨rfl, hb⟩; have HS3_ := (hb.cell (World.block_lt_of_cell? _ _ (hHeld.2.2.2.1))).trans (hHeld.2.2.2.1); have HS4_ := (hb.cell (World.block_lt_of_cell? _ _ (hHeld.2.2.2.2.1))).trans (hHeld.2.2.2.2.1); have HS5_ := (hb.cell (World.block_lt_of_cell? _ _ (hHeld.2.2.2.2.2.1))).trans (hHeld.2.2.2.2.2.1); have HS6_ := (hb.cell (World.block_lt_of_cell? _ _ (hHeld.2.2.2.2.2.2))).trans (hHeld.2.2.2.2.2.2); refine ⟨_, rfl, ?_⟩; replace HO_5 := (hbZ HO_5 hb); replace HO_9 := (hbZ HO_9 hb); replace HO_13 := (hbZ HO_13 hb); replace HO_820000 := (hbZ HO_820000 hb); replace HO_820001 := (hbZ HO_820001 hb); replace HO_820002 := (hbZ HO_820002 hb); replace BK819 := (bkZ BK819 hb); replace HB := (bsZ (Zh GE819) hb)
            (try clear hb)
            (try clear hb2)
            (try clear hk)
            (try clear hi)
            refine hK.out _ _ (by exact ⟨(blk_cell BK819.out 0).trans rfl, (blk_cell BK819.out 1).trans rfl, (blk_cell BK819.out 2).trans rfl, HS3_, HS4_, HS5_, HS6_⟩) (fun hHeld => ?_); clear hK K; refine normZ 174 ?_; refine pureZ HT_ 9 (some 165) (bT 14 10) ?_; refine pureZ HT_ 10 (some 175) (bT 14 11) ?_; refine pureZ HT_ 11 (some 176) (bT 14 12) ?_; refine pureZ HT_ 12 (some 24) (bT 14 13) ?_; refine pureZ HT_ 13 (some 25) (bT 14 14) ?_; refine done_ (done_of HT_.out Zm) ?_
            try go_wp2
            replace HO_5 := am_ (Kd.R_drew HO_5.out); replace HO_9 := am_ (Kd.R_drew HO_9.out); replace HO_13 := am_ (Kd.R_drew HO_13.out); replace HO_820000 := am_ (Kd.R_drew HO_820000.out); replace HO_820001 := am_ (Kd.R_drew HO_820001.out); replace HO_820002 := am_ (Kd.R_drew HO_820002.out); replace BK819 := am_ (blk_drew BK819.out); replace HB := am_ (below_drew1 HB.out); have p859 : 0 ≤ (x21_2 : Int) := of_decide_eq_true Zc; have q859 : x21_2 < (t815.length : Int) := of_decide_eq_true Zc; obtain ⟨ad859, e859, hx859_0, hx859_1, hx859_2, hx859_3⟩ := at_T58 (Kd.R_reads' HO_820002.out).2.2 x21_2 p859 q859; obtain rfl : ad852 = ad859 := (by injection e859); replace p859 := eq_true p859; replace q859 := eq_true q859; refine start_ (n := 14) (S := fun w' => w'.cell? ⟨gb819, 0, none⟩ = some (.slice Ao16 t809.length co16) ∧ w'.cell? ⟨gb819, 1, none⟩ = some (.slice Ao18 t812.length co18) ∧ w'.cell? ⟨gb819, 2, none⟩ = some (.slice (some ad852) t815.length co19) ∧ w'.cell? (ad852.add ((x21_2).toNat * 4)) = some (.int .i64 ((rd_T58 t815 x21_2).f0)) ∧ w'.cell? ⟨(ad852.add ((x21_2).toNat * 4)).block, (ad852.add ((x21_2).toNat * 4)).off + 1, none⟩ = some (.int .i64 ((rd_T58 t815 x21_2).f1)) ∧ w'.cell? ⟨(ad852.add ((x21_2).toNat * 4)).block, (ad852.add ((x21_2).toNat * 4)).off + 2, none⟩ = some (.string ((rd_T58 t815 x21_2).f2)) ∧ w'.cell? ⟨(ad852.add ((x21_2).toNat * 4)).block, (ad852.add ((x21_2).toNat * 4)).off + 3, none⟩ = some (.int .i64 ((rd_T58 t815 x21_2).f3))) (ds := []) (bT 14 0) Zm rfl rfl ⟨(blk_cell BK819.out 0).trans rfl, (blk_cell BK819.out 1).trans rfl, (blk_cell BK819.out 2).trans rfl, hx859_0, hx859_1, hx859_2, hx859_3⟩ (fun hHeld => ?_); refine with_tabW laws_FnShows.tab19 laws_FnShows.bits19 (fun HT_ HW_ => ?_); generalize w117.drew = w118 at HO_5 HO_9 HO_13 HO_820000 HO_820001 HO_820002 BK819 HB hx859_0 hx859_1 hx859_2 hx859_3 hHeld ⊢; refine pureZ HT_ 0 (some 178) (bT 14 1) ?_; refine pureZ HT_ 2 (some 180) (bB 14 5) ?_; refine pureZ HT_ 4 (some 182) (bB 14 21) ?_; refine takeZ7 HT_ HW_ 1 (some 179) (bB 14 23) hHeld ?_; refine takeZ7 HT_ HW_ 3 (some 181) (bT 14 5) hHeld ?_; refine pureZ HT_ 5 (some 183) (bT 14 6) ?_; refine pureZ HT_ 6 (some 184) (bT 14 7) ?_; refine takeZ7 HT_ HW_ 7 (some 185) (bT 14 8) hHeld ?_; refine one_ (i := 8) (N := some 186) (bT 14 9) rfl rfl (one_of HT_.out Zm) (by decide) (fun K hK => ?_); refine goes_ Try.func33 Zm rfl #[.slice Ao18 t812.length co18, .string ((rd_T58 t815 x21_2).f2)] (by rfl) rfl rfl Zn ?_
            with_reducible refine (spec_FindArticle.calls kj103 _ _ t812 ((rd_T58 t815 x21_2).f2) t860 t861 _ ?side1 ?side2 A112.out).mono ?_
            (case side1 => exact (Zaa HO_820001))
            (case side2 => exact (Kd.R_reads' HO_820001.out).2.1)
            rintro e w119 ⟨rfl, hb⟩; have HS3_ := (hb.cell (World.block_lt_of_cell? _ _ (hHeld.2.2.2.1))).trans (hHeld.2.2.2.1); have HS4_ := (hb.cell (World.block_lt_of_cell? _ _ (hHeld.2.2.2.2.1))).trans (hHeld.2.2.2.2.1); have HS5_ := (hb.cell (World.block_lt_of_cell? _ _ (hHeld.2.2.2.2.2.1))).trans (hHeld.2.2.2.2.2.1); have HS6_ := (hb.cell (World.block_lt_of_cell? _ _ (hHeld.2.2.2.2.2.2))).trans (hHeld.2.2.2.2.2.2); refine ⟨_, rfl, ?_⟩; replace HO_5 := (hbZ HO_5 hb); replace HO_9 := (hbZ HO_9 hb); replace HO_13 := (hbZ HO_13 hb); replace HO_820000 := (hbZ HO_820000 hb); replace HO_820001 := (hbZ HO_820001 hb); replace HO_820002 := (hbZ HO_820002 hb); replace BK819 := (bkZ BK819 hb); replace HB := (bsZ (Zh GE819) hb)
            (try clear hb)
            (try clear hb2)
            (try clear hk)
            (try clear hi)
            refine hK.out _ _ (by exact ⟨(blk_cell BK819.out 0).trans rfl, (blk_cell BK819.out 1).trans rfl, (blk_cell BK819.out 2).trans rfl, HS3_, HS4_, HS5_, HS6_⟩) (fun hHeld => ?_); clear hK K; refine normZ 186 ?_; refine pureZ HT_ 9 (some 177) (bT 14 10) ?_; refine pureZ HT_ 10 (some 187) (bT 14 11) ?_; refine pureZ HT_ 11 (some 188) (bT 14 12) ?_; refine pureZ HT_ 12 (some 26) (bT 14 13) ?_; refine pureZ HT_ 13 (some 27) (bT 14 14) ?_; refine done_ (done_of HT_.out Zm) ?_
            go_upto_region 20 with (fail)
            go_cut [196] (fun v196 wc => ∃ (kq : Nat) (x196_112 : Bool), v196 = .bool x196_112 ∧ Aside0 (laws_FnShows.j3 kq t818 t820 t823 t828 t831 t836 t844 x21_2 t854 t855 t857 t858 x196_112 t809 t812 t815 = some r) ∧ Aside0 (kq ≤ kj103) ∧ Aside0 (Kd.R (Kd.int .i64) 2 wc w.heap.size (fun k_ => some k_ ≠ (v829 : Value).ownBlock ∧ some k_ ≠ (v837 : Value).ownBlock) v821 t820) ∧ Aside0 (Kd.R (Kd.int .i64) 2 wc w.heap.size (fun k_ => some k_ ≠ (v821 : Value).ownBlock ∧ some k_ ≠ (v837 : Value).ownBlock) v829 t828) ∧ Aside0 (Kd.R (Kd.int .i64) 2 wc w.heap.size (fun k_ => some k_ ≠ (v821 : Value).ownBlock ∧ some k_ ≠ (v829 : Value).ownBlock) v837 t836) ∧ Aside0 (Kd.R k104 104 wc w.heap.size (fun _ => True) (.slice Ao16 t809.length co16) t809) ∧ Aside0 (Kd.R k61 61 wc w.heap.size (fun _ => True) (.slice Ao18 t812.length co18) t812) ∧ Aside0 (Kd.R k58 58 wc w.heap.size (fun _ => True) (.slice (some ad852) t815.length co19) t815) ∧ Aside0 (wc.heap[gb819]? = some (.cells #[(.slice Ao16 t809.length co16), (.slice Ao18 t812.length co18), (.slice (some ad852) t815.length co19)] 35 (0, 0))) ∧ Aside0 (Below w.heap.size w wc))
            case first => as_aux_lemma =>
             have H := HC113.out; clear HC113
             by_cases c120 : t857 = t860
             ·rw [if_pos c120] at H
              have c120b0 := beq_iff_eq.mpr c120; have c120b1 := bne_eq_false_iff_eq.mpr c120; clear c120
              (first | rw [c120b0] | (simp only [i64_w, i32_w]; rw [c120b0]) | skip)
              have H' := am_ H; clear H
              go_wp2
              go_meet
              case rel => exact ⟨_, ((t858 != t861)), Za, H', ⟨by have := HJ12.out; have := HK2.out; have := HJ103.out; first | omega | exact Nat.le_refl _⟩, ⟨(Zr HO_5)⟩, ⟨(Zr HO_9)⟩, ⟨(Zr HO_13)⟩, ⟨(Zr HO_820000)⟩, ⟨(Zr HO_820001)⟩, ⟨(Zr HO_820002)⟩, ⟨(Zq BK819)⟩, ⟨(Zh GE819)⟩⟩
             ·rw [if_neg c120] at H
              have c120b0 := beq_eq_false_iff_ne.mpr c120; have c120b1 := bne_iff_ne.mpr c120
              (first | rw [c120b0] | (simp only [i64_w, i32_w]; rw [c120b0]) | skip)
              exact absurd (H.trans (congrArg some HR_.out)) (laws_FnShows.j3_true _ _ _ _ _ _ _ _ _ _ _ _ _ _ _ _)
            case rest => as_aux_lemma =>
             clear HC113
             try clear c1
             try clear p2
             try clear c3
             try clear p8
             try clear q8
             try clear hx8
             try clear c12
             try clear c31
             try clear c32
             try clear c33
             try clear p85
             try clear q85
             try clear hx85
             try clear c120
             try clear c120b0
             try clear c120b1
             try clear hx856_0
             try clear hx856_1
             try clear hx856_2
             try clear hx856_3
             try clear hx859_0
             try clear hx859_1
             try clear hx859_2
             try clear hx859_3
             try clear p856
             try clear p859
             try clear q856
             try clear q859
             obtain ⟨kq, x196_112, rfl, HA, HJ112, HO_5, HO_9, HO_13, HO_820000, HO_820001, HO_820002, BK819, HB⟩ := hcut
             cases kq with
             | zero => exact absurd HA.out (by simp [laws_FnShows.j3])
             | succ kj112 =>
              have H := HA.out; clear HA; simp only [laws_FnShows.j3] at H
              by_cases c121 : x196_112 = true
              ·subst c121
               rw [if_pos rfl] at H; exact absurd ((Option.some.inj H).trans HR_.out) (by decide)
              ·replace c121 := Bool.eq_false_iff.mpr c121
               subst c121; rw [if_neg (show ¬ (false = true) by decide)] at H; have HC122 := am_ H; clear H
               go_upto_region 22 with (fail)
               go_cut [229] (fun v229 wc => ∃ (kq : Nat) (x229_121 : Bool), v229 = .bool x229_121 ∧ Aside0 (laws_FnShows.j4 kq t818 t820 t823 t828 t831 t836 t844 x21_2 x229_121 t809 t812 t815 = some r) ∧ Aside0 (kq ≤ kj112) ∧ Aside0 (Kd.R (Kd.int .i64) 2 wc w.heap.size (fun k_ => some k_ ≠ (v829 : Value).ownBlock ∧ some k_ ≠ (v837 : Value).ownBlock) v821 t820) ∧ Aside0 (Kd.R (Kd.int .i64) 2 wc w.heap.size (fun k_ => some k_ ≠ (v821 : Value).ownBlock ∧ some k_ ≠ (v837 : Value).ownBlock) v829 t828) ∧ Aside0 (Kd.R (Kd.int .i64) 2 wc w.heap.size (fun k_ => some k_ ≠ (v821 : Value).ownBlock ∧ some k_ ≠ (v829 : Value).ownBlock) v837 t836) ∧ Aside0 (Kd.R k104 104 wc w.heap.size (fun _ => True) (.slice Ao16 t809.length co16) t809) ∧ Aside0 (Kd.R k61 61 wc w.heap.size (fun _ => True) (.slice Ao18 t812.length co18) t812) ∧ Aside0 (Kd.R k58 58 wc w.heap.size (fun _ => True) (.slice (some ad852) t815.length co19) t815) ∧ Aside0 (wc.heap[gb819]? = some (.cells #[(.slice Ao16 t809.length co16), (.slice Ao18 t812.length co18), (.slice (some ad852) t815.length co19)] 35 (0, 0))) ∧ Aside0 (Below w.heap.size w wc))
               case first => as_aux_lemma =>
                have H := HC122.out; clear HC122
                by_cases c123 : t855 = 0
                ·rw [if_pos c123] at H
                 have c123b0 := beq_iff_eq.mpr c123; have c123b1 := bne_eq_false_iff_eq.mpr c123; clear c123
                 (first | rw [c123b0] | (simp only [i64_w, i32_w]; rw [c123b0]) | skip)
                 by_cases c124 : t858 = 0
                 ·rw [if_pos c124] at H
                  have c124b0 := beq_iff_eq.mpr c124; have c124b1 := bne_eq_false_iff_eq.mpr c124; clear c124
                  by_cases c125 : 0 ≤ x21_2
                  ·rw [if_pos c125] at H
                   have c125b0 := decide_eq_true c125; clear c125
                   by_cases c126 : x21_2 < (t828.length : Int)
                   ·rw [if_pos c126] at H
                    have c126b0 := decide_eq_true c126; clear c126
                    by_cases c127 : 0 ≤ t857
                    ·rw [if_pos c127] at H
                     have c127b0 := decide_eq_true c127; clear c127
                     by_cases c128 : t857 < (t812.length : Int)
                     ·rw [if_pos c128] at H
                      have c128b0 := decide_eq_true c128; clear c128
                      by_cases c129 : (wrap64 ((rd t828 x21_2) + ((rd_T61 t812 t857).f3))) = t854
                      ·rw [if_pos c129] at H
                       have c129b0 := beq_iff_eq.mpr c129; have c129b1 := bne_eq_false_iff_eq.mpr c129; clear c129
                       by_cases c130 : (rd t828 x21_2) < 0
                       ·rw [if_pos c130] at H
                        have c130b0 := decide_eq_true c130; clear c130; exact absurd (H.trans (congrArg some HR_.out)) (laws_FnShows.j4_true _ _ _ _ _ _ _ _ _ _ _ _)
                       ·rw [if_neg c130] at H
                        have c130b0 := decide_eq_false c130; clear c130; have H' := am_ H; clear H
                        try go_wp2
                        replace HO_5 := am_ (Kd.R_drew HO_5.out); replace HO_9 := am_ (Kd.R_drew HO_9.out); replace HO_13 := am_ (Kd.R_drew HO_13.out); replace HO_820000 := am_ (Kd.R_drew HO_820000.out); replace HO_820001 := am_ (Kd.R_drew HO_820001.out); replace HO_820002 := am_ (Kd.R_drew HO_820002.out); replace BK819 := am_ (blk_drew BK819.out); replace HB := am_ (below_drew1 HB.out); obtain ⟨Ao134, co134, eo134⟩ := Kd.R_slice HO_9.out
                        (first | subst eo134 | (injection eo134 with f1_ f2_ f3_; have f4_ := f1_.symm; have f5_ := f3_.symm; clear f1_ f2_ f3_; subst f4_; subst f5_))
                        have p862 : 0 ≤ (x21_2 : Int) := of_decide_eq_true Zc; have q862 : x21_2 < (t828.length : Int) := of_decide_eq_true Zc; obtain ⟨ad862, e862, hx862_0⟩ := Kd.at_int (Kd.R_reads' HO_9.out).2.2 x21_2 p862 q862
                        cases e862
                        replace p862 := eq_true p862; replace q862 := eq_true q862; have p863 : 0 ≤ (t857 : Int) := of_decide_eq_true Zc; have q863 : t857 < (t812.length : Int) := of_decide_eq_true Zc; obtain ⟨ad863, e863, hx863_0, hx863_1, hx863_2, hx863_3, hx863_4, hx863_5, hx863_6, hx863_7, hx863_8⟩ := at_T61 (Kd.R_reads' HO_820001.out).2.2 t857 p863 q863
                        cases e863
                        replace p863 := eq_true p863; replace q863 := eq_true q863; have p864 : 0 ≤ (x21_2 : Int) := of_decide_eq_true Zc; have q864 : x21_2 < (t828.length : Int) := of_decide_eq_true Zc; obtain ⟨ad864, e864, hx864_0⟩ := Kd.at_int (Kd.R_reads' HO_9.out).2.2 x21_2 p864 q864; obtain rfl : ad862 = ad864 := (by injection e864); replace p864 := eq_true p864; replace q864 := eq_true q864; refine start_ (n := 33) (S := fun w' => w'.cell? ⟨gb819, 0, none⟩ = some (.slice Ao16 t809.length co16) ∧ w'.cell? ⟨gb819, 1, none⟩ = some (.slice (some ad863) t812.length co18) ∧ w'.cell? ⟨gb819, 2, none⟩ = some (.slice (some ad852) t815.length co19) ∧ w'.cell? (ad862.add (x21_2).toNat) = some (.int .i64 (rd t828 x21_2)) ∧ w'.cell? (ad863.add ((t857).toNat * 9)) = some (.string ((rd_T61 t812 t857).f0)) ∧ w'.cell? ⟨(ad863.add ((t857).toNat * 9)).block, (ad863.add ((t857).toNat * 9)).off + 1, none⟩ = some (.int .i64 ((rd_T61 t812 t857).f1)) ∧ w'.cell? ⟨(ad863.add ((t857).toNat * 9)).block, (ad863.add ((t857).toNat * 9)).off + 2, none⟩ = some (.int .i64 ((rd_T61 t812 t857).f2)) ∧ w'.cell? ⟨(ad863.add ((t857).toNat * 9)).block, (ad863.add ((t857).toNat * 9)).off + 3, none⟩ = some (.int .i64 ((rd_T61 t812 t857).f3)) ∧ w'.cell? ⟨(ad863.add ((t857).toNat * 9)).block, (ad863.add ((t857).toNat * 9)).off + 4, none⟩ = some (.int .i64 ((rd_T61 t812 t857).f4)) ∧ w'.cell? ⟨(ad863.add ((t857).toNat * 9)).block, (ad863.add ((t857).toNat * 9)).off + 5, none⟩ = some (.int .i64 ((rd_T61 t812 t857).f5)) ∧ w'.cell? ⟨(ad863.add ((t857).toNat * 9)).block, (ad863.add ((t857).toNat * 9)).off + 6, none⟩ = some (.int .i64 ((rd_T61 t812 t857).f6)) ∧ w'.cell? ⟨(ad863.add ((t857).toNat * 9)).block, (ad863.add ((t857).toNat * 9)).off + 7, none⟩ = some (.int .i64 ((rd_T61 t812 t857).f7)) ∧ w'.cell? ⟨(ad863.add ((t857).toNat * 9)).block, (ad863.add ((t857).toNat * 9)).off + 8, none⟩ = some (.int .i64 ((rd_T61 t812 t857).f8)) ∧ w'.cell? (ad862.add (x21_2).toNat) = some (.int .i64 (rd t828 x21_2))) (ds := []) (bT 33 0) Zm rfl rfl ⟨(blk_cell BK819.out 0).trans rfl, (blk_cell BK819.out 1).trans rfl, (blk_cell BK819.out 2).trans rfl, hx862_0, hx863_0, hx863_1, hx863_2, hx863_3, hx863_4, hx863_5, hx863_6, hx863_7, hx863_8, hx864_0⟩ (fun hHeld => ?_); refine with_tabW laws_FnShows.tab22 laws_FnShows.bits22 (fun HT_ HW_ => ?_); generalize wc.drew = w133 at HO_5 HO_9 HO_13 HO_820000 HO_820001 HO_820002 BK819 HB hx862_0 hx863_0 hx863_1 hx863_2 hx863_3 hx863_4 hx863_5 hx863_6 hx863_7 hx863_8 hx864_0 hHeld ⊢; refine pureZ HT_ 0 (some 197) (bT 33 1) ?_; refine pureZ HT_ 1 (some 198) (bT 33 2) ?_; refine pureZ HT_ 2 (some 199) (bT 33 3) ?_; refine pureZ HT_ 3 (some 200) (bT 33 4) ?_; refine pureZ HT_ 4 (some 201) (bT 33 5) ?_; refine pureZ HT_ 5 (some 202) (bT 33 6) ?_; refine pureZ HT_ 6 (some 203) (bT 33 7) ?_; refine pureZ HT_ 7 (some 204) (bT 33 8) ?_; refine pureZ HT_ 8 (some 205) (bT 33 9) ?_; refine pureZ HT_ 9 (some 206) (bT 33 10) ?_; refine pureZ HT_ 11 (some 208) (bB 33 3071) ?_; refine pureZ HT_ 13 (some 210) (bB 33 11263) ?_
                        refine pureZ HT_ 18 (some 215) (bB 33 273407) ?_; refine takeZ14 HT_ HW_ 10 (some 207) (bB 33 274431) hHeld ?_; refine takeZ14 HT_ HW_ 12 (some 209) (bB 33 278527) hHeld ?_; refine pureZ HT_ 14 (some 211) (bB 33 294911) ?_; refine pureZ HT_ 15 (some 212) (bB 33 327679) ?_; refine takeZ14 HT_ HW_ 16 (some 213) (bB 33 393215) hHeld ?_; refine pureZ HT_ 17 (some 214) (bT 33 19) ?_; refine pureZ HT_ 19 (some 216) (bT 33 20) ?_; refine pureZ HT_ 20 (some 217) (bT 33 21) ?_; refine pureZ HT_ 21 (some 218) (bT 33 22) ?_; refine pureZ HT_ 22 (some 219) (bT 33 23) ?_; refine pureZ HT_ 23 (some 220) (bT 33 24) ?_; refine pureZ HT_ 24 (some 221) (bT 33 25) ?_; refine takeZ14 HT_ HW_ 25 (some 222) (bT 33 26) hHeld ?_; refine pureZ HT_ 26 (some 223) (bT 33 27) ?_; refine pureZ HT_ 27 (some 224) (bT 33 28) ?_; refine pureZ HT_ 28 (some 225) (bT 33 29) ?_; refine pureZ HT_ 29 (some 226) (bT 33 30) ?_; refine pureZ HT_ 30 (some 227) (bT 33 31) ?_; refine pureZ HT_ 31 (some 228) (bT 33 32) ?_; refine pureZ HT_ 32 (some 229) (bT 33 33) ?_; refine done_ (done_of HT_.out Zm) ?_
                        try go_wp2
                        go_meet
                        case rel => exact ⟨_, (decide (t854 > t844)), Za, H', ⟨by have := HJ12.out; have := HK2.out; have := HJ103.out; have := HJ112.out; first | omega | exact Nat.le_refl _⟩, ⟨(Zr HO_5)⟩, ⟨(Zr HO_9)⟩, ⟨(Zr HO_13)⟩, ⟨(Zr HO_820000)⟩, ⟨(Zr HO_820001)⟩, ⟨(Zr HO_820002)⟩, ⟨(Zq BK819)⟩, ⟨(Zh GE819)⟩⟩
                      ·rw [if_neg c129] at H
                       have c129b0 := beq_eq_false_iff_ne.mpr c129; have c129b1 := bne_iff_ne.mpr c129; exact absurd (H.trans (congrArg some HR_.out)) (laws_FnShows.j4_true _ _ _ _ _ _ _ _ _ _ _ _)
                     ·rw [if_neg c128] at H
                      exact absurd H (by simp)
                    ·rw [if_neg c127] at H
                     exact absurd H (by simp)
                   ·rw [if_neg c126] at H
                    exact absurd H (by simp)
                  ·rw [if_neg c125] at H
                   exact absurd H (by simp)
                 ·rw [if_neg c124] at H
                  have c124b0 := beq_eq_false_iff_ne.mpr c124; have c124b1 := bne_iff_ne.mpr c124; exact absurd (H.trans (congrArg some HR_.out)) (laws_FnShows.j4_true _ _ _ _ _ _ _ _ _ _ _ _)
                ·rw [if_neg c123] at H
                 have c123b0 := beq_eq_false_iff_ne.mpr c123; have c123b1 := bne_iff_ne.mpr c123
                 (first | rw [c123b0] | (simp only [i64_w, i32_w]; rw [c123b0]) | skip)
                 exact absurd (H.trans (congrArg some HR_.out)) (laws_FnShows.j4_true _ _ _ _ _ _ _ _ _ _ _ _)
               case rest => as_aux_lemma =>
                clear HC122
                try clear c1
                try clear p2
                try clear c12
                try clear c123
                try clear c123b0
                try clear c123b1
                try clear c124
                try clear c124b0
                try clear c124b1
                try clear c125
                try clear c126
                try clear c127
                try clear c128
                obtain ⟨kq, x229_121, rfl, HA, HJ121, HO_5, HO_9, HO_13, HO_820000, HO_820001, HO_820002, BK819, HB⟩ := hcut
                cases kq with
                | zero => exact absurd HA.out (by simp [laws_FnShows.j4])
                | succ kj121 =>
                 have H := HA.out; clear HA; simp only [laws_FnShows.j4] at H
                 by_cases c139 : x229_121 = true
                 ·subst c139
                  rw [if_pos rfl] at H; exact absurd ((Option.some.inj H).trans HR_.out) (by decide)
                 ·replace c139 := Bool.eq_false_iff.mpr c139
                  subst c139; rw [if_neg (show ¬ (false = true) by decide)] at H
                  by_cases c140 : x21_2 > 0
                  ·rw [if_pos c140] at H
                   have c140b0 : decide (0 < x21_2) = true := decide_eq_true c140; clear c140; obtain ⟨ji141, hji141⟩ : ∃ j_ : Int, (wrap64 (x21_2 - 1)) = j_ := ⟨_, rfl⟩
                   replace H : (if 0 ≤ (ji141) then (if (ji141) < (t836.length : Int) then (if 0 ≤ (rd t836 (ji141)) then (if (rd t836 (ji141)) < (t828.length : Int) then (if 0 ≤ x21_2 then (if x21_2 < (t836.length : Int) then (if 0 ≤ (rd t836 x21_2) then (if (rd t836 x21_2) < (t828.length : Int) then (if (rd t828 (rd t836 (ji141))) > (rd t828 (rd t836 x21_2)) then (some false) else (if (rd t828 (rd t836 (ji141))) = (rd t828 (rd t836 x21_2)) then (if (rd t836 (ji141)) ≥ (rd t836 x21_2) then (some false) else (laws_FnShows.l0 kj121 t818 t820 t823 t828 t831 t836 t844 (wrap64 (x21_2 + 1)) t809 t812 t815)) else (laws_FnShows.l0 kj121 t818 t820 t823 t828 t831 t836 t844 (wrap64 (x21_2 + 1)) t809 t812 t815))) else (none)) else (none)) else (none)) else (none)) else (none)) else (none)) else (none)) else (none)) = some r := by first | (rw [hji141] at H; exact H) | (simp only [hji141] at H ⊢; exact H)
                   have hji141w : (IntKind.i64.wrap (x21_2 - 1)) = ji141 := (i64_w _).trans hji141
                   by_cases c142 : 0 ≤ (ji141)
                   ·rw [if_pos c142] at H
                    have c142b0 := decide_eq_true c142; clear c142
                    by_cases c143 : (ji141) < (t836.length : Int)
                    ·rw [if_pos c143] at H
                     have c143b0 := decide_eq_true c143; clear c143
                     by_cases c144 : 0 ≤ (rd t836 (ji141))
                     ·rw [if_pos c144] at H
                      have c144b0 := decide_eq_true c144; clear c144
                      by_cases c145 : (rd t836 (ji141)) < (t828.length : Int)
                      ·rw [if_pos c145] at H
                       have c145b0 := decide_eq_true c145; clear c145
                       by_cases c146 : 0 ≤ x21_2
                       ·rw [if_pos c146] at H
                        have c146b0 := decide_eq_true c146; clear c146
                        by_cases c147 : x21_2 < (t836.length : Int)
                        ·rw [if_pos c147] at H
                         have c147b0 := decide_eq_true c147; clear c147
                         by_cases c148 : 0 ≤ (rd t836 x21_2)
                         ·rw [if_pos c148] at H
                          have c148b0 := decide_eq_true c148; clear c148
                          by_cases c149 : (rd t836 x21_2) < (t828.length : Int)
                          ·rw [if_pos c149] at H
                           have c149b0 := decide_eq_true c149; clear c149
                           by_cases c150 : (rd t828 (rd t836 (ji141))) > (rd t828 (rd t836 x21_2))
                           ·rw [if_pos c150] at H
                            have c150b0 : decide ((rd t828 (rd t836 x21_2)) < (rd t828 (rd t836 (ji141)))) = true := decide_eq_true c150; clear c150; exact absurd ((Option.some.inj H).trans HR_.out) (by decide)
                           ·rw [if_neg c150] at H
                            have c150b0 : decide ((rd t828 (rd t836 x21_2)) < (rd t828 (rd t836 (ji141)))) = false := decide_eq_false c150; clear c150
                            by_cases c154 : (rd t828 (rd t836 (ji141))) = (rd t828 (rd t836 x21_2))
                            ·rw [if_pos c154] at H
                             have c154b0 := beq_iff_eq.mpr c154; have c154b1 := bne_eq_false_iff_eq.mpr c154; clear c154
                             by_cases c155 : (rd t836 (ji141)) ≥ (rd t836 x21_2)
                             ·rw [if_pos c155] at H
                              have c155b0 : decide ((rd t836 x21_2) ≤ (rd t836 (ji141))) = true := decide_eq_true c155; clear c155; exact absurd ((Option.some.inj H).trans HR_.out) (by decide)
                             ·rw [if_neg c155] at H
                              have c155b0 : decide ((rd t836 x21_2) ≤ (rd t836 (ji141))) = false := decide_eq_false c155; clear c155; have H' := am_ H; clear H
                              try go_wp2
                              replace HO_5 := am_ (Kd.R_drew HO_5.out); replace HO_9 := am_ (Kd.R_drew HO_9.out); replace HO_13 := am_ (Kd.R_drew HO_13.out); replace HO_820000 := am_ (Kd.R_drew HO_820000.out); replace HO_820001 := am_ (Kd.R_drew HO_820001.out); replace HO_820002 := am_ (Kd.R_drew HO_820002.out); replace BK819 := am_ (blk_drew BK819.out); replace HB := am_ (below_drew1 HB.out); obtain ⟨Ao160, co160, eo160⟩ := Kd.R_slice HO_13.out
                              (first | subst eo160 | (injection eo160 with f1_ f2_ f3_; have f4_ := f1_.symm; have f5_ := f3_.symm; clear f1_ f2_ f3_; subst f4_; subst f5_))
                              have p865 : 0 ≤ ((ji141) : Int) := of_decide_eq_true Zc; have q865 : (ji141) < (t836.length : Int) := of_decide_eq_true Zc; obtain ⟨ad865, e865, hx865_0⟩ := Kd.at_int (Kd.R_reads' HO_13.out).2.2 (ji141) p865 q865
                              cases e865
                              replace p865 := eq_true p865; replace q865 := eq_true q865; obtain ⟨Ao161, co161, eo161⟩ := Kd.R_slice HO_9.out
                              (first | subst eo161 | (injection eo161 with f1_ f2_ f3_; have f4_ := f1_.symm; have f5_ := f3_.symm; clear f1_ f2_ f3_; subst f4_; subst f5_))
                              have p866 : 0 ≤ ((rd t836 (ji141)) : Int) := of_decide_eq_true Zc; have q866 : (rd t836 (ji141)) < (t828.length : Int) := of_decide_eq_true Zc; obtain ⟨ad866, e866, hx866_0⟩ := Kd.at_int (Kd.R_reads' HO_9.out).2.2 (rd t836 (ji141)) p866 q866
                              cases e866
                              replace p866 := eq_true p866; replace q866 := eq_true q866; have p867 : 0 ≤ (x21_2 : Int) := of_decide_eq_true Zc; have q867 : x21_2 < (t836.length : Int) := of_decide_eq_true Zc; obtain ⟨ad867, e867, hx867_0⟩ := Kd.at_int (Kd.R_reads' HO_13.out).2.2 x21_2 p867 q867; obtain rfl : ad865 = ad867 := (by injection e867); replace p867 := eq_true p867; replace q867 := eq_true q867; have p868 : 0 ≤ ((rd t836 x21_2) : Int) := of_decide_eq_true Zc; have q868 : (rd t836 x21_2) < (t828.length : Int) := of_decide_eq_true Zc; obtain ⟨ad868, e868, hx868_0⟩ := Kd.at_int (Kd.R_reads' HO_9.out).2.2 (rd t836 x21_2) p868 q868; obtain rfl : ad866 = ad868 := (by injection e868); replace p868 := eq_true p868; replace q868 := eq_true q868; have p869 : 0 ≤ ((ji141) : Int) := of_decide_eq_true Zc; have q869 : (ji141) < (t836.length : Int) := of_decide_eq_true Zc; obtain ⟨ad869, e869, hx869_0⟩ := Kd.at_int (Kd.R_reads' HO_13.out).2.2 (ji141) p869 q869; obtain rfl : ad865 = ad869 := (by injection e869); replace p869 := eq_true p869; replace q869 := eq_true q869; have p870 : 0 ≤ ((rd t836 (ji141)) : Int) := of_decide_eq_true Zc; have q870 : (rd t836 (ji141)) < (t828.length : Int) := of_decide_eq_true Zc; obtain ⟨ad870, e870, hx870_0⟩ := Kd.at_int (Kd.R_reads' HO_9.out).2.2 (rd t836 (ji141)) p870 q870; obtain rfl : ad866 = ad870 := (by injection e870); replace p870 := eq_true p870; replace q870 := eq_true q870; have p871 : 0 ≤ (x21_2 : Int) := of_decide_eq_true Zc; have q871 : x21_2 < (t836.length : Int) := of_decide_eq_true Zc; obtain ⟨ad871, e871, hx871_0⟩ := Kd.at_int (Kd.R_reads' HO_13.out).2.2 x21_2 p871 q871; obtain rfl : ad865 = ad871 := (by injection e871); replace p871 := eq_true p871; replace q871 := eq_true q871; have p872 : 0 ≤ ((rd t836 x21_2) : Int) := of_decide_eq_true Zc; have q872 : (rd t836 x21_2) < (t828.length : Int) := of_decide_eq_true Zc; obtain ⟨ad872, e872, hx872_0⟩ := Kd.at_int (Kd.R_reads' HO_9.out).2.2 (rd t836 x21_2) p872 q872; obtain rfl : ad866 = ad872 := (by injection e872); replace p872 := eq_true p872; replace q872 := eq_true q872; have p873 : 0 ≤ ((ji141) : Int) := of_decide_eq_true Zc; have q873 : (ji141) < (t836.length : Int) := of_decide_eq_true Zc; obtain ⟨ad873, e873, hx873_0⟩ := Kd.at_int (Kd.R_reads' HO_13.out).2.2 (ji141) p873 q873; obtain rfl : ad865 = ad873 := (by injection e873); replace p873 := eq_true p873; replace q873 := eq_true q873; have p874 : 0 ≤ (x21_2 : Int) := of_decide_eq_true Zc; have q874 : x21_2 < (t836.length : Int) := of_decide_eq_true Zc; obtain ⟨ad874, e874, hx874_0⟩ := Kd.at_int (Kd.R_reads' HO_13.out).2.2 x21_2 p874 q874; obtain rfl : ad865 = ad874 := (by injection e874); replace p874 := eq_true p874; replace q874 := eq_true q874; refine start_ (n := 50) (S := fun w' => w'.cell? (ad865.add ((ji141)).toNat) = some (.int .i64 (rd t836 (ji141))) ∧ w'.cell? (ad866.add ((rd t836 (ji141))).toNat) = some (.int .i64 (rd t828 (rd t836 (ji141)))) ∧ w'.cell? (ad865.add (x21_2).toNat) = some (.int .i64 (rd t836 x21_2)) ∧ w'.cell? (ad866.add ((rd t836 x21_2)).toNat) = some (.int .i64 (rd t828 (rd t836 x21_2))) ∧ w'.cell? (ad865.add ((ji141)).toNat) = some (.int .i64 (rd t836 (ji141))) ∧ w'.cell? (ad866.add ((rd t836 (ji141))).toNat) = some (.int .i64 (rd t828 (rd t836 (ji141)))) ∧ w'.cell? (ad865.add (x21_2).toNat) = some (.int .i64 (rd t836 x21_2)) ∧ w'.cell? (ad866.add ((rd t836 x21_2)).toNat) = some (.int .i64 (rd t828 (rd t836 x21_2))) ∧ w'.cell? (ad865.add ((ji141)).toNat) = some (.int .i64 (rd t836 (ji141))) ∧ w'.cell? (ad865.add (x21_2).toNat) = some (.int .i64 (rd t836 x21_2))) (ds := []) (bT 50 0) Zm rfl rfl ⟨hx865_0, hx866_0, hx867_0, hx868_0, hx869_0, hx870_0, hx871_0, hx872_0, hx873_0, hx874_0⟩ (fun hHeld => ?_); refine with_tabW laws_FnShows.tab24 laws_FnShows.bits24 (fun HT_ HW_ => ?_)
                              generalize wc.drew = w159 at HO_5 HO_9 HO_13 HO_820000 HO_820001 HO_820002 BK819 HB hx865_0 hx866_0 hx867_0 hx868_0 hx869_0 hx870_0 hx871_0 hx872_0 hx873_0 hx874_0 hHeld ⊢; refine pureZ HT_ 0 (some 230) (bT 50 1) ?_; refine pureZ HT_ 1 (some 231) (bT 50 2) ?_; refine pureZ HT_ 2 (some 232) (bT 50 3) ?_; refine pureZ HT_ 3 (some 233) (bT 50 4) ?_; refine pureZ HT_ 4 (some 234) (bT 50 5) ?_; refine pureZ HT_ 5 (some 235) (bT 50 6) ?_; refine pureZ HT_ 6 (some 236) (bT 50 7) ?_; refine pureZ HT_ 7 (some 237) (bT 50 8) ?_; refine pureZ HT_ 11 (some 241) (bB 50 2303) ?_; refine pureZ HT_ 12 (some 242) (bB 50 6399) ?_; refine pureZ HT_ 13 (some 243) (bB 50 14591) ?_; refine pureZ HT_ 14 (some 244) (bB 50 30975) ?_; refine takeZ10 HT_ HW_ 8 (some 238) (bB 50 31231) hHeld ?_; refine pureZ HT_ 9 (some 239) (bB 50 31743) ?_; refine takeZ10 HT_ HW_ 10 (some 240) (bT 50 15) hHeld ?_; refine takeZ10 HT_ HW_ 15 (some 245) (bT 50 16) hHeld ?_; refine pureZ HT_ 16 (some 246) (bT 50 17) ?_; refine takeZ10 HT_ HW_ 17 (some 247) (bT 50 18) hHeld ?_; refine pureZ HT_ 18 (some 248) (bT 50 19) ?_; refine pureZ HT_ 19 (some 249) (bT 50 20) ?_; refine pureZ HT_ 20 (some 250) (bT 50 21) ?_; refine pureZ HT_ 21 (some 251) (bT 50 22) ?_; refine pureZ HT_ 22 (some 252) (bT 50 23) ?_; refine pureZ HT_ 23 (some 253) (bT 50 24) ?_; refine pureZ HT_ 24 (some 254) (bT 50 25) ?_; refine pureZ HT_ 28 (some 258) (bB 50 301989887) ?_; refine pureZ HT_ 29 (some 259) (bB 50 838860799) ?_; refine pureZ HT_ 30 (some 260) (bB 50 1912602623) ?_; refine pureZ HT_ 31 (some 261) (bB 50 4060086271) ?_; refine takeZ10 HT_ HW_ 25 (some 255) (bB 50 4093640703) hHeld ?_; refine pureZ HT_ 26 (some 256) (bB 50 4160749567) ?_; refine takeZ10 HT_ HW_ 27 (some 257) (bT 50 32) hHeld ?_; refine takeZ10 HT_ HW_ 32 (some 262) (bT 50 33) hHeld ?_; refine pureZ HT_ 33 (some 263) (bT 50 34) ?_; refine takeZ10 HT_ HW_ 34 (some 264) (bT 50 35) hHeld ?_; refine pureZ HT_ 35 (some 265) (bT 50 36) ?_; refine pureZ HT_ 36 (some 266) (bT 50 37) ?_; refine pureZ HT_ 37 (some 267) (bT 50 38) ?_; refine pureZ HT_ 38 (some 268) (bT 50 39) ?_; refine pureZ HT_ 39 (some 269) (bT 50 40) ?_; refine pureZ HT_ 40 (some 270) (bT 50 41) ?_; refine pureZ HT_ 42 (some 272) (bB 50 6597069766655) ?_; refine pureZ HT_ 43 (some 273) (bB 50 15393162788863) ?_; refine pureZ HT_ 44 (some 274) (bB 50 32985348833279) ?_; refine takeZ10 HT_ HW_ 41 (some 271) (bT 50 45) hHeld ?_; refine takeZ10 HT_ HW_ 45 (some 275) (bT 50 46) hHeld ?_; refine pureZ HT_ 46 (some 276) (bT 50 47) ?_; refine pureZ HT_ 47 (some 277) (bT 50 48) ?_; refine pureZ HT_ 48 (some 278) (bT 50 49) ?_; refine pureZ HT_ 49 (some 279) (bT 50 50) ?_; refine done_ (done_of HT_.out Zm) ?_
                              try go_wp2
                              go_roundg kj121
                              case measure => have := HJ12.out; have := HK2.out; have := HJ103.out; have := HJ112.out; have := HJ121.out; omega
                              case rel => exact ⟨(wrap64 (x21_2 + 1)), Za, H', ⟨by have := HJ12.out; have := HK2.out; have := HJ103.out; have := HJ112.out; have := HJ121.out; omega⟩, ⟨(Zr HO_5)⟩, ⟨(Zr HO_9)⟩, ⟨(Zr HO_13)⟩, ⟨(Zr HO_820000)⟩, ⟨(Zr HO_820001)⟩, ⟨(Zr HO_820002)⟩, ⟨(Zq BK819)⟩, ⟨(Zh GE819)⟩⟩
                            ·rw [if_neg c154] at H
                             have c154b0 := beq_eq_false_iff_ne.mpr c154; have c154b1 := bne_iff_ne.mpr c154; have H' := am_ H; clear H
                             try go_wp2
                             replace HO_5 := am_ (Kd.R_drew HO_5.out); replace HO_9 := am_ (Kd.R_drew HO_9.out); replace HO_13 := am_ (Kd.R_drew HO_13.out); replace HO_820000 := am_ (Kd.R_drew HO_820000.out); replace HO_820001 := am_ (Kd.R_drew HO_820001.out); replace HO_820002 := am_ (Kd.R_drew HO_820002.out); replace BK819 := am_ (blk_drew BK819.out); replace HB := am_ (below_drew1 HB.out); obtain ⟨Ao163, co163, eo163⟩ := Kd.R_slice HO_13.out
                             (first | subst eo163 | (injection eo163 with f1_ f2_ f3_; have f4_ := f1_.symm; have f5_ := f3_.symm; clear f1_ f2_ f3_; subst f4_; subst f5_))
                             have p865 : 0 ≤ ((ji141) : Int) := of_decide_eq_true Zc; have q865 : (ji141) < (t836.length : Int) := of_decide_eq_true Zc; obtain ⟨ad865, e865, hx865_0⟩ := Kd.at_int (Kd.R_reads' HO_13.out).2.2 (ji141) p865 q865
                             cases e865
                             replace p865 := eq_true p865; replace q865 := eq_true q865; obtain ⟨Ao164, co164, eo164⟩ := Kd.R_slice HO_9.out
                             (first | subst eo164 | (injection eo164 with f1_ f2_ f3_; have f4_ := f1_.symm; have f5_ := f3_.symm; clear f1_ f2_ f3_; subst f4_; subst f5_))
                             have p866 : 0 ≤ ((rd t836 (ji141)) : Int) := of_decide_eq_true Zc; have q866 : (rd t836 (ji141)) < (t828.length : Int) := of_decide_eq_true Zc; obtain ⟨ad866, e866, hx866_0⟩ := Kd.at_int (Kd.R_reads' HO_9.out).2.2 (rd t836 (ji141)) p866 q866
                             cases e866
                             replace p866 := eq_true p866; replace q866 := eq_true q866; have p867 : 0 ≤ (x21_2 : Int) := of_decide_eq_true Zc; have q867 : x21_2 < (t836.length : Int) := of_decide_eq_true Zc; obtain ⟨ad867, e867, hx867_0⟩ := Kd.at_int (Kd.R_reads' HO_13.out).2.2 x21_2 p867 q867; obtain rfl : ad865 = ad867 := (by injection e867); replace p867 := eq_true p867; replace q867 := eq_true q867; have p868 : 0 ≤ ((rd t836 x21_2) : Int) := of_decide_eq_true Zc; have q868 : (rd t836 x21_2) < (t828.length : Int) := of_decide_eq_true Zc; obtain ⟨ad868, e868, hx868_0⟩ := Kd.at_int (Kd.R_reads' HO_9.out).2.2 (rd t836 x21_2) p868 q868; obtain rfl : ad866 = ad868 := (by injection e868); replace p868 := eq_true p868; replace q868 := eq_true q868; have p869 : 0 ≤ ((ji141) : Int) := of_decide_eq_true Zc; have q869 : (ji141) < (t836.length : Int) := of_decide_eq_true Zc; obtain ⟨ad869, e869, hx869_0⟩ := Kd.at_int (Kd.R_reads' HO_13.out).2.2 (ji141) p869 q869; obtain rfl : ad865 = ad869 := (by injection e869); replace p869 := eq_true p869; replace q869 := eq_true q869; have p870 : 0 ≤ ((rd t836 (ji141)) : Int) := of_decide_eq_true Zc; have q870 : (rd t836 (ji141)) < (t828.length : Int) := of_decide_eq_true Zc; obtain ⟨ad870, e870, hx870_0⟩ := Kd.at_int (Kd.R_reads' HO_9.out).2.2 (rd t836 (ji141)) p870 q870; obtain rfl : ad866 = ad870 := (by injection e870); replace p870 := eq_true p870; replace q870 := eq_true q870; have p871 : 0 ≤ (x21_2 : Int) := of_decide_eq_true Zc; have q871 : x21_2 < (t836.length : Int) := of_decide_eq_true Zc; obtain ⟨ad871, e871, hx871_0⟩ := Kd.at_int (Kd.R_reads' HO_13.out).2.2 x21_2 p871 q871; obtain rfl : ad865 = ad871 := (by injection e871); replace p871 := eq_true p871; replace q871 := eq_true q871; have p872 : 0 ≤ ((rd t836 x21_2) : Int) := of_decide_eq_true Zc; have q872 : (rd t836 x21_2) < (t828.length : Int) := of_decide_eq_true Zc; obtain ⟨ad872, e872, hx872_0⟩ := Kd.at_int (Kd.R_reads' HO_9.out).2.2 (rd t836 x21_2) p872 q872; obtain rfl : ad866 = ad872 := (by injection e872); replace p872 := eq_true p872; replace q872 := eq_true q872; refine start_ (n := 50) (S := fun w' => w'.cell? (ad865.add ((ji141)).toNat) = some (.int .i64 (rd t836 (ji141))) ∧ w'.cell? (ad866.add ((rd t836 (ji141))).toNat) = some (.int .i64 (rd t828 (rd t836 (ji141)))) ∧ w'.cell? (ad865.add (x21_2).toNat) = some (.int .i64 (rd t836 x21_2)) ∧ w'.cell? (ad866.add ((rd t836 x21_2)).toNat) = some (.int .i64 (rd t828 (rd t836 x21_2))) ∧ w'.cell? (ad865.add ((ji141)).toNat) = some (.int .i64 (rd t836 (ji141))) ∧ w'.cell? (ad866.add ((rd t836 (ji141))).toNat) = some (.int .i64 (rd t828 (rd t836 (ji141)))) ∧ w'.cell? (ad865.add (x21_2).toNat) = some (.int .i64 (rd t836 x21_2)) ∧ w'.cell? (ad866.add ((rd t836 x21_2)).toNat) = some (.int .i64 (rd t828 (rd t836 x21_2)))) (ds := []) (bT 50 0) Zm rfl rfl ⟨hx865_0, hx866_0, hx867_0, hx868_0, hx869_0, hx870_0, hx871_0, hx872_0⟩ (fun hHeld => ?_); refine with_tabW laws_FnShows.tab24 laws_FnShows.bits24 (fun HT_ HW_ => ?_)
                             generalize wc.drew = w162 at HO_5 HO_9 HO_13 HO_820000 HO_820001 HO_820002 BK819 HB hx865_0 hx866_0 hx867_0 hx868_0 hx869_0 hx870_0 hx871_0 hx872_0 hHeld ⊢; refine pureZ HT_ 0 (some 230) (bT 50 1) ?_; refine pureZ HT_ 1 (some 231) (bT 50 2) ?_; refine pureZ HT_ 2 (some 232) (bT 50 3) ?_; refine pureZ HT_ 3 (some 233) (bT 50 4) ?_; refine pureZ HT_ 4 (some 234) (bT 50 5) ?_; refine pureZ HT_ 5 (some 235) (bT 50 6) ?_; refine pureZ HT_ 6 (some 236) (bT 50 7) ?_; refine pureZ HT_ 7 (some 237) (bT 50 8) ?_; refine pureZ HT_ 11 (some 241) (bB 50 2303) ?_; refine pureZ HT_ 12 (some 242) (bB 50 6399) ?_; refine pureZ HT_ 13 (some 243) (bB 50 14591) ?_; refine pureZ HT_ 14 (some 244) (bB 50 30975) ?_; refine takeZ8 HT_ HW_ 8 (some 238) (bB 50 31231) hHeld ?_; refine pureZ HT_ 9 (some 239) (bB 50 31743) ?_; refine takeZ8 HT_ HW_ 10 (some 240) (bT 50 15) hHeld ?_; refine takeZ8 HT_ HW_ 15 (some 245) (bT 50 16) hHeld ?_; refine pureZ HT_ 16 (some 246) (bT 50 17) ?_; refine takeZ8 HT_ HW_ 17 (some 247) (bT 50 18) hHeld ?_; refine pureZ HT_ 18 (some 248) (bT 50 19) ?_; refine pureZ HT_ 19 (some 249) (bT 50 20) ?_; refine pureZ HT_ 20 (some 250) (bT 50 21) ?_; refine pureZ HT_ 21 (some 251) (bT 50 22) ?_; refine pureZ HT_ 22 (some 252) (bT 50 23) ?_; refine pureZ HT_ 23 (some 253) (bT 50 24) ?_; refine pureZ HT_ 24 (some 254) (bT 50 25) ?_; refine pureZ HT_ 28 (some 258) (bB 50 301989887) ?_; refine pureZ HT_ 29 (some 259) (bB 50 838860799) ?_; refine pureZ HT_ 30 (some 260) (bB 50 1912602623) ?_; refine pureZ HT_ 31 (some 261) (bB 50 4060086271) ?_; refine takeZ8 HT_ HW_ 25 (some 255) (bB 50 4093640703) hHeld ?_; refine pureZ HT_ 26 (some 256) (bB 50 4160749567) ?_; refine takeZ8 HT_ HW_ 27 (some 257) (bT 50 32) hHeld ?_; refine takeZ8 HT_ HW_ 32 (some 262) (bT 50 33) hHeld ?_; refine pureZ HT_ 33 (some 263) (bT 50 34) ?_; refine takeZ8 HT_ HW_ 34 (some 264) (bT 50 35) hHeld ?_; refine pureZ HT_ 35 (some 265) (bT 50 36) ?_; refine pureZ HT_ 36 (some 266) (bT 50 37) ?_; refine pureU HT_ 37 (some 267) (bT 50 38) ?_; refine pureU HT_ 38 (some 268) (bT 50 39) ?_; refine pureU HT_ 39 (some 269) (bT 50 40) ?_; refine pureU HT_ 40 (some 270) (bT 50 41) ?_; refine pureU HT_ 41 (some 271) (bT 50 42) ?_; refine pureU HT_ 42 (some 272) (bT 50 43) ?_; refine pureU HT_ 43 (some 273) (bT 50 44) ?_; refine pureU HT_ 44 (some 274) (bT 50 45) ?_; refine pureU HT_ 45 (some 275) (bT 50 46) ?_; refine pureU HT_ 46 (some 276) (bT 50 47) ?_; refine pureZ HT_ 47 (some 277) (bT 50 48) ?_; refine pureZ HT_ 48 (some 278) (bT 50 49) ?_; refine pureZ HT_ 49 (some 279) (bT 50 50) ?_; refine done_ (done_of HT_.out Zm) ?_
                             try go_wp2
                             go_roundg kj121
                             case measure => have := HJ12.out; have := HK2.out; have := HJ103.out; have := HJ112.out; have := HJ121.out; omega
                             case rel => exact ⟨(wrap64 (x21_2 + 1)), Za, H', ⟨by have := HJ12.out; have := HK2.out; have := HJ103.out; have := HJ112.out; have := HJ121.out; omega⟩, ⟨(Zr HO_5)⟩, ⟨(Zr HO_9)⟩, ⟨(Zr HO_13)⟩, ⟨(Zr HO_820000)⟩, ⟨(Zr HO_820001)⟩, ⟨(Zr HO_820002)⟩, ⟨(Zq BK819)⟩, ⟨(Zh GE819)⟩⟩
                          ·rw [if_neg c149] at H
                           exact absurd H (by simp)
                         ·rw [if_neg c148] at H
                          exact absurd H (by simp)
                        ·rw [if_neg c147] at H
                         exact absurd H (by simp)
                       ·rw [if_neg c146] at H
                        exact absurd H (by simp)
                      ·rw [if_neg c145] at H
                       exact absurd H (by simp)
                     ·rw [if_neg c144] at H
                      exact absurd H (by simp)
                    ·rw [if_neg c143] at H
                     exact absurd H (by simp)
                   ·rw [if_neg c142] at H
                    exact absurd H (by simp)
                  ·rw [if_neg c140] at H
                   have c140b0 : decide (0 < x21_2) = false := decide_eq_false c140; clear c140; have H' := am_ H; clear H
                   try go_wp2
                   replace HO_5 := am_ (Kd.R_drew HO_5.out); replace HO_9 := am_ (Kd.R_drew HO_9.out); replace HO_13 := am_ (Kd.R_drew HO_13.out); replace HO_820000 := am_ (Kd.R_drew HO_820000.out); replace HO_820001 := am_ (Kd.R_drew HO_820001.out); replace HO_820002 := am_ (Kd.R_drew HO_820002.out); replace BK819 := am_ (blk_drew BK819.out); replace HB := am_ (below_drew1 HB.out); refine start_ (n := 50) (S := fun w' => True) (ds := []) (bT 50 0) Zm rfl rfl trivial (fun hHeld => ?_); refine with_tabW laws_FnShows.tab24 laws_FnShows.bits24 (fun HT_ HW_ => ?_); generalize wc.drew = w165 at HO_5 HO_9 HO_13 HO_820000 HO_820001 HO_820002 BK819 HB hHeld ⊢; refine pureZ HT_ 0 (some 230) (bT 50 1) ?_; refine pureZ HT_ 1 (some 231) (bT 50 2) ?_; refine pureZ HT_ 2 (some 232) (bT 50 3) ?_; refine pureU HT_ 3 (some 233) (bT 50 4) ?_; refine pureU HT_ 4 (some 234) (bT 50 5) ?_; refine pureU HT_ 5 (some 235) (bT 50 6) ?_; refine pureU HT_ 6 (some 236) (bT 50 7) ?_; refine pureU HT_ 7 (some 237) (bT 50 8) ?_; refine pureU HT_ 8 (some 238) (bT 50 9) ?_; refine pureU HT_ 9 (some 239) (bT 50 10) ?_; refine pureU HT_ 10 (some 240) (bT 50 11) ?_; refine pureU HT_ 11 (some 241) (bT 50 12) ?_; refine pureU HT_ 12 (some 242) (bT 50 13) ?_; refine pureU HT_ 13 (some 243) (bT 50 14) ?_; refine pureU HT_ 14 (some 244) (bT 50 15) ?_; refine pureU HT_ 15 (some 245) (bT 50 16) ?_; refine pureU HT_ 16 (some 246) (bT 50 17) ?_; refine pureU HT_ 17 (some 247) (bT 50 18) ?_; refine pureU HT_ 18 (some 248) (bT 50 19) ?_; refine pureU HT_ 19 (some 249) (bT 50 20) ?_; refine pureU HT_ 20 (some 250) (bT 50 21) ?_; refine pureU HT_ 21 (some 251) (bT 50 22) ?_; refine pureU HT_ 22 (some 252) (bT 50 23) ?_; refine pureU HT_ 23 (some 253) (bT 50 24) ?_; refine pureU HT_ 24 (some 254) (bT 50 25) ?_; refine pureU HT_ 25 (some 255) (bT 50 26) ?_; refine pureU HT_ 26 (some 256) (bT 50 27) ?_; refine pureU HT_ 27 (some 257) (bT 50 28) ?_; refine pureU HT_ 28 (some 258) (bT 50 29) ?_; refine pureU HT_ 29 (some 259) (bT 50 30) ?_; refine pureU HT_ 30 (some 260) (bT 50 31) ?_; refine pureU HT_ 31 (some 261) (bT 50 32) ?_; refine pureU HT_ 32 (some 262) (bT 50 33) ?_; refine pureU HT_ 33 (some 263) (bT 50 34) ?_; refine pureU HT_ 34 (some 264) (bT 50 35) ?_; refine pureU HT_ 35 (some 265) (bT 50 36) ?_; refine pureU HT_ 36 (some 266) (bT 50 37) ?_; refine pureU HT_ 37 (some 267) (bT 50 38) ?_; refine pureU HT_ 38 (some 268) (bT 50 39) ?_; refine pureU HT_ 39 (some 269) (bT 50 40) ?_; refine pureU HT_ 40 (some 270) (bT 50 41) ?_; refine pureU HT_ 41 (some 271) (bT 50 42) ?_; refine pureU HT_ 42 (some 272) (bT 50 43) ?_; refine pureU HT_ 43 (some 273) (bT 50 44) ?_; refine pureU HT_ 44 (some 274) (bT 50 45) ?_; refine pureU HT_ 45 (some 275) (bT 50 46) ?_; refine pureU HT_ 46 (some 276) (bT 50 47) ?_; refine pureU HT_ 47 (some 277) (bT 50 48) ?_; refine pureU HT_ 48 (some 278) (bT 50 49) ?_; refine pureZ HT_ 49 (some 279) (bT 50 50) ?_; refine done_ (done_of HT_.out Zm) ?_
                   try go_wp2
                   go_roundg kj121
                   case measure => have := HJ12.out; have := HK2.out; have := HJ103.out; have := HJ112.out; have := HJ121.out; omega
                   case rel => exact ⟨(wrap64 (x21_2 + 1)), Za, H', ⟨by have := HJ12.out; have := HK2.out; have := HJ103.out; have := HJ112.out; have := HJ121.out; omega⟩, ⟨(Zr HO_5)⟩, ⟨(Zr HO_9)⟩, ⟨(Zr HO_13)⟩, ⟨(Zr HO_820000)⟩, ⟨(Zr HO_820001)⟩, ⟨(Zr HO_820002)⟩, ⟨(Zq BK819)⟩, ⟨(Zh GE819)⟩⟩
           ·rw [if_neg c109] at H
            exact absurd H (by simp)
          ·rw [if_neg c108] at H
           exact absurd H (by simp)
         ·replace c107 := Bool.eq_false_iff.mpr c107
          subst c107; rw [if_neg (show ¬ (false = true) by decide)] at H; have H' := am_ H; clear H
          go_wp2
          go_loopg [28] kj103 (fun kq v28 w' => ∃ (x28_4 : Int), v28 = .int .i64 x28_4 ∧ Aside0 (laws_FnShows.l1 kq t818 t820 t823 t828 x28_4 t809 t812 t815 = some r) ∧ Aside0 (kq ≤ kj103) ∧ Aside0 (Kd.R (Kd.int .i64) 2 w' w.heap.size (fun k_ => some k_ ≠ (v829 : Value).ownBlock) v821 t820) ∧ Aside0 (Kd.R (Kd.int .i64) 2 w' w.heap.size (fun k_ => some k_ ≠ (v821 : Value).ownBlock) v829 t828) ∧ Aside0 (Kd.R k104 104 w' w.heap.size (fun _ => True) (.slice Ao16 t809.length co16) t809) ∧ Aside0 (Kd.R k61 61 w' w.heap.size (fun _ => True) (.slice Ao18 t812.length co18) t812) ∧ Aside0 (Kd.R k58 58 w' w.heap.size (fun _ => True) (.slice Ao19 t815.length co19) t815) ∧ Aside0 (w'.heap[gb819]? = some (.cells #[(.slice Ao16 t809.length co16), (.slice Ao18 t812.length co18), (.slice Ao19 t815.length co19)] 35 (0, 0))) ∧ Aside0 (Below w.heap.size w w'))
          case atStart => exact ⟨(0), Za, H', ⟨Nat.le_refl _⟩, ⟨by (with_reducible repeat (first | apply Kd.R_alloc | apply Kd.R_drewN | apply Kd.R_drew)); exact Kd.R_mono HO_5.out (fun _ hk => hk.1)⟩, ⟨by (with_reducible repeat (first | apply Kd.R_alloc | apply Kd.R_drewN | apply Kd.R_drew)); exact Kd.R_mono HO_9.out (fun _ hk => hk.1)⟩, ⟨(Zr HO_820000)⟩, ⟨(Zr HO_820001)⟩, ⟨(Zr HO_820002)⟩, ⟨(Zq BK819)⟩, ⟨(Zh GE819)⟩⟩
          case round => as_aux_lemma =>
           clear H'
           try clear c1
           try clear p2
           try clear p6
           try clear c10
           try clear c14
           try clear p64
           try clear c107
           try clear c108
           try clear c109
           try clear c140
           try clear c140b0
           try clear c142
           try clear c143
           try clear c144
           try clear c145
           try clear c146
           try clear c147
           try clear c148
           try clear c149
           obtain ⟨x28_4, rfl, HA, HK4, HO_5, HO_9, HO_820000, HO_820001, HO_820002, BK819, HB⟩ := hrel
           cases gk with
           | zero => exact absurd HA.out (by simp [laws_FnShows.l1])
           | succ k4 =>
            have H := HA.out; clear HA; simp only [laws_FnShows.l1] at H; have HC166 := am_ H; clear H
            go_upto_region 27 with (fail)
            go_cut [288] (fun v288 wc => ∃ (kq : Nat) (x288_165 : Bool), v288 = .bool x288_165 ∧ Aside0 (laws_FnShows.j6 kq t818 t820 t823 t828 x28_4 x288_165 t809 t812 t815 = some r) ∧ Aside0 (kq ≤ k4) ∧ Aside0 (Kd.R (Kd.int .i64) 2 wc w.heap.size (fun k_ => some k_ ≠ (v829 : Value).ownBlock) v821 t820) ∧ Aside0 (Kd.R (Kd.int .i64) 2 wc w.heap.size (fun k_ => some k_ ≠ (v821 : Value).ownBlock) v829 t828) ∧ Aside0 (Kd.R k104 104 wc w.heap.size (fun _ => True) (.slice Ao16 t809.length co16) t809) ∧ Aside0 (Kd.R k61 61 wc w.heap.size (fun _ => True) (.slice Ao18 t812.length co18) t812) ∧ Aside0 (Kd.R k58 58 wc w.heap.size (fun _ => True) (.slice Ao19 t815.length co19) t815) ∧ Aside0 (wc.heap[gb819]? = some (.cells #[(.slice Ao16 t809.length co16), (.slice Ao18 t812.length co18), (.slice Ao19 t815.length co19)] 35 (0, 0))) ∧ Aside0 (Below w.heap.size w wc))
            case first => as_aux_lemma =>
             have H := HC166.out; clear HC166
             by_cases c167 : t823 = 0
             ·rw [if_pos c167] at H
              have c167b0 := beq_iff_eq.mpr c167; have c167b1 := bne_eq_false_iff_eq.mpr c167; clear c167
              (first | rw [c167b0] | (simp only [i64_w, i32_w]; rw [c167b0]) | skip)
              have H' := am_ H; clear H; refine ci3 BK819 ?_; intros
              go_wp2
              go_meet
              case rel => exact ⟨_, (decide (x28_4 < (t815.length : Int))), Za, H', ⟨by have := HJ12.out; have := HK2.out; have := HJ103.out; have := HK4.out; first | omega | exact Nat.le_refl _⟩, ⟨(Zr HO_5)⟩, ⟨(Zr HO_9)⟩, ⟨(Zr HO_820000)⟩, ⟨(Zr HO_820001)⟩, ⟨(Zr HO_820002)⟩, ⟨(Zq BK819)⟩, ⟨(Zh GE819)⟩⟩
             ·rw [if_neg c167] at H
              have c167b0 := beq_eq_false_iff_ne.mpr c167; have c167b1 := bne_iff_ne.mpr c167
              (first | rw [c167b0] | (simp only [i64_w, i32_w]; rw [c167b0]) | skip)
              have H' := am_ H; clear H
              go_wp2
              go_meet
              case rel => exact ⟨_, (false), Za, H', ⟨by have := HJ12.out; have := HK2.out; have := HJ103.out; have := HK4.out; first | omega | exact Nat.le_refl _⟩, ⟨(Zr HO_5)⟩, ⟨(Zr HO_9)⟩, ⟨(Zr HO_820000)⟩, ⟨(Zr HO_820001)⟩, ⟨(Zr HO_820002)⟩, ⟨(Zq BK819)⟩, ⟨(Zh GE819)⟩⟩
            case rest => as_aux_lemma =>
             clear HC166
             try clear c1
             try clear p2
             try clear p6
             try clear c10
             try clear c14
             try clear c16
             try clear p64
             try clear c107
             try clear c108
             try clear c109
             try clear c140
             try clear c140b0
             try clear c142
             try clear c143
             try clear c144
             try clear c145
             try clear c146
             try clear c147
             try clear c148
             try clear c149
             try clear c167
             try clear c167b0
             try clear c167b1
             try clear p2
             try clear p6
             try clear p64
             obtain ⟨kq, x288_165, rfl, HA, HJ165, HO_5, HO_9, HO_820000, HO_820001, HO_820002, BK819, HB⟩ := hcut
             cases kq with
             | zero => exact absurd HA.out (by simp [laws_FnShows.j6])
             | succ kj165 =>
              have H := HA.out; clear HA; simp only [laws_FnShows.j6] at H
              by_cases c169 : x288_165 = true
              ·subst c169
               rw [if_pos rfl] at H; replace H := Option.bind_eq_some_iff.mp H; obtain ⟨t875, A1700, H⟩ := H; have A170 := am_ A1700; clear A1700
               by_cases c171 : 0 ≤ x28_4
               ·rw [if_pos c171] at H
                have c171b0 := decide_eq_true c171; clear c171
                by_cases c172 : x28_4 < (t828.length : Int)
                ·rw [if_pos c172] at H
                 have c172b0 := decide_eq_true c172; clear c172
                 by_cases c173 : (t875 != ((rd t828 x28_4) == t818)) = true
                 ·rw [if_pos c173] at H
                  have c173b0 : (t875 != ((rd t828 x28_4) == t818)) = true := c173
                  (try (have c173b1 : decide (t875 = ((rd t828 x28_4) == t818)) = false := by simpa using c173))
                  (try (have c173b2 : (t875 == ((rd t828 x28_4) == t818)) = false := by simpa using c173))
                  (try (have c173b3 : ¬ (t875 = ((rd t828 x28_4) == t818)) := by simpa using c173))
                  clear c173; exact absurd ((Option.some.inj H).trans HR_.out) (by decide)
                 ·rw [if_neg c173] at H
                  have c173b0 : (t875 != ((rd t828 x28_4) == t818)) = false := by simpa using c173
                  (try (have c173b1 : decide (t875 = ((rd t828 x28_4) == t818)) = true := by simpa using c173))
                  (try (have c173b2 : (t875 == ((rd t828 x28_4) == t818)) = true := by simpa using c173))
                  clear c173; have H' := am_ H; clear H
                  try go_wp2
                  replace HO_5 := am_ (Kd.R_drew HO_5.out); replace HO_9 := am_ (Kd.R_drew HO_9.out); replace HO_820000 := am_ (Kd.R_drew HO_820000.out); replace HO_820001 := am_ (Kd.R_drew HO_820001.out); replace HO_820002 := am_ (Kd.R_drew HO_820002.out); replace BK819 := am_ (blk_drew BK819.out); replace HB := am_ (below_drew1 HB.out); obtain ⟨Ao178, co178, eo178⟩ := Kd.R_slice HO_9.out
                  (first | subst eo178 | (injection eo178 with f1_ f2_ f3_; have f4_ := f1_.symm; have f5_ := f3_.symm; clear f1_ f2_ f3_; subst f4_; subst f5_))
                  have p876 : 0 ≤ (x28_4 : Int) := of_decide_eq_true Zc; have q876 : x28_4 < (t828.length : Int) := of_decide_eq_true Zc; obtain ⟨ad876, e876, hx876_0⟩ := Kd.at_int (Kd.R_reads' HO_9.out).2.2 x28_4 p876 q876
                  cases e876
                  replace p876 := eq_true p876; replace q876 := eq_true q876; obtain ⟨Ao179, co179, eo179⟩ := Kd.R_slice HO_5.out
                  (first | subst eo179 | (injection eo179 with f1_ f2_ f3_; have f4_ := f1_.symm; have f5_ := f3_.symm; clear f1_ f2_ f3_; subst f4_; subst f5_))
                  refine start_ (n := 10) (S := fun w' => w'.cell? (ad876.add (x28_4).toNat) = some (.int .i64 (rd t828 x28_4))) (ds := []) (bT 10 0) Zm rfl rfl (hx876_0) (fun hHeld => ?_); refine with_tabW laws_FnShows.tab29 laws_FnShows.bits29 (fun HT_ HW_ => ?_); generalize wc.drew = w177 at HO_5 HO_9 HO_820000 HO_820001 HO_820002 BK819 HB hx876_0 hHeld ⊢; refine pureZ HT_ 0 (some 291) (bT 10 1) ?_; refine pureZ HT_ 1 (some 292) (bT 10 2) ?_; refine pureZ HT_ 3 (some 294) (bB 10 11) ?_; refine pureZ HT_ 4 (some 295) (bB 10 27) ?_; refine pureZ HT_ 5 (some 296) (bB 10 59) ?_; refine pureZ HT_ 7 (some 298) (bB 10 187) ?_; refine take_ (i := 6) (N := some 297) (v := ?_) (a' := ?_) (bB 10 251) rfl rfl (take_ofW HT_.out HW_.out Zm) (fun _ _ _ h => h) (Or.inl ⟨by rfl, ?_⟩) hHeld ?_ ?_; rotate_left
                  ·intro w' s0
                   go_simp
                   with_reducible rfl
                  rotate_left
                  ·exact Zput
                  refine pureZ HT_ 8 (some 299) (bB 10 507) ?_; refine one_ (i := 2) (N := some 293) (bT 10 9) rfl rfl (one_of HT_.out Zm) (by decide) (fun K hK => ?_); refine goes_ Try.func34 Zm rfl #[.slice Ao179 t820.length co179, .int .i64 x28_4] (by rfl) rfl rfl Zn ?_
                  with_reducible refine (laws_hasInt.calls kj165 _ _ t820 x28_4 t875 _ ?side1 ?side2 A170.out).mono ?_
                  (case side1 => exact (Zaa HO_5))
                  (case side2 => exact (Kd.R_reads' HO_5.out).2.1)
                  rintro e w' ⟨rfl, ⟨nd, rfl⟩⟩; refine ⟨_, rfl, ?_⟩; refine hK.out _ _ (hHeld) (fun hHeld => ?_); clear hK K; refine normZ 293 ?_; refine pureZ HT_ 9 (some 300) (bT 10 10) ?_; refine done_ (done_of HT_.out Zm) ?_
                  try go_wp2
                  go_roundg kj165
                  case measure => have := HJ12.out; have := HK2.out; have := HJ103.out; have := HK4.out; have := HJ165.out; omega
                  case rel => exact ⟨(wrap64 (x28_4 + 1)), Za, H', ⟨by have := HJ12.out; have := HK2.out; have := HJ103.out; have := HK4.out; have := HJ165.out; omega⟩, ⟨(Zr HO_5)⟩, ⟨(Zr HO_9)⟩, ⟨(Zr HO_820000)⟩, ⟨(Zr HO_820001)⟩, ⟨(Zr HO_820002)⟩, ⟨(Zq BK819)⟩, ⟨(Zh GE819)⟩⟩
                ·rw [if_neg c172] at H
                 exact absurd H (by simp)
               ·rw [if_neg c171] at H
                exact absurd H (by simp)
              ·replace c169 := Bool.eq_false_iff.mpr c169
               subst c169; rw [if_neg (show ¬ (false = true) by decide)] at H; obtain rfl := Option.some.inj H
               go_wp2
               go_ret
               exact ⟨Zl, (Zh GE819)⟩
def laws_FnShows.Pure : Prop := ∀ (l0 : List Int), l0.length ≤ maxLen → l0.length * 1 ≤ 140737488351232 → (∀ x ∈ l0, (Lit.int .u8 x).wf = true) → ∃ k, laws_FnShows.f k l0 = some true
theorem laws_FnShows.walk (P : laws_FnShows.Pure) (a0 : Option Addr) (len0 cap0 : Nat) (z0 : List Int) (w : World) (w0 : (a0 = none ∧ len0 = 0 ∧ cap0 = 0 ∧ z0 = []) ∨ ∃ x, a0 = some x ∧ len0 ≤ cap0 ∧ cap0 ≤ maxLen ∧ z0.length = cap0 ∧ (∀ i, i < z0.length → w.cell? (x.add i) = some (.int .u8 (z0.getD i 0))) ∧ ∀ n ∈ z0, (Lit.int .u8 n).wf = true) (y0 : len0 * 1 ≤ 140737488351232) :
  Calls Try.prog 5 #[.slice a0 len0 cap0] w fun e w' => e = .returned (.bool true) ∧ Below w.heap.size w w' := by
 obtain ⟨l0, rfl, hr0, hm0, hw0, hc0⟩ := ReadsInt.ofRowC w0; obtain ⟨k, h⟩ := P l0 hm0 y0 hw0; refine (laws_FnShows.calls k _ _ l0 true w (Kd.C_of_reads (d := (0 : Int)) (h1 := fun _ => rfl) hr0) hc0 h rfl).mono ?_; rintro e w' ⟨rfl, hd⟩; exact ⟨rfl, hd⟩
end Go.Proofs.Ytmnnbmdfepogiaa.F
namespace Go.Proofs.Ytmnnbmdfepogiaa.F
open Go.RowKit Go.Proofs.YtmnnbmdfepogiaaW.PrintWords Go.Proofs.YtmnnbmdfepogiaaW.PrintLast Go.Proofs.YtmnnbmdfepogiaaW.PrintMore
set_option linter.unusedVariables false
set_option linter.unusedSimpArgs false
open Go.ChangeShapes
section
variable {α : Type} {d : Kd α} {t : Nat} {w w0 w1 : World} {base lo hi : Nat} {v : Value} {xs : List α}
end
section
variable {α : Type} {d : Kd α} {t : Nat} {w w0 w1 : World} {base lo hi : Nat} {v : Value} {xs : List α}
end
section
variable {α β γ : Type} {d : Kd α} {d1 : Kd β} {d2 : Kd γ} {t t1 t2 : Nat} {w w0 w1 : World} {base lo hi : Nat} {v v1 v2 : Value} {xs : List α} {ys : List β} {zs : List γ}
end
end Go.Proofs.Ytmnnbmdfepogiaa.F
namespace Go.Proofs.Ytmnnbmdfepogiaa.F
open Go.RowKit Go.Proofs.YtmnnbmdfepogiaaW.PrintWords Go.Proofs.YtmnnbmdfepogiaaW.PrintLast Go.Proofs.YtmnnbmdfepogiaaW.PrintMore
attribute [local go_sem] max2_int min2_int max_two min_two max_three min_three max_four min_four
set_option linter.unusedVariables false
set_option linter.unusedSimpArgs false
end Go.Proofs.Ytmnnbmdfepogiaa.F
namespace Go.Proofs.Ytmnnbmdfepogiaa.F
open Go.RowKit Go.Proofs.YtmnnbmdfepogiaaW.PrintWords Go.Proofs.YtmnnbmdfepogiaaW.PrintLast Go.Proofs.YtmnnbmdfepogiaaW.PrintMore
set_option linter.unusedVariables false
set_option linter.unusedSimpArgs false
def Evt (P : Nat → Prop) : Prop := ∃ K, ∀ k, K ≤ k → P k
theorem Evt.mono {P Q : Nat → Prop} (h : Evt P) (hq : ∀ k, P k → Q k) : Evt Q := by
 obtain ⟨K, h⟩ := h; exact ⟨K, fun k hk => hq k (h k hk)⟩
theorem Evt.succ {P : Nat → Prop} (h : Evt (fun k => P (k + 1))) : Evt P := by
 obtain ⟨K, h⟩ := h; refine ⟨K + 1, fun k hk => ?_⟩; obtain ⟨m, rfl⟩ : ∃ m, k = m + 1 := ⟨k - 1, by omega⟩; exact h m (by omega)
theorem w64 {n : Int} (h : -9223372036854775808 ≤ n ∧ n ≤ 9223372036854775807) : wrap64 n = n := by unfold wrap64; omega
def allF (p : Nat → Bool) : Nat → Nat → Bool
 | _, 0 => true
 | i, d + 1 => p i && allF p (i + 1) d
theorem allF_true {p : Nat → Bool} : ∀ (d i : Nat), allF p i d = true ↔ ∀ j, i ≤ j → j < i + d → p j = true
 | 0, i => by simp [allF]; intro j h1 h2; omega
 | d + 1, i => by
  unfold allF
  rw [Bool.and_eq_true, allF_true d (i + 1)]; constructor
  ·rintro ⟨h1, h2⟩ j h3 h4
   rcases Nat.eq_or_lt_of_le h3 with e | e
   ·exact e ▸ h1
   ·exact h2 j e (by omega)
  ·exact fun h => ⟨h i (Nat.le_refl _) (by omega), fun j h1 h2 => h j (by omega) (by omega)⟩
theorem all_loopF {f : Nat → Nat → Option Bool} {p : Nat → Bool} {e : Bool} (a n : Nat) (hs : ∀ k i, a ≤ i → i < n → f (k + 1) i = if p i = true then f k (i + 1) else some false) (he : ∀ k, f (k + 1) n = some e) :
  ∀ d k i, a ≤ i → n - i = d → i ≤ n → d < k → f k i = some (allF p i d && e) := by
 intro d
 induction d with
 | zero =>
  intro k i ha hd hi hk; obtain ⟨k, rfl⟩ : ∃ m, k = m + 1 := ⟨k - 1, by omega⟩
  have : i = n := by omega
  subst this; rw [he]
  rfl
 | succ d ih =>
  intro k i ha hd hi hk; obtain ⟨k, rfl⟩ : ∃ m, k = m + 1 := ⟨k - 1, by omega⟩; rw [hs k i ha (by omega)]
  unfold allF
  by_cases hp : p i = true
  ·rw [if_pos hp, ih k (i + 1) (by omega) (by omega) (by omega) (by omega), hp, Bool.true_and]
  ·rw [if_neg hp]
   replace hp := Bool.eq_false_iff.mpr hp; rw [hp, Bool.false_and, Bool.false_and]
theorem all_loop {f : Nat → Nat → Option Bool} {p : Nat → Bool} {e : Bool} (n : Nat) (hs : ∀ k i, i < n → f (k + 1) i = if p i = true then f k (i + 1) else some false) (he : ∀ k, f (k + 1) n = some e) :
  ∀ d k i, n - i = d → i ≤ n → d < k → f k i = some (allF p i d && e) := fun d k i => all_loopF 0 n (fun k i _ h => hs k i h) he d k i (Nat.zero_le _)
def foldF {σ : Type} (step : Nat → σ → σ) : Nat → Nat → σ → σ
 | _, 0, s => s
 | i, d + 1, s => foldF step (i + 1) d (step i s)
theorem foldF_snoc {σ : Type} (f : Nat → σ → σ) : ∀ (d i : Nat) (s : σ), foldF f i (d + 1) s = f (i + d) (foldF f i d s)
 | 0, i, s => rfl
 | d + 1, i, s => by
  have h := foldF_snoc f d (i + 1) (f i s); rw [show i + 1 + d = i + (d + 1) by omega] at h; exact h
theorem fold_loop {σ β : Type} {f : Nat → Nat → σ → Option β} {step : Nat → σ → σ} {I : Nat → σ → Prop} {e : σ → Option β} (n : Nat) (hs : ∀ k i s, i < n → I i s → f (k + 1) i s = f k (i + 1) (step i s)) (hI : ∀ i s, i < n → I i s → I (i + 1) (step i s)) (he : ∀ k s, I n s → f (k + 1) n s = e s) :
  ∀ d k i s, n - i = d → i ≤ n → I i s → d < k → f k i s = e (foldF step i d s) := by
 intro d
 induction d with
 | zero =>
  intro k i s hd hi h0 hk; obtain ⟨k, rfl⟩ : ∃ m, k = m + 1 := ⟨k - 1, by omega⟩
  have : i = n := by omega
  subst this; exact he k s h0
 | succ d ih =>
  intro k i s hd hi h0 hk; obtain ⟨k, rfl⟩ : ∃ m, k = m + 1 := ⟨k - 1, by omega⟩; rw [hs k i s (by omega) h0]; exact ih k (i + 1) _ (by omega) (by omega) (hI i s (by omega) h0) (by omega)
def inB (n lo hi : Int) : Bool := decide (lo ≤ n ∧ n ≤ hi)
theorem inB_true {n lo hi : Int} : inB n lo hi = true ↔ lo ≤ n ∧ n ≤ hi := by unfold inB; exact decide_eq_true_iff
theorem inB_false {n lo hi : Int} : inB n lo hi = false ↔ ¬ (lo ≤ n ∧ n ≤ hi) := by unfold inB; exact decide_eq_false_iff_not
theorem getD_take {α : Type} (xs : List α) (z : α) (n i : Nat) (h : i < n) : (xs.take n).getD i z = xs.getD i z := by
 rw [List.getD_eq_getElem?_getD, List.getD_eq_getElem?_getD, List.getElem?_take, if_pos h]
def Code (c : List Int) : Prop := c.length ≤ 4096 ∧ ∀ x ∈ c, 0 ≤ x ∧ x ≤ 255
def St (c : List Int) (a s : Int) : Prop := 0 ≤ a ∧ a ≤ (c.length : Int) ∧ 0 ≤ s ∧ s < 2147483647
theorem rd_code {c : List Int} (hc : Code c) (i : Int) : 0 ≤ rd c i ∧ rd c i ≤ 255 := by
 unfold rd
 rw [List.getD_eq_getElem?_getD]
 cases h : c[i.toNat]? with
 | none => exact ⟨Int.le_refl _, by decide⟩
 | some x => exact hc.2 x (List.mem_of_getElem? h)
theorem tmod_nn {a b : Int} (ha : 0 ≤ a) (hb : 0 < b) : 0 ≤ Int.tmod a b ∧ Int.tmod a b < b := by
 rw [Int.tmod_eq_emod_of_nonneg ha]; exact ⟨Int.emod_nonneg _ (by omega), Int.emod_lt_of_pos _ hb⟩
theorem next_ok {c : List Int} (hc : Code c) {a s : Int} (h : St c a s) (n : Int) (hn : n ≤ 4611686018427387904) : ∃ r a' s', spec_l01Next.f c a s n = some (r, a', s') ∧ St c a' s' ∧ 0 ≤ r ∧ (r < n ∨ (n ≤ 1 ∧ r = 0)) := by
 obtain ⟨h1, h2, h3, h4⟩ := h; have hl := hc.1
 unfold spec_l01Next.f
 by_cases c1 : n ≤ 1
 ·rw [if_pos c1]
  exact ⟨0, a, s, rfl, ⟨h1, h2, h3, h4⟩, Int.le_refl _, .inr ⟨c1, rfl⟩⟩
 ·have hs := tmod_nn (a := s * 48271 + 29) (b := 2147483647) (by omega) (by omega)
  rw [if_neg c1, w64 (n := s * 48271) (by omega), w64 (n := s * 48271 + 29) (by omega)]; generalize Int.tmod (s * 48271 + 29) 2147483647 = z at hs ⊢; have hd : Int.tdiv z 31 = z / 31 := Int.tdiv_eq_ediv_of_nonneg hs.1; rw [hd]
  have n0 : ¬ n = 0 := by omega
  by_cases c2 : a < (c.length : Int)
  ·have hr := rd_code hc a
   have p := tmod_nn (a := z / 31 + rd c a) (b := n) (by omega) (by omega); have q := tmod_nn (a := rd c a) (b := n) (by omega) (by omega); simp only [if_neg n0]; rw [if_pos c2, if_pos h1, w64 (n := a + 1) (by omega), w64 (n := z / 31) (by omega), w64 (n := rd c a) (by omega), w64 (n := z / 31 + rd c a) (by omega), w64 (n := a + 1 - 1) (by omega), show a + 1 - 1 = a by omega, w64 (n := rd c a) (by omega)]
   by_cases c3 : n ≤ 256
   ·rw [if_pos c3]
    by_cases c4 : Int.tmod (a + 1) 2 = 0
    ·rw [if_pos c4, if_pos h1, if_pos c2]
     exact ⟨_, _, _, rfl, ⟨by omega, by omega, hs.1, hs.2⟩, q.1, .inl q.2⟩
    ·rw [if_neg c4]
     exact ⟨_, _, _, rfl, ⟨by omega, by omega, hs.1, hs.2⟩, p.1, .inl p.2⟩
   ·rw [if_neg c3]
    exact ⟨_, _, _, rfl, ⟨by omega, by omega, hs.1, hs.2⟩, p.1, .inl p.2⟩
  ·have p := tmod_nn (a := z / 31) (b := n) (by omega) (by omega)
   simp only [if_neg n0]; rw [if_neg c2, w64 (n := z / 31) (by omega)]; exact ⟨_, _, _, rfl, ⟨h1, h2, hs.1, hs.2⟩, p.1, .inl p.2⟩
theorem pick_ok {c : List Int} (hc : Code c) {a s : Int} (h : St c a s) (l : List Int) (hl : 0 < l.length) (hl2 : l.length ≤ 1000) : ∃ r a' s', spec_l01Pick.f c a s l = some (r, a', s') ∧ St c a' s' ∧ r ∈ l := by
 obtain ⟨r, a', s', e, h', h0, h1⟩ := next_ok hc h (l.length : Int) (by omega); refine ⟨rd l r, a', s', ?_, h', ?_⟩
 ·unfold spec_l01Pick.f
  rw [e]; simp only [Option.bind_some]; rw [if_pos h0, if_pos (by omega)]
 ·have hr : r.toNat < l.length := by omega
  unfold rd
  rw [List.getD_eq_getElem?_getD, List.getElem?_eq_getElem hr]; exact List.getElem_mem hr
theorem from_ok {c : List Int} (hc : Code c) : ∃ s, (∀ k, 70 ≤ k → spec_l01From.f k c = some (c, 0, s)) ∧ St c 0 s := by
 have loop : ∀ (d : Nat) (i s : Int), 0 ≤ i → i ≤ 64 → 64 - i ≤ d → 0 ≤ s → s < 2147483647 → ∃ s', (∀ k, d < k → spec_l01From.l0 k c i c 0 s = some (c, 0, s')) ∧ St c 0 s' := by
  intro d
  induction d with
  | zero =>
   intro i s h1 h2 h3 h4 h5; refine ⟨s, fun k hk => ?_, by omega, by omega, h4, h5⟩; obtain ⟨k, rfl⟩ : ∃ m, k = m + 1 := ⟨k - 1, by omega⟩; simp only [spec_l01From.l0]; rw [if_neg (show ¬ i < 64 by omega)]
   split <;> rfl
  | succ d ih =>
   intro i s h1 h2 h3 h4 h5
   by_cases c1 : i < (c.length : Int) ∧ i < 64
   ·have hr := rd_code hc i
    have hm := tmod_nn (a := s * 83 + rd c i) (b := 2147483647) (by omega) (by omega); obtain ⟨s', e, hs⟩ := ih (i + 1) (Int.tmod (s * 83 + rd c i) 2147483647) (by omega) (by omega) (by omega) hm.1 hm.2; refine ⟨s', fun k hk => ?_, hs⟩; obtain ⟨k, rfl⟩ : ∃ m, k = m + 1 := ⟨k - 1, by omega⟩; simp only [spec_l01From.l0]; rw [if_pos c1.1, if_pos c1.2, if_pos h1, w64 (n := i + 1) (by omega), w64 (n := s * 83) (by omega), w64 (n := rd c i) (by omega), w64 (n := s * 83 + rd c i) (by omega)]; exact e k (by omega)
   ·refine ⟨s, fun k hk => ?_, by omega, by omega, h4, h5⟩
    obtain ⟨k, rfl⟩ : ∃ m, k = m + 1 := ⟨k - 1, by omega⟩; simp only [spec_l01From.l0]
    by_cases c2 : i < (c.length : Int)
    ·rw [if_pos c2, if_neg (fun x => c1 ⟨c2, x⟩)]
    ·rw [if_neg c2]
 obtain ⟨s', e, hs⟩ := loop 64 0 61043 (by omega) (by omega) (by omega) (by omega) (by omega); exact ⟨s', fun k hk => e k (by omega), hs⟩
theorem code_of {l : List Int} (h : ¬ (l.length : Int) > 4096) (hb : ∀ x ∈ l, (Go.Lit.int .u8 x).wf = true) : Code l := ⟨by omega, fun x hx => by
 have h := hb x hx
 simp [Go.Lit.wf, Go.IntKind.min, Go.IntKind.max, Go.IntKind.signed, Go.IntKind.bits] at h
 omega⟩
theorem good_art {c : List Int} (hc : Code c) {a s : Int} (h : St c a s) (nm : ByteArray) : ∃ q2 q3 q4 q5 q6 q7 q8 q9 a' s', spec_l03Good.f c a s nm = some (nm, q2, q3, q4, q5, q6, q7, q8, q9, a', s') ∧ St c a' s' := by
 obtain ⟨r1, a1, s1, e1, h1, _⟩ := next_ok hc h 4 (by decide); obtain ⟨r2, a2, s2, e2, h2, _⟩ := next_ok hc h1 281 (by decide); obtain ⟨r3, a3, s3, e3, h3, _⟩ := pick_ok hc h2 [50, 75, 100, 150, wrap64 (20 + r2)] (by simp) (by simp); obtain ⟨r4, a4, s4, e4, h4, _⟩ := next_ok hc h3 5000 (by decide); obtain ⟨r5, a5, s5, e5, h5, _⟩ := next_ok hc h4 300 (by decide); obtain ⟨r6, a6, s6, e6, h6, _⟩ := next_ok hc h5 2000 (by decide); obtain ⟨r7, a7, s7, e7, h7, _⟩ := next_ok hc h6 4 (by decide); obtain ⟨r8, a8, s8, e8, h8, _⟩ := next_ok hc h7 8 (by decide); obtain ⟨r9, a9, s9, e9, h9, _⟩ := next_ok hc h8 2000 (by decide)
 unfold spec_l03Good.f
 rw [e1, Option.bind_some]; dsimp only; rw [e2, Option.bind_some]; dsimp only; rw [e3, Option.bind_some]; dsimp only; rw [e4, Option.bind_some]; dsimp only; rw [e5, Option.bind_some]; dsimp only; rw [e6, Option.bind_some]; dsimp only; rw [e7, Option.bind_some]; dsimp only
 by_cases g : r1 = 1
 ·rw [if_pos g, e8, Option.bind_some]; dsimp only
  rw [e9, Option.bind_some]; dsimp only
  by_cases g2 : r1 = 2
  ·rw [if_pos g2]; exact ⟨_, _, _, _, _, _, _, _, _, _, rfl, h9⟩
  ·rw [if_neg g2]; exact ⟨_, _, _, _, _, _, _, _, _, _, rfl, h9⟩
 ·rw [if_neg g]
  by_cases g2 : r1 = 2
  ·rw [if_pos g2]; exact ⟨_, _, _, _, _, _, _, _, _, _, rfl, h7⟩
  ·rw [if_neg g2]; exact ⟨_, _, _, _, _, _, _, _, _, _, rfl, h7⟩
theorem In_eq (n lo hi : Int) : spec_l01In.f n lo hi = some (inB n lo hi) := by
 unfold spec_l01In.f inB
 by_cases h : n ≥ lo
 ·rw [if_pos h]; congr 1; simp; omega
 ·rw [if_neg h]; congr 1; simp; omega
theorem Wi_eq (n lo hi : Int) : impl_within.f n lo hi = some (inB n lo hi) := by
 unfold impl_within.f inB
 by_cases h : lo ≤ n
 ·rw [if_pos h]; congr 1; simp; omega
 ·rw [if_neg h]; congr 1; simp; omega
theorem rd_nat (xs : List Int) (i : Nat) : rd xs (i : Int) = xs.getD i 0 := by unfold rd; rw [Int.toNat_natCast]
def bt_at (xs : List S104) (i : Nat) : Int := (xs.getD i z104).f0
def ln_at (xs : List S104) (i : Nat) : Int := (xs.getD i z104).f1
def barAt (xs : List S104) (i : Nat) : Bool := inB (bt_at xs i) 1 16 && inB (ln_at xs i) 100 5000
def isScore (xs : List S104) : Bool := allF (barAt xs) 0 xs.length && inB (xs.length : Int) 1 20
theorem rd_bar (xs : List S104) (i : Nat) : rd_T104 xs (i : Int) = xs.getD i z104 := by unfold rd_T104; rw [Int.toNat_natCast]
theorem spec_score (xs : List S104) (hx : xs.length ≤ 9223372036854775807) (k : Nat) (hk : xs.length < k) : spec_IsScore.f k xs = some (isScore xs) := by
 refine all_loop (f := fun k i => spec_IsScore.l0 k xs (i : Int)) xs.length (fun k i hi => ?_) (fun k => ?_) xs.length k 0 (by omega) (by omega) (by omega)
 ·show spec_IsScore.l0 (k + 1) xs i = _
  simp only [spec_IsScore.l0, In_eq, Option.bind_some]; rw [if_pos (by omega), if_pos (by omega), w64 (by omega), rd_bar]
  unfold barAt bt_at ln_at
  cases inB (xs.getD i z104).f0 1 16 <;> cases inB (xs.getD i z104).f1 100 5000 <;> rfl
 ·show spec_IsScore.l0 (k + 1) xs _ = _
  simp only [spec_IsScore.l0, In_eq, Option.bind_some]; rw [if_neg (by omega)]
theorem impl_score (xs : List S104) (hx : xs.length ≤ 9223372036854775807) (k : Nat) (hk : xs.length + 1 < k) : impl_IsScore.f k xs = some (isScore xs) := by
 obtain ⟨k, rfl⟩ : ∃ m, k = m + 1 := ⟨k - 1, by omega⟩
 unfold impl_IsScore.f isScore
 simp only [impl_IsScore.j0]
 by_cases h1 : (xs.length : Int) < 1
 ·rw [if_pos h1, if_pos trivial, inB_false.2 (by omega), Bool.and_false]
 ·rw [if_neg h1]
  by_cases h2 : (xs.length : Int) > 20
  ·rw [if_pos (decide_eq_true h2), inB_false.2 (by omega), Bool.and_false]
  ·rw [if_neg (by simpa using h2), inB_true.2 (by omega)]
   refine all_loop (f := fun k i => impl_IsScore.l0 k xs (xs.length : Int) (i : Int)) xs.length (fun k i hi => ?_) (fun k => ?_) xs.length k 0 (by omega) (by omega) (by omega)
   ·show impl_IsScore.l0 (k + 1) xs (xs.length : Int) i = _
    simp only [impl_IsScore.l0, Wi_eq, Option.bind_some]; rw [if_pos (by omega), if_pos (by omega), if_pos (by omega), w64 (by omega), rd_bar]
    unfold barAt bt_at ln_at
    cases inB (xs.getD i z104).f0 1 16 <;> cases inB (xs.getD i z104).f1 100 5000 <;> rfl
   ·show impl_IsScore.l0 (k + 1) xs (xs.length : Int) _ = _
    simp only [impl_IsScore.l0]; rw [if_neg (by omega)]
theorem isScore_true {xs : List S104} (h : isScore xs = true) : 1 ≤ xs.length ∧ xs.length ≤ 20 ∧ ∀ i, i < xs.length → 1 ≤ bt_at xs i ∧ bt_at xs i ≤ 16 ∧ 100 ≤ ln_at xs i ∧ ln_at xs i ≤ 5000 := by
 unfold isScore at h
 rw [Bool.and_eq_true, allF_true, inB_true] at h; refine ⟨by omega, by omega, fun i hi => ?_⟩; have := h.1 i (by omega) (by omega)
 unfold barAt at this
 rw [Bool.and_eq_true, inB_true, inB_true] at this
 omega
def tm (xs : List S104) (i : Nat) : Int := foldF (fun j s => s + bt_at xs j * ln_at xs j) 0 i 0
theorem tm_succ (xs : List S104) (i : Nat) : tm xs (i + 1) = tm xs i + bt_at xs i * ln_at xs i := by
 unfold tm
 rw [foldF_snoc, Nat.zero_add]
theorem prod_le {a b : Int} (h : 1 ≤ a ∧ a ≤ 16 ∧ 100 ≤ b ∧ b ≤ 5000) : 100 ≤ a * b ∧ a * b ≤ 80000 := by
 have h1 : 1 * b ≤ a * b := Int.mul_le_mul_of_nonneg_right h.1 (by omega); have h2 : a * b ≤ 16 * b := Int.mul_le_mul_of_nonneg_right h.2.1 (by omega)
 omega
theorem tm_le {xs : List S104} (h : isScore xs = true) : ∀ i, i ≤ xs.length → 0 ≤ tm xs i ∧ tm xs i ≤ 80000 * i
 | 0, _ => by unfold tm foldF; omega
 | i + 1, hi => by
  have h1 := tm_le h i (by omega); have h2 := prod_le ((isScore_true h).2.2 i (by omega)); rw [tm_succ]
  omega
def GoodBars (xs : List S104) : Prop := ∀ x ∈ xs, (2 ≤ x.f0 ∧ x.f0 ≤ 5) ∧ 400 ≤ x.f1 ∧ x.f1 ≤ 999
theorem score_good {c : List Int} (hc : Code c) {a s : Int} (h : St c a s) : ∃ xs a' s', (∀ k, 20 ≤ k → spec_l07Good.f k c a s = some (xs, a', s')) ∧ St c a' s' ∧ 1 ≤ xs.length ∧ xs.length ≤ 6 ∧ GoodBars xs := by
 have loop : ∀ (d : Nat) (n : Int) (xs : List S104) (a s : Int), n = d → GoodBars xs → xs.length + d ≤ 6 → St c a s → ∃ r a' s', (∀ k, d < k → spec_l07Good.l0 k xs n c a s = some (r, a', s')) ∧ St c a' s' ∧ r.length = xs.length + d ∧ GoodBars r := by
  intro d
  induction d with
  | zero =>
   intro n xs a s hn hg hl h; refine ⟨xs, a, s, fun k hk => ?_, h, rfl, hg⟩; obtain ⟨k, rfl⟩ : ∃ m, k = m + 1 := ⟨k - 1, by omega⟩; simp only [spec_l07Good.l0]; rw [if_neg (by omega)]
  | succ d ih =>
   intro n xs a s hn hg hl h; obtain ⟨r1, a1, s1, e1, h1, b1, c1⟩ := next_ok hc h 4 (by omega); obtain ⟨r2, a2, s2, e2, h2, b2, c2⟩ := next_ok hc h1 600 (by omega)
   obtain ⟨r, a', s', e, h', hr, hg'⟩ := ih (n - 1) (xs ++ [(⟨2 + r1, 400 + r2⟩ : S104)]) a2 s2 (by omega) (by
    intro x hx
    rcases List.mem_append.1 hx with y | y
    ·exact hg x y
    ·rw [List.mem_singleton.1 y]
     exact ⟨by show 2 ≤ 2 + r1 ∧ 2 + r1 ≤ 5; omega, by show 400 ≤ 400 + r2 ∧ 400 + r2 ≤ 999; omega⟩) (by rw [List.length_append]; show xs.length + 1 + d ≤ 6; omega) h2
   refine ⟨r, a', s', fun k hk => ?_, h', by rw [hr, List.length_append]; show xs.length + 1 + d = _; omega, hg'⟩; obtain ⟨k, rfl⟩ : ∃ m, k = m + 1 := ⟨k - 1, by omega⟩; simp only [spec_l07Good.l0]; rw [if_pos (by omega)]; simp only [e1, e2, Option.bind_some]; rw [if_pos (by omega), w64 (n := 2 + r1) (by omega), w64 (n := 400 + r2) (by omega), w64 (n := n - 1) (by omega)]; exact e k (by omega)
 obtain ⟨r1, a1, s1, e1, h1, b1, c1⟩ := next_ok hc h 6 (by omega); obtain ⟨r, a', s', e, h', hr, hg⟩ := loop (1 + r1).toNat (1 + r1) [] a1 s1 (by omega) (fun x hx => absurd hx (by simp)) (by show 0 + _ ≤ 6; omega) h1
 have hr' : r.length = (1 + r1).toNat := by rw [hr]; show 0 + _ = _; omega
 refine ⟨r, a', s', fun k hk => ?_, h', by omega, by omega, hg⟩
 unfold spec_l07Good.f
 rw [e1]; simp only [Option.bind_some]; rw [w64 (n := 1 + r1) (by omega)]; exact e k (by omega)
theorem score_draw {c : List Int} (hc : Code c) {a s : Int} (h : St c a s) : ∃ xs a' s', (∀ k, 60 ≤ k → spec_l07Draw.f k c a s = some (xs, a', s')) ∧ St c a' s' ∧ xs.length ≤ 30 := by
 have loop : ∀ (d : Nat) (xs : List S104) (a s : Int), 21 - xs.length = d → xs.length ≤ 30 → St c a s → ∃ r a' s', (∀ k, d < k → spec_l07Draw.l0 k xs c a s = some (r, a', s')) ∧ St c a' s' ∧ r.length ≤ 30 := by
  intro d
  induction d with
  | zero =>
   intro xs a s hd hx h; obtain ⟨r1, a1, s1, e1, h1, b1, b2⟩ := next_ok hc h 2 (by omega); refine ⟨xs, a1, s1, fun k hk => ?_, h1, hx⟩; obtain ⟨k, rfl⟩ : ∃ m, k = m + 1 := ⟨k - 1, by omega⟩; simp only [spec_l07Draw.l0, e1, Option.bind_some]; rw [w64 (n := 20 + r1) (by omega), if_neg (by omega)]
  | succ d ih =>
   intro xs a s hd hx h; obtain ⟨r1, a1, s1, e1, h1, b1, b2⟩ := next_ok hc h 2 (by omega)
   by_cases c1 : (xs.length : Int) < 20 + r1
   ·obtain ⟨r, a', s', e, h', hl⟩ := ih (xs ++ [(⟨4, 500⟩ : S104)]) a1 s1 (by rw [List.length_append]; show 21 - (xs.length + 1) = d; omega) (by rw [List.length_append]; show xs.length + 1 ≤ 30; omega) h1
    refine ⟨r, a', s', fun k hk => ?_, h', hl⟩; obtain ⟨k, rfl⟩ : ∃ m, k = m + 1 := ⟨k - 1, by omega⟩; simp only [spec_l07Draw.l0, e1, Option.bind_some]; rw [w64 (n := 20 + r1) (by omega), if_pos c1, if_pos (by omega)]; exact e k (by omega)
   ·refine ⟨xs, a1, s1, fun k hk => ?_, h1, hx⟩
    obtain ⟨k, rfl⟩ : ∃ m, k = m + 1 := ⟨k - 1, by omega⟩; simp only [spec_l07Draw.l0, e1, Option.bind_some]; rw [w64 (n := 20 + r1) (by omega), if_neg c1]
 obtain ⟨xs, a1, s1, e1, h1, l1, l2, hg⟩ := score_good hc h; obtain ⟨r2, a2, s2, e2, h2, b2, c2⟩ := next_ok hc h1 40 (by omega)
 by_cases d0 : r2 = 0
 ·obtain ⟨r3, a3, s3, e3, h3, _⟩ := pick_ok hc h2 [0, 1, 16, 17] (by simp) (by simp)
  refine ⟨xs.set (0 : Int).toNat (⟨r3, (rd_T104 xs 0).f1⟩ : S104), a3, s3, fun k hk => ?_, h3, by rw [List.length_set]; omega⟩
  unfold spec_l07Draw.f
  simp only [e1 k (by omega), e2, e3, Option.bind_some]; rw [if_pos d0, if_pos (by omega)]
 by_cases d1 : r2 = 1
 ·obtain ⟨r3, a3, s3, e3, h3, _⟩ := pick_ok hc h2 [99, 100, 5000, 5001] (by simp) (by simp)
  refine ⟨xs.set (0 : Int).toNat (⟨(rd_T104 xs 0).f0, r3⟩ : S104), a3, s3, fun k hk => ?_, h3, by rw [List.length_set]; omega⟩
  unfold spec_l07Draw.f
  simp only [e1 k (by omega), e2, e3, Option.bind_some]; rw [if_neg d0, if_pos d1, if_pos (by omega)]
 by_cases d2 : r2 = 2
 ·obtain ⟨r, a', s', e, h', hl⟩ := loop (21 - xs.length) xs a2 s2 rfl (by omega) h2
  refine ⟨r, a', s', fun k hk => ?_, h', hl⟩
  unfold spec_l07Draw.f
  simp only [e1 k (by omega), e2, Option.bind_some]; rw [if_neg d0, if_neg d1, if_pos d2]; exact e k (by omega)
 by_cases d3 : r2 = 3
 ·refine ⟨xs.take (0 : Int).toNat, a2, s2, fun k hk => ?_, h2, Nat.zero_le _⟩
  unfold spec_l07Draw.f
  simp only [e1 k (by omega), e2, Option.bind_some]; rw [if_neg d0, if_neg d1, if_neg d2, if_pos d3, if_pos (by omega)]
 ·refine ⟨xs, a2, s2, fun k hk => ?_, h2, by omega⟩
  unfold spec_l07Draw.f
  simp only [e1 k (by omega), e2, Option.bind_some]; rw [if_neg d0, if_neg d1, if_neg d2, if_neg d3]
def word (s : ByteArray) : Bool := allF (fun j => inB (bt s (j : Int)) 97 122) 0 s.size && inB (s.size : Int) 1 16
theorem spec_word (s : ByteArray) (hs : s.size ≤ 9223372036854775807) (k : Nat) (hk : s.size < k) : spec_IsWord.f k s = some (word s) := by
 refine all_loop (f := fun k i => spec_IsWord.l0 k s (i : Int)) s.size (fun k i hi => ?_) (fun k => ?_) s.size k 0 (by omega) (by omega) (by omega)
 ·show spec_IsWord.l0 (k + 1) s i = _
  simp only [spec_IsWord.l0]; rw [if_pos (by omega), if_pos (by omega), w64 (n := (i : Int) + 1) (by omega)]
  by_cases c1 : bt s (i : Int) < 97
  ·rw [if_pos c1, inB_false.2 (by omega), if_neg (by decide)]
  ·rw [if_neg c1]
   by_cases c2 : bt s (i : Int) > 122
   ·rw [if_pos c2, inB_false.2 (by omega), if_neg (by decide)]
   ·rw [if_neg c2, inB_true.2 (by omega), if_pos rfl]; rfl
 ·show spec_IsWord.l0 (k + 1) s _ = _
  simp only [spec_IsWord.l0]; rw [if_neg (by omega), In_eq]; rfl
theorem impl_word (s : ByteArray) (hs : s.size ≤ 9223372036854775807) (k : Nat) (hk : s.size + 1 < k) : impl_IsWord.f k s = some (word s) := by
 obtain ⟨k, rfl⟩ : ∃ m, k = m + 1 := ⟨k - 1, by omega⟩
 unfold impl_IsWord.f word
 simp only [impl_IsWord.j0]
 by_cases h1 : (s.size : Int) < 1
 ·rw [if_pos h1, if_pos trivial, inB_false.2 (by omega), Bool.and_false]
 ·rw [if_neg h1]
  by_cases h2 : (s.size : Int) > 16
  ·rw [if_pos (decide_eq_true h2), inB_false.2 (by omega), Bool.and_false]
  ·rw [if_neg (by simpa using h2), inB_true.2 (by omega)]
   refine all_loop (f := fun k i => impl_IsWord.l0 k s (i : Int)) s.size (fun k i hi => ?_) (fun k => ?_) s.size k 0 (by omega) (by omega) (by omega)
   ·show impl_IsWord.l0 (k + 1) s i = _
    simp only [impl_IsWord.l0]; rw [if_pos (by omega), if_pos (by omega), w64 (n := (i : Int) + 1) (by omega)]
    by_cases c1 : bt s (i : Int) < 97
    ·rw [if_pos c1, inB_false.2 (by omega), if_neg (by decide)]
    ·rw [if_neg c1]
     by_cases c2 : bt s (i : Int) > 122
     ·rw [if_pos c2, inB_false.2 (by omega), if_neg (by decide)]
     ·rw [if_neg c2, inB_true.2 (by omega), if_pos rfl]; rfl
   ·show impl_IsWord.l0 (k + 1) s _ = _
    simp only [impl_IsWord.l0]; rw [if_neg (by omega)]
def art (a : S61) : Bool := word a.f0 && (inB a.f1 0 3 && (inB a.f2 20 300 && (inB a.f3 0 10000 && (inB a.f4 0 a.f3 && (inB a.f5 1 50 && (inB a.f6 0 10000 && (inB a.f7 1 100000 && inB a.f8 0 3)))))))
theorem spec_art (a : S61) (hs : a.f0.size ≤ 9223372036854775807) (k : Nat) (hk : a.f0.size < k) : spec_IsArticle.f k a.f0 a.f1 a.f2 a.f3 a.f4 a.f5 a.f6 a.f7 a.f8 = some (art a) := by
 unfold spec_IsArticle.f art
 rw [spec_word a.f0 hs k hk]; simp only [In_eq, Option.bind_some]
 cases word a.f0 <;> cases inB a.f1 0 3 <;> cases inB a.f2 20 300 <;> cases inB a.f3 0 10000 <;> cases inB a.f4 0 a.f3 <;> cases inB a.f5 1 50 <;> cases inB a.f6 0 10000 <;> cases inB a.f7 1 100000 <;> rfl
theorem impl_art (a : S61) (hs : a.f0.size ≤ 9223372036854775807) (k : Nat) (hk : a.f0.size + 1 < k) : impl_IsArticle.f k a.f0 a.f1 a.f2 a.f3 a.f4 a.f5 a.f6 a.f7 a.f8 = some (art a) := by
 unfold impl_IsArticle.f art
 rw [impl_word a.f0 hs k hk]; simp only [Wi_eq, Option.bind_some]
 cases word a.f0 <;> cases inB a.f1 0 3 <;> cases inB a.f2 20 300 <;> cases inB a.f3 0 10000 <;> cases inB a.f4 0 a.f3 <;> cases inB a.f5 1 50 <;> cases inB a.f6 0 10000 <;> cases inB a.f7 1 100000 <;> rfl
def ar_at (xs : List S61) (i : Nat) : S61 := xs.getD i z61
theorem rd_art (xs : List S61) (i : Nat) : rd_T61 xs (i : Int) = ar_at xs i := by unfold rd_T61 ar_at; rw [Int.toNat_natCast]
def artAt (xs : List S61) (i : Nat) : Bool := art (ar_at xs i) && (decide (i = 0) || Op.bytesLess (ar_at xs (i - 1)).f0.toList (ar_at xs i).f0.toList)
def areArts (xs : List S61) : Bool := allF (artAt xs) 0 xs.length && decide ((xs.length : Int) ≤ 12)
def Small (B : Nat) (xs : List S61) : Prop := B ≤ 9223372036854775807 ∧ ∀ x ∈ xs, x.f0.size ≤ B
theorem small_at {B : Nat} {xs : List S61} (h : Small B xs) (i : Nat) (hi : i < xs.length) : (ar_at xs i).f0.size ≤ B := by
 unfold ar_at
 rw [List.getD_eq_getElem?_getD, List.getElem?_eq_getElem hi]; exact h.2 _ (List.getElem_mem hi)
theorem spec_arts (B : Nat) (xs : List S61) (hx : xs.length ≤ 9223372036854775807) (hB : Small B xs) (k : Nat) (hk : xs.length + B < k) : spec_AreArticles.f k xs = some (areArts xs) := by
 have loop : ∀ d k i, xs.length - i = d → i ≤ xs.length → d + B < k → spec_AreArticles.l0 k xs (i : Int) = some (allF (artAt xs) i d && decide ((xs.length : Int) ≤ 12)) := by
  intro d
  induction d with
  | zero =>
   intro k i hd hi hk; obtain ⟨k, rfl⟩ : ∃ m, k = m + 1 := ⟨k - 1, by omega⟩; simp only [spec_AreArticles.l0]; rw [if_neg (by omega)]
   rfl
  | succ d ih =>
   intro k i hd hi hk; obtain ⟨k, rfl⟩ : ∃ m, k = m + 1 := ⟨k - 1, by omega⟩; have hb := small_at hB i (by omega); have hB1 := hB.1; have nx := ih k (i + 1) (by omega) (by omega) (by omega); simp only [spec_AreArticles.l0]; rw [if_pos (by omega), if_pos (by omega), rd_art, spec_art _ (by omega) k (by omega), w64 (n := (i : Int) + 1) (by omega)]; simp only [Option.bind_some]
   unfold allF artAt
   cases ha : art (ar_at xs i) with
   | false => rfl
   | true =>
    rw [if_pos rfl, Bool.true_and]
    by_cases i0 : i = 0
    ·subst i0
     rw [if_neg (by omega), decide_eq_true rfl, Bool.true_or, Bool.true_and]; exact nx
    ·rw [if_pos (by omega), w64 (n := (i : Int) - 1) (by omega), if_pos (by omega), if_pos (by omega), show (i : Int) - 1 = ((i - 1 : Nat) : Int) by omega, rd_art, decide_eq_false i0, Bool.false_or]
     cases hl : Op.bytesLess (ar_at xs (i - 1)).f0.toList (ar_at xs i).f0.toList with
     | false => rfl
     | true => rw [if_pos rfl, Bool.true_and]; exact nx
 unfold spec_AreArticles.f
 exact loop xs.length k 0 (by omega) (by omega) hk
theorem impl_arts (B : Nat) (xs : List S61) (hx : xs.length ≤ 9223372036854775807) (hB : Small B xs) (k : Nat) (hk : xs.length + B + 1 < k) : impl_AreArticles.f k xs = some (areArts xs) := by
 have loop : ∀ d k i, xs.length - i = d → i ≤ xs.length → d + B + 1 < k → impl_AreArticles.l0 k xs xs (xs.length : Int) (i : Int) = some (allF (artAt xs) i d && true) := by
  intro d
  induction d with
  | zero =>
   intro k i hd hi hk; obtain ⟨k, rfl⟩ : ∃ m, k = m + 1 := ⟨k - 1, by omega⟩; simp only [impl_AreArticles.l0]; rw [if_neg (by omega)]
   rfl
  | succ d ih =>
   intro k i hd hi hk; obtain ⟨k, rfl⟩ : ∃ m, k = m + 1 := ⟨k - 1, by omega⟩; have hb := small_at hB i (by omega); have hB1 := hB.1; have nx := ih k (i + 1) (by omega) (by omega) (by omega); simp only [impl_AreArticles.l0]; rw [if_pos (by omega), if_pos (by omega), if_pos (by omega), rd_art, impl_art _ (by omega) k (by omega), w64 (n := (i : Int) + 1) (by omega)]; simp only [Option.bind_some]
   unfold allF artAt
   cases ha : art (ar_at xs i) with
   | false => rfl
   | true =>
    rw [if_pos rfl, Bool.true_and]
    by_cases i0 : i = 0
    ·subst i0
     rw [if_neg (by omega), decide_eq_true rfl, Bool.true_or, Bool.true_and]; exact nx
    ·rw [if_pos (by omega), w64 (n := (i : Int) - 1) (by omega), if_pos (by omega), if_pos (by omega), show (i : Int) - 1 = ((i - 1 : Nat) : Int) by omega, rd_art, decide_eq_false i0, Bool.false_or]
     cases hl : Op.bytesLess (ar_at xs (i - 1)).f0.toList (ar_at xs i).f0.toList with
     | false => rfl
     | true => rw [if_pos rfl, Bool.true_and]; exact nx
 unfold impl_AreArticles.f areArts
 by_cases c : (xs.length : Int) > 12
 ·rw [if_pos c, decide_eq_false (by omega), Bool.and_false]
 ·rw [if_neg c, decide_eq_true (by omega)]
  exact loop xs.length k 0 (by omega) (by omega) hk
def findF (xs : List S61) (s : ByteArray) : Nat → Nat → Int
 | _, 0 => -1
 | i, d + 1 => if (ar_at xs i).f0.toList = s.toList then (i : Int) else findF xs s (i + 1) d
def find (xs : List S61) (s : ByteArray) : Int := findF xs s 0 xs.length
theorem find_go (xs : List S61) (hx : xs.length ≤ 9223372036854775807) (s : ByteArray) : ∀ d k i, xs.length - i = d → i ≤ xs.length → d < k → spec_l03Find.l0 k xs s (i : Int) = some (findF xs s i d) ∧ impl_articleOf.l0 k s xs (xs.length : Int) (i : Int) = some (findF xs s i d) := by
 intro d
 induction d with
 | zero =>
  intro k i hd hi hk; obtain ⟨k, rfl⟩ : ∃ m, k = m + 1 := ⟨k - 1, by omega⟩; simp only [spec_l03Find.l0, impl_articleOf.l0]; rw [if_neg (by omega), if_neg (by omega)]; exact ⟨rfl, rfl⟩
 | succ d ih =>
  intro k i hd hi hk; obtain ⟨k, rfl⟩ : ∃ m, k = m + 1 := ⟨k - 1, by omega⟩; obtain ⟨a, b⟩ := ih k (i + 1) (by omega) (by omega) (by omega); have w : wrap64 ((i : Int) + 1) = ((i + 1 : Nat) : Int) := w64 (by omega)
  have g1 : (i : Int) < (xs.length : Int) := by clear w; omega
  have g2 : 0 ≤ (i : Int) := by clear w; omega
  simp only [spec_l03Find.l0, impl_articleOf.l0, if_pos g1, if_pos g2, rd_art, w]
  unfold findF
  by_cases c : (ar_at xs i).f0.toList = s.toList
  ·rw [if_pos c, if_pos c, if_pos c]; exact ⟨rfl, rfl⟩
  ·rw [if_neg c, if_neg c, if_neg c]; exact ⟨a, b⟩
theorem spec_find (xs : List S61) (hx : xs.length ≤ 9223372036854775807) (s : ByteArray) (k : Nat) (hk : xs.length < k) : spec_l03Find.f k xs s = some (find xs s) := (find_go xs hx s xs.length k 0 (by omega) (by omega) hk).1
theorem impl_find (xs : List S61) (hx : xs.length ≤ 9223372036854775807) (s : ByteArray) (k : Nat) (hk : xs.length < k) : impl_articleOf.f k xs s = some (find xs s) := (find_go xs hx s xs.length k 0 (by omega) (by omega) hk).2
theorem findF_range (xs : List S61) (s : ByteArray) : ∀ d i, findF xs s i d = -1 ∨ ((i : Int) ≤ findF xs s i d ∧ findF xs s i d < (i : Int) + d)
 | 0, _ => .inl rfl
 | d + 1, i => by
  unfold findF
  by_cases c : (ar_at xs i).f0.toList = s.toList
  ·rw [if_pos c]; exact .inr ⟨Int.le_refl _, by omega⟩
  ·rw [if_neg c]
   rcases findF_range xs s d (i + 1) with h | h
   ·exact .inl h
   ·exact .inr ⟨by omega, by omega⟩
theorem find_range (xs : List S61) (s : ByteArray) : find xs s = -1 ∨ (0 ≤ find xs s ∧ find xs s < (xs.length : Int)) := by
 have := findF_range xs s xs.length 0
 unfold find
 omega
theorem spec_time {xs : List S104} (h : isScore xs = true) (bar : Nat) (hb : bar < xs.length) (beat : Int) (h0 : 0 ≤ beat ∧ beat ≤ 16) (k : Nat) (hk : bar < k) : spec_l07Time.f k xs (bar : Int) beat = some (tm xs bar + beat * ln_at xs bar) := by
 have hs := isScore_true h; have hl := hs.2.2 bar hb
 have hb2 : 0 ≤ beat * ln_at xs bar ∧ beat * ln_at xs bar ≤ 80000 := by
  have h1 : 0 * ln_at xs bar ≤ beat * ln_at xs bar := Int.mul_le_mul_of_nonneg_right h0.1 (by omega); have h2 : beat * ln_at xs bar ≤ 16 * ln_at xs bar := Int.mul_le_mul_of_nonneg_right h0.2 (by omega)
  omega
 refine fold_loop (f := fun k i s => spec_l07Time.l0 k xs (bar : Int) beat s (i : Int)) (step := fun j s => s + bt_at xs j * ln_at xs j) (I := fun i s => s = tm xs i) (e := fun s => some (s + beat * ln_at xs bar)) bar (fun k i s hi hI => ?_) (fun i s hi hI => ?_) (fun k s hI => ?_) bar k 0 0 (by omega) (by omega) rfl hk
 ·have h1 := tm_le h i (by omega)
  have h2 := prod_le (hs.2.2 i (by omega)); show spec_l07Time.l0 (k + 1) xs (bar : Int) beat s (i : Int) = spec_l07Time.l0 k xs (bar : Int) beat (s + bt_at xs i * ln_at xs i) ((i + 1 : Nat) : Int); simp only [spec_l07Time.l0]; rw [if_pos (by omega), if_pos (by omega), if_pos (by omega), rd_bar]; show spec_l07Time.l0 k xs (bar : Int) beat (wrap64 (s + wrap64 (bt_at xs i * ln_at xs i))) (wrap64 ((i : Int) + 1)) = _; rw [w64 (n := bt_at xs i * ln_at xs i) (by omega), w64 (n := s + _) (by omega), w64 (by omega)]
  rfl
 ·show s + bt_at xs i * ln_at xs i = tm xs (i + 1)
  rw [tm_succ, hI]
 ·have h1 := tm_le h bar (by omega)
  show spec_l07Time.l0 (k + 1) xs (bar : Int) beat s (bar : Int) = some (s + beat * ln_at xs bar); simp only [spec_l07Time.l0]; rw [if_neg (by omega), if_pos (by omega), if_pos (by omega), rd_bar]; show some (wrap64 (s + wrap64 (beat * ln_at xs bar))) = _; rw [w64 (n := beat * ln_at xs bar) (by omega), w64 (by omega)]
theorem impl_time {xs : List S104} (h : isScore xs = true) (bar : Nat) (beat : Int) (hb : bar < xs.length ∨ (bar = xs.length ∧ beat = 0)) (h0 : 0 ≤ beat ∧ beat ≤ 16) (k : Nat) (hk : bar < k) : impl_beatTime.f k xs (bar : Int) beat = some (tm xs bar + beat * ln_at xs bar) := by
 have hs := isScore_true h
 have hlen : (xs.take bar).length = bar := by rw [List.length_take]; omega
 unfold impl_beatTime.f
 rw [if_pos (by omega), if_pos (by omega), Int.toNat_natCast]; simp only [Option.bind_some]; rw [hlen]; refine fold_loop (f := fun k i s => impl_beatTime.l0 k xs (bar : Int) beat s (xs.take bar) (bar : Int) (i : Int)) (step := fun j s => s + bt_at xs j * ln_at xs j) (I := fun i s => s = tm xs i) (e := fun s => some (s + beat * ln_at xs bar)) bar (fun k i s hi hI => ?_) (fun i s hi hI => ?_) (fun k s hI => ?_) bar k 0 0 (by omega) (by omega) rfl hk
 ·have h1 := tm_le h i (by omega)
  have h2 := prod_le (hs.2.2 i (by omega)); show impl_beatTime.l0 (k + 1) xs (bar : Int) beat s (xs.take bar) (bar : Int) (i : Int) = impl_beatTime.l0 k xs (bar : Int) beat (s + bt_at xs i * ln_at xs i) (xs.take bar) (bar : Int) ((i + 1 : Nat) : Int); simp only [impl_beatTime.l0]; rw [if_pos (by omega), if_pos (by omega), if_pos (by rw [hlen]; omega), rd_bar, getD_take _ _ _ _ hi]; show impl_beatTime.l0 k xs (bar : Int) beat (wrap64 (s + wrap64 (bt_at xs i * ln_at xs i))) (xs.take bar) (bar : Int) (wrap64 ((i : Int) + 1)) = _; rw [w64 (n := bt_at xs i * ln_at xs i) (by omega), w64 (n := s + _) (by omega), w64 (by omega)]
  rfl
 ·show s + bt_at xs i * ln_at xs i = tm xs (i + 1)
  rw [tm_succ, hI]
 ·have h1 := tm_le h bar (by omega)
  show impl_beatTime.l0 (k + 1) xs (bar : Int) beat s (xs.take bar) (bar : Int) (bar : Int) = some (s + beat * ln_at xs bar); simp only [impl_beatTime.l0]; rw [if_neg (by omega)]
  by_cases hp : beat > 0
  ·have hlt : bar < xs.length := by omega
   have hl := hs.2.2 bar hlt
   have hb2 : 0 ≤ beat * ln_at xs bar ∧ beat * ln_at xs bar ≤ 80000 := by
    have h1 : 0 * ln_at xs bar ≤ beat * ln_at xs bar := Int.mul_le_mul_of_nonneg_right h0.1 (by omega); have h2 : beat * ln_at xs bar ≤ 16 * ln_at xs bar := Int.mul_le_mul_of_nonneg_right h0.2 (by omega)
    omega
   rw [if_pos hp, if_pos (by omega), if_pos (by omega), rd_bar]; show some (wrap64 (s + wrap64 (beat * ln_at xs bar))) = _; rw [w64 (n := beat * ln_at xs bar) (by omega), w64 (by omega)]
  ·have e : beat = 0 := by omega
   rw [if_neg hp, e, Int.zero_mul, Int.add_zero]
theorem index_eq (a n : Int) : impl_isIndex.f a n = some (inB a 0 (wrap64 (n - 1))) := by
 unfold impl_isIndex.f
 simp only [Wi_eq, Option.bind_some]
def hasBeat (xs : List S104) (bar beat : Int) : Bool := inB bar 0 ((xs.length : Int) - 1) && inB beat 0 (bt_at xs bar.toNat - 1)
theorem hasBeat_true {xs : List S104} {bar beat : Int} (h : hasBeat xs bar beat = true) : ∃ b : Nat, bar = b ∧ b < xs.length ∧ 0 ≤ beat ∧ beat ≤ bt_at xs b - 1 := by
 unfold hasBeat at h
 rw [Bool.and_eq_true, inB_true, inB_true] at h; exact ⟨bar.toNat, by omega, by omega, h.2⟩
theorem spec_has {xs : List S104} (h : isScore xs = true) (bar beat : Int) : spec_l07Has.f xs bar beat = some (hasBeat xs bar beat) := by
 have hs := isScore_true h
 unfold spec_l07Has.f hasBeat
 rw [w64 (n := (xs.length : Int) - 1) (by omega), In_eq]; simp only [Option.bind_some]
 cases g : inB bar 0 ((xs.length : Int) - 1) with
 | false => rfl
 | true =>
  rw [inB_true] at g; obtain ⟨b, rfl⟩ : ∃ n : Nat, bar = n := ⟨bar.toNat, by omega⟩; have hb := hs.2.2 b (by omega); rw [if_pos rfl, if_pos (by omega), if_pos (by omega), rd_bar]; show ((spec_l01In.f beat 0 (wrap64 (bt_at xs b - 1))).bind fun t => some t) = _; rw [w64 (by omega), In_eq]; rfl
theorem impl_has {xs : List S104} (h : isScore xs = true) (bar beat : Int) : impl_isBeat.f xs bar beat = some (hasBeat xs bar beat) := by
 have hs := isScore_true h
 unfold impl_isBeat.f hasBeat
 rw [index_eq, w64 (n := (xs.length : Int) - 1) (by omega)]; simp only [Option.bind_some]
 cases g : inB bar 0 ((xs.length : Int) - 1) with
 | false => rfl
 | true =>
  rw [inB_true] at g; obtain ⟨b, rfl⟩ : ∃ n : Nat, bar = n := ⟨bar.toNat, by omega⟩; have hb := hs.2.2 b (by omega); rw [if_pos rfl, if_pos (by omega), if_pos (by omega), rd_bar]; show ((impl_within.f beat 0 (wrap64 (bt_at xs b - 1))).bind fun t => some t) = _; rw [w64 (by omega), Wi_eq]; rfl
def cu_at (C : List S58) (i : Nat) : S58 := C.getD i z58
theorem rd_cue (C : List S58) (i : Nat) : rd_T58 C (i : Int) = cu_at C i := by unfold rd_T58 cu_at; rw [Int.toNat_natCast]
def arOf (B : List S61) (c : S58) : S61 := ar_at B (find B c.f2).toNat
def ftime (A : List S104) (B : List S61) (c : S58) : Int := tm A c.f0.toNat + c.f1 * ln_at A c.f0.toNat - (arOf B c).f3
theorem areArts_true {xs : List S61} (h : areArts xs = true) : xs.length ≤ 12 ∧ ∀ i, i < xs.length → art (ar_at xs i) = true := by
 unfold areArts at h
 rw [Bool.and_eq_true, allF_true, decide_eq_true_iff] at h; refine ⟨by omega, fun i hi => ?_⟩; have := h.1 i (by omega) (by omega)
 unfold artAt at this
 rw [Bool.and_eq_true] at this; exact this.1
theorem art_true {a : S61} (h : art a = true) : (0 ≤ a.f1 ∧ a.f1 ≤ 3) ∧ (20 ≤ a.f2 ∧ a.f2 ≤ 300) ∧ (0 ≤ a.f3 ∧ a.f3 ≤ 10000) ∧ (0 ≤ a.f4 ∧ a.f4 ≤ a.f3) ∧ (1 ≤ a.f5 ∧ a.f5 ≤ 50) ∧ (0 ≤ a.f6 ∧ a.f6 ≤ 10000) ∧ (1 ≤ a.f7 ∧ a.f7 ≤ 100000) ∧ 0 ≤ a.f8 ∧ a.f8 ≤ 3 := by
 unfold art at h
 simp only [Bool.and_eq_true, inB_true] at h; exact h.2
theorem arOf_ok {B : List S61} (hB : areArts B = true) {c : S58} (hc : 0 ≤ find B c.f2) : art (arOf B c) = true ∧ find B c.f2 < (B.length : Int) := by
 rcases find_range B c.f2 with h | h
 ·omega
 ·exact ⟨(areArts_true hB).2 _ (by omega), h.2⟩
theorem time_range {A : List S104} (hA : isScore A = true) {b : Nat} (hb : b < A.length) {e : Int} (he : 0 ≤ e ∧ e ≤ bt_at A b - 1) : 0 ≤ tm A b + e * ln_at A b ∧ tm A b + e * ln_at A b ≤ 2000000 := by
 have hs := isScore_true hA; have hl := hs.2.2 b hb; have ht := tm_le hA b (by omega); have h1 : 0 ≤ e * ln_at A b := Int.mul_nonneg he.1 (by omega); have h2 : e * ln_at A b ≤ 16 * ln_at A b := Int.mul_le_mul_of_nonneg_right (by omega) (by omega)
 omega
theorem ftime_range {A : List S104} (hA : isScore A = true) {B : List S61} (hB : areArts B = true) {c : S58} (hc : 0 ≤ find B c.f2) (hb : hasBeat A c.f0 c.f1 = true) : -10000 ≤ ftime A B c ∧ ftime A B c ≤ 2000000 := by
 obtain ⟨b, e, h1, h2, h3⟩ := hasBeat_true hb; have ha := art_true (arOf_ok hB hc).1; have := time_range hA h1 ⟨h2, h3⟩
 unfold ftime
 rw [e, Int.toNat_natCast]
 omega
theorem spec_ftime {A : List S104} (hA : isScore A = true) {B : List S61} (hB : areArts B = true) (C : List S58) {c : S58} (hc : 0 ≤ find B c.f2) (hb : hasBeat A c.f0 c.f1 = true) (k : Nat) (hk : 100 ≤ k) : spec_l08Time.f k A B C c.f0 c.f1 c.f2 c.f3 = some (ftime A B c) := by
 obtain ⟨b, e, h1, h2, h3⟩ := hasBeat_true hb; have hs := isScore_true hA; have hl := hs.2.2 b h1; have hf := arOf_ok hB hc; have hr := time_range hA h1 ⟨h2, h3⟩; have ha := art_true hf.1; have hB12 := (areArts_true hB).1
 have ft : ftime A B c = tm A b + c.f1 * ln_at A b - (arOf B c).f3 := by unfold ftime; rw [e, Int.toNat_natCast]
 unfold spec_l08Time.f
 rw [e, spec_time hA b h1 c.f1 (by omega) k (by omega)]; simp only [Option.bind_some]; rw [spec_find B (by omega) c.f2 k (by omega)]; simp only [Option.bind_some]; rw [if_pos hc, if_pos hf.2, ft]
 have er : rd_T61 B (find B c.f2) = arOf B c := by
  have := rd_art B (find B c.f2).toNat; rw [show ((find B c.f2).toNat : Int) = find B c.f2 by omega] at this; exact this
 rw [er, w64 (by omega)]
theorem impl_ftime {A : List S104} (hA : isScore A = true) {B : List S61} (hB : areArts B = true) (C : List S58) (c : S58) (k : Nat) (hk : 100 ≤ k) : impl_firedAt.f k A B C c.f0 c.f1 c.f2 c.f3 = some (if 0 ≤ find B c.f2 ∧ hasBeat A c.f0 c.f1 = true then mx (-1) (ftime A B c) else -1) := by
 have hs := isScore_true hA; have hB12 := (areArts_true hB).1
 unfold impl_firedAt.f
 rw [impl_find B (by omega) c.f2 k (by omega)]; simp only [Option.bind_some]
 by_cases hc : 0 ≤ find B c.f2
 ·rw [if_neg (by omega), impl_has hA]
  simp only [Option.bind_some]
  by_cases hb : hasBeat A c.f0 c.f1 = true
  ·obtain ⟨b, e, h1, h2, h3⟩ := hasBeat_true hb
   have hl := hs.2.2 b h1; have hf := arOf_ok hB hc; have hr := time_range hA h1 ⟨h2, h3⟩; have ha := art_true hf.1
   have ft : ftime A B c = tm A b + c.f1 * ln_at A b - (arOf B c).f3 := by unfold ftime; rw [e, Int.toNat_natCast]
   have er : rd_T61 B (find B c.f2) = arOf B c := by
    have := rd_art B (find B c.f2).toNat; rw [show ((find B c.f2).toNat : Int) = find B c.f2 by omega] at this; exact this
   rw [if_pos hb, if_pos (show 0 ≤ find B c.f2 ∧ hasBeat A c.f0 c.f1 = true from ⟨hc, hb⟩), e, impl_time hA b c.f1 (.inl h1) (by omega) k (by omega)]; simp only [Option.bind_some]; rw [if_pos hc, if_pos hf.2, er, ft, w64 (by omega)]
  ·rw [if_neg hb, if_neg (show ¬ (0 ≤ find B c.f2 ∧ hasBeat A c.f0 c.f1 = true) from fun x => hb x.2)]
 ·rw [if_pos (by omega), if_neg (show ¬ (0 ≤ find B c.f2 ∧ hasBeat A c.f0 c.f1 = true) from fun x => hc x.1)]
def cueOk (A : List S104) (B : List S61) (c : S58) : Bool := hasBeat A c.f0 c.f1 && (decide (0 ≤ find B c.f2) && (inB c.f3 0 11 && decide (0 ≤ ftime A B c)))
def isShow (A : List S104) (B : List S61) (C : List S58) : Bool := isScore A && (areArts B && (decide ((C.length : Int) ≤ 20) && allF (fun i => cueOk A B (cu_at C i)) 0 C.length))
theorem cueOk_true {A : List S104} {B : List S61} {c : S58} (h : cueOk A B c = true) : hasBeat A c.f0 c.f1 = true ∧ 0 ≤ find B c.f2 ∧ (0 ≤ c.f3 ∧ c.f3 ≤ 11) ∧ 0 ≤ ftime A B c := by
 unfold cueOk at h
 simpa only [Bool.and_eq_true, inB_true, decide_eq_true_iff] using h
theorem isShow_true {A : List S104} {B : List S61} {C : List S58} (h : isShow A B C = true) : isScore A = true ∧ areArts B = true ∧ C.length ≤ 20 ∧ ∀ i, i < C.length → cueOk A B (cu_at C i) = true := by
 unfold isShow at h
 rw [Bool.and_eq_true, Bool.and_eq_true, Bool.and_eq_true, allF_true, decide_eq_true_iff] at h; exact ⟨h.1, h.2.1, by omega, fun i hi => h.2.2.2 i (by omega) (by omega)⟩
theorem spec_show (n : Nat) (A : List S104) (B : List S61) (C : List S58) (hA : A.length ≤ 9223372036854775807) (hB : B.length ≤ 9223372036854775807) (hC : C.length ≤ 9223372036854775807) (hS : Small n B) (k : Nat) (hk : A.length + B.length + C.length + n + 200 ≤ k) : spec_IsShow.f k A B C = some (isShow A B C) := by
 obtain ⟨k, rfl⟩ : ∃ m, k = m + 1 := ⟨k - 1, by omega⟩
 unfold spec_IsShow.f isShow
 rw [spec_score A (by omega) (k + 1) (by omega)]; simp only [Option.bind_some]
 cases a : isScore A with
 | false => rfl
 | true =>
  rw [if_pos rfl, spec_arts n B (by omega) hS (k + 1) (by omega)]; simp only [Option.bind_some]
  cases b : areArts B with
  | false => rfl
  | true =>
   rw [if_pos rfl]
   by_cases c : (C.length : Int) > 20
   ·rw [decide_eq_true c, decide_eq_false (by omega)]; rfl
   ·rw [decide_eq_false c, decide_eq_true (by omega)]
    simp only [spec_IsShow.j0, Bool.false_eq_true, if_false, Bool.true_and]; have hB12 := (areArts_true b).1
    have loop : ∀ d k i, C.length - i = d → i ≤ C.length → d + 110 ≤ k → spec_IsShow.l0 k (i : Int) A B C = some (allF (fun i => cueOk A B (cu_at C i)) i d) := by
     intro d
     induction d with
     | zero =>
      intro k i hd hi hk; obtain ⟨k, rfl⟩ : ∃ m, k = m + 1 := ⟨k - 1, by omega⟩; simp only [spec_IsShow.l0]; rw [if_neg (by omega)]
      rfl
     | succ d ih =>
      intro k i hd hi hk; obtain ⟨k, rfl⟩ : ∃ m, k = m + 1 := ⟨k - 1, by omega⟩; have nx := ih k (i + 1) (by omega) (by omega) (by omega); simp only [spec_IsShow.l0]; rw [if_pos (by omega), if_pos (by omega), rd_cue, spec_has a, spec_find B (by omega) _ k (by omega), In_eq, w64 (n := (i : Int) + 1) (by omega)]; simp only [Option.bind_some]
      unfold allF cueOk
      cases hb : hasBeat A (cu_at C i).f0 (cu_at C i).f1 with
      | false => rfl
      | true =>
       rw [if_pos rfl, Bool.true_and]
       by_cases hf : 0 ≤ find B (cu_at C i).f2
       ·rw [if_neg (by omega), decide_eq_true hf, Bool.true_and]
        cases hr : inB (cu_at C i).f3 0 11 with
        | false => rfl
        | true =>
         rw [if_pos rfl, Bool.true_and, spec_ftime a b C hf hb k (by omega)]; simp only [Option.bind_some]
         by_cases ht : ftime A B (cu_at C i) < 0
         ·rw [if_pos ht, decide_eq_false (by omega)]; rfl
         ·rw [if_neg ht, decide_eq_true (by omega), Bool.true_and]
          exact nx
       ·rw [if_pos (by omega), decide_eq_false hf]; rfl
    exact loop C.length k 0 (by omega) (by omega) (by omega)
theorem impl_show (n : Nat) (A : List S104) (B : List S61) (C : List S58) (hA : A.length ≤ 9223372036854775807) (hB : B.length ≤ 9223372036854775807) (hC : C.length ≤ 9223372036854775807) (hS : Small n B) (k : Nat) (hk : A.length + B.length + C.length + n + 200 ≤ k) : impl_IsShow.f k A B C = some (isShow A B C) := by
 obtain ⟨k, rfl⟩ : ∃ m, k = m + 1 := ⟨k - 1, by omega⟩
 unfold impl_IsShow.f isShow
 rw [impl_score A (by omega) (k + 1) (by omega)]; simp only [Option.bind_some]
 cases a : isScore A with
 | false => rfl
 | true =>
  rw [if_pos rfl, impl_arts n B (by omega) hS (k + 1) (by omega)]; simp only [Option.bind_some]
  cases b : areArts B with
  | false => rfl
  | true =>
   rw [if_pos rfl]
   by_cases c : (C.length : Int) > 20
   ·rw [decide_eq_true c, decide_eq_false (by omega)]; rfl
   ·rw [decide_eq_false c, decide_eq_true (by omega)]
    simp only [impl_IsShow.j0, Bool.false_eq_true, if_false, Bool.true_and]; have hB12 := (areArts_true b).1
    have loop : ∀ d k i, C.length - i = d → i ≤ C.length → d + 110 ≤ k → impl_IsShow.l0 k C (C.length : Int) (i : Int) A B C = some (allF (fun i => cueOk A B (cu_at C i)) i d) := by
     intro d
     induction d with
     | zero =>
      intro k i hd hi hk; obtain ⟨k, rfl⟩ : ∃ m, k = m + 1 := ⟨k - 1, by omega⟩; simp only [impl_IsShow.l0]; rw [if_neg (by omega)]
      rfl
     | succ d ih =>
      intro k i hd hi hk; obtain ⟨k, rfl⟩ : ∃ m, k = m + 1 := ⟨k - 1, by omega⟩; have nx := ih k (i + 1) (by omega) (by omega) (by omega); simp only [impl_IsShow.l0]; rw [if_pos (by omega), if_pos (by omega), if_pos (by omega), rd_cue, Wi_eq, impl_ftime a b C _ k (by omega), w64 (n := (i : Int) + 1) (by omega)]; simp only [Option.bind_some]
      unfold allF cueOk
      cases hr : inB (cu_at C i).f3 0 11 with
      | false =>
       rw [if_neg (by decide)]
       simp
      | true =>
       rw [if_pos rfl]
       cases hb : hasBeat A (cu_at C i).f0 (cu_at C i).f1 with
       | false =>
        rw [if_neg (show ¬ (0 ≤ find B (cu_at C i).f2 ∧ false = true) from fun x => absurd x.2 (by decide)), if_pos (by omega)]; rfl
       | true =>
        by_cases hf : 0 ≤ find B (cu_at C i).f2
        ·rw [if_pos (show 0 ≤ find B (cu_at C i).f2 ∧ true = true from ⟨hf, rfl⟩), decide_eq_true hf]
         by_cases ht : ftime A B (cu_at C i) < 0
         ·rw [if_pos (by unfold mx; split <;> omega), decide_eq_false (by omega)]; rfl
         ·rw [if_neg (by unfold mx; split <;> omega), decide_eq_true (by omega)]
          exact nx
        ·rw [if_neg (show ¬ (0 ≤ find B (cu_at C i).f2 ∧ true = true) from fun x => hf x.1), if_pos (by omega), decide_eq_false hf]; rfl
    exact loop C.length k 0 (by omega) (by omega) (by omega)
def fts (A : List S104) (B : List S61) (C : List S58) : List Int := C.map (ftime A B)
theorem fts_len (A : List S104) (B : List S61) (C : List S58) : (fts A B C).length = C.length := by unfold fts; rw [List.length_map]
theorem cu_get {C : List S58} {i : Nat} (hi : i < C.length) : cu_at C i = C[i] := by
 unfold cu_at
 rw [List.getD_eq_getElem?_getD, List.getElem?_eq_getElem hi]; rfl
theorem rd_fts (A : List S104) (B : List S61) {C : List S58} {i : Nat} (hi : i < C.length) : rd (fts A B C) (i : Int) = ftime A B (cu_at C i) := by
 unfold rd fts
 rw [Int.toNat_natCast, List.getD_eq_getElem?_getD, List.getElem?_map, List.getElem?_eq_getElem hi, cu_get hi]; rfl
theorem times_go {A : List S104} {B : List S61} {C : List S58} (h : isShow A B C = true) : ∀ d k i, C.length - i = d → i ≤ C.length → d + 110 ≤ k → spec_l08Times.l0 k ((C.take i).map (ftime A B)) (i : Int) A B C = some (fts A B C) ∧ impl_fireTimes.l0 k ((C.take i).map (ftime A B)) C (C.length : Int) (i : Int) A B C = some (fts A B C) := by
 obtain ⟨hA, hB, hC, hc⟩ := isShow_true h; intro d
 induction d with
 | zero =>
  intro k i hd hi hk; obtain ⟨k, rfl⟩ : ∃ m, k = m + 1 := ⟨k - 1, by omega⟩; simp only [spec_l08Times.l0, impl_fireTimes.l0]; rw [if_neg (by omega), if_neg (by omega), List.take_of_length_le (by omega)]; exact ⟨rfl, rfl⟩
 | succ d ih =>
  intro k i hd hi hk; obtain ⟨k, rfl⟩ : ∃ m, k = m + 1 := ⟨k - 1, by omega⟩; obtain ⟨a, b⟩ := ih k (i + 1) (by omega) (by omega) (by omega); obtain ⟨h1, h2, h3, h4⟩ := cueOk_true (hc i (by omega)); rw [List.take_succ_eq_append_getElem (show i < C.length by omega), List.map_append, ← cu_get (show i < C.length by omega)] at a b
  have hl : ((C.take i).map (ftime A B)).length < 17592186044416 := by rw [List.length_map, List.length_take]; omega
  have e : mx (-1) (ftime A B (cu_at C i)) = ftime A B (cu_at C i) := by unfold mx; rw [if_pos (by omega)]
  have g1 : (i : Int) < (C.length : Int) := by omega
  have g2 : 0 ≤ (i : Int) := by omega
  simp only [spec_l08Times.l0, impl_fireTimes.l0, if_pos g1, if_pos g2, rd_cue, spec_ftime hA hB C h2 h1 k (by omega), impl_ftime hA hB C (cu_at C i) k (by omega), Option.bind_some, if_pos hl]; rw [if_pos (show 0 ≤ find B (cu_at C i).f2 ∧ hasBeat A (cu_at C i).f0 (cu_at C i).f1 = true from ⟨h2, h1⟩), e, w64 (n := (i : Int) + 1) (by omega)]; exact ⟨a, b⟩
theorem times_ok {A : List S104} {B : List S61} {C : List S58} (h : isShow A B C = true) (k : Nat) (hk : 200 ≤ k) : spec_l08Times.f k A B C = some (fts A B C) ∧ impl_fireTimes.f k A B C = some (fts A B C) := by
 have hC := (isShow_true h).2.2.1; exact times_go h C.length k 0 (by omega) (by omega) (by omega)
def idxF (p : Nat → Bool) : Nat → Nat → List Int
 | _, 0 => []
 | i, d + 1 => (if p i = true then [(i : Int)] else []) ++ idxF p (i + 1) d
theorem idxF_len (p : Nat → Bool) : ∀ d i, (idxF p i d).length ≤ d
 | 0, _ => Nat.le_refl _
 | d + 1, i => by
  have := idxF_len p d (i + 1)
  unfold idxF
  rw [List.length_append]
  split
  ·rw [List.length_singleton]; omega
  ·rw [List.length_nil]; omega
theorem idxF_mem (p : Nat → Bool) : ∀ d i (x : Int), x ∈ idxF p i d ↔ ∃ j : Nat, i ≤ j ∧ j < i + d ∧ p j = true ∧ x = j
 | 0, i, x => by
  unfold idxF
  exact ⟨fun h => absurd h (List.not_mem_nil), fun ⟨j, h1, h2, _⟩ => absurd h2 (by omega)⟩
 | d + 1, i, x => by
  unfold idxF
  rw [List.mem_append, idxF_mem p d (i + 1) x]; constructor
  ·rintro (h | ⟨j, h1, h2, h3⟩)
   ·by_cases c : p i = true
    ·rw [if_pos c, List.mem_singleton] at h
     exact ⟨i, Nat.le_refl _, by omega, c, h⟩
    ·rw [if_neg c] at h
     exact absurd h (List.not_mem_nil)
   ·exact ⟨j, by omega, by omega, h3⟩
  ·rintro ⟨j, h1, h2, h3, h4⟩
   by_cases e : j = i
   ·subst e
    left
    rw [if_pos h3, h4]; exact List.mem_singleton.2 rfl
   ·exact .inr ⟨j, by omega, by omega, h3, h4⟩
theorem idx_loop {β : Type} {f : Nat → List Int → Nat → Option β} {p : Nat → Bool} {e : List Int → Option β} (n K : Nat) (hs : ∀ k X i, K ≤ k → i < n → X.length ≤ i → f (k + 1) X i = if p i = true then f k (X ++ [(i : Int)]) (i + 1) else f k X (i + 1)) (he : ∀ k X, f (k + 1) X n = e X) :
  ∀ d k i X, n - i = d → i ≤ n → X.length ≤ i → d + K < k → f k X i = e (X ++ idxF p i d) := by
 intro d
 induction d with
 | zero =>
  intro k i X hd hi hX hk; obtain ⟨k, rfl⟩ : ∃ m, k = m + 1 := ⟨k - 1, by omega⟩
  have e0 : i = n := by omega
  subst e0; rw [he]
  unfold idxF
  rw [List.append_nil]
 | succ d ih =>
  intro k i X hd hi hX hk; obtain ⟨k, rfl⟩ : ∃ m, k = m + 1 := ⟨k - 1, by omega⟩; rw [hs k X i (by omega) (by omega) hX]
  unfold idxF
  by_cases c : p i = true
  ·rw [if_pos c, if_pos c, ih k (i + 1) _ (by omega) (by omega) Zcy (by omega), List.append_assoc]
  ·rw [if_neg c, if_neg c, ih k (i + 1) _ (by omega) (by omega) (by omega) (by omega), List.nil_append]
def Frame (n0 : Nat) (A : List S104) (B : List S61) (C : List S58) : Prop := A.length ≤ 9223372036854775807 ∧ B.length ≤ 9223372036854775807 ∧ C.length ≤ 9223372036854775807 ∧ Small n0 B
theorem ss_ok {n0 : Nat} {A : List S104} {B : List S61} {C : List S58} (h : Frame n0 A B C) (k : Nat) (hk : 36893488147419103428 ≤ k) : spec_IsShow.f k A B C = some (isShow A B C) := spec_show n0 A B C h.1 h.2.1 h.2.2.1 h.2.2.2 k (by have := h.1; have := h.2.1; have := h.2.2.1; have := h.2.2.2.1; omega)
theorem si_ok {n0 : Nat} {A : List S104} {B : List S61} {C : List S58} (h : Frame n0 A B C) (k : Nat) (hk : 36893488147419103428 ≤ k) : impl_IsShow.f k A B C = some (isShow A B C) := impl_show n0 A B C h.1 h.2.1 h.2.2.1 h.2.2.2 k (by have := h.1; have := h.2.1; have := h.2.2.1; have := h.2.2.2.1; omega)
theorem cu_ok {A : List S104} {B : List S61} {C : List S58} (h : isShow A B C = true) {i : Nat} (hi : i < C.length) : hasBeat A (cu_at C i).f0 (cu_at C i).f1 = true ∧ 0 ≤ find B (cu_at C i).f2 ∧ find B (cu_at C i).f2 < (B.length : Int) ∧ 0 ≤ ftime A B (cu_at C i) ∧ ftime A B (cu_at C i) ≤ 2000000 ∧ art (arOf B (cu_at C i)) = true := by
 obtain ⟨hA, hB, hC, hc⟩ := isShow_true h; obtain ⟨h1, h2, h3, h4⟩ := cueOk_true (hc i hi); have := ftime_range hA hB h2 h1; have := arOf_ok hB h2; exact ⟨h1, h2, this.2, h4, by omega, this.1⟩
theorem rd_arOf (B : List S61) (c : S58) (h : 0 ≤ find B c.f2) : rd_T61 B (find B c.f2) = arOf B c := by
 have := rd_art B (find B c.f2).toNat; rw [show ((find B c.f2).toNat : Int) = find B c.f2 by omega] at this; exact this
theorem cue_time {A : List S104} {B : List S61} {C : List S58} (h : isShow A B C = true) {i : Nat} (hi : i < C.length) (k : Nat) (hk : 100 ≤ k) : spec_l08Time.f k A B C (cu_at C i).f0 (cu_at C i).f1 (cu_at C i).f2 (cu_at C i).f3 = some (ftime A B (cu_at C i)) ∧ impl_firedAt.f k A B C (cu_at C i).f0 (cu_at C i).f1 (cu_at C i).f2 (cu_at C i).f3 = some (ftime A B (cu_at C i)) := by
 obtain ⟨hA, hB, hC, hc⟩ := isShow_true h; obtain ⟨h1, h2, h3, h4⟩ := cueOk_true (hc i hi); refine ⟨spec_ftime hA hB C h2 h1 k hk, ?_⟩; rw [impl_ftime hA hB C _ k hk, if_pos (show 0 ≤ find B (cu_at C i).f2 ∧ hasBeat A (cu_at C i).f0 (cu_at C i).f1 = true from ⟨h2, h1⟩)]
 unfold mx
 rw [if_pos (by omega)]
theorem with_ok (A : List S104) (B : List S61) (C D : List S58) (hA : A.length ≤ 1000000) (hB : B.length ≤ 1000000) (hD : D.length ≤ 1000010) : spec_l08With.f A B C D = some (A, B, D) := by
 unfold spec_l08With.f
 simp only [Option.bind_some, List.nil_append, List.length_nil]; rw [if_pos (by omega), if_pos (by omega), if_pos (by omega)]
def addR (A : List S104) (B : List S61) (C : List S58) (c : S58) : List S104 × List S61 × List S58 × Int := if isShow A B C = true then (if (C.length : Int) = 20 then ([], [], [], 3) else (if isShow A B (C ++ [c]) = true then (A, B, C ++ [c], 0) else ([], [], [], 5))) else ([], [], [], 1)
theorem add_spec (n0 : Nat) {A : List S104} {B : List S61} {C : List S58} (hF : Frame n0 A B C) (hL : A.length ≤ 1000000 ∧ B.length ≤ 1000000 ∧ C.length ≤ 1000000) (x0 x1 : Int) (x2 : ByteArray) (x3 : Int) (k : Nat) (hk : 36893488147419103528 ≤ k) : spec_AddCue.f k A B C x0 x1 x2 x3 = some (addR A B C ⟨x0, x1, x2, x3⟩) := by
 unfold spec_AddCue.f addR
 rw [ss_ok hF k (by omega)]; simp only [Option.bind_some]
 cases h : isShow A B C with
 | false => rfl
 | true =>
  simp only [if_true]; have hC := (isShow_true h).2.2.1
  by_cases c : (C.length : Int) = 20
  ·rw [if_pos c, if_pos c]
  ·have hl : (C ++ [(⟨x0, x1, x2, x3⟩ : S58)]).length = C.length + 1 := by rw [List.length_append, List.length_singleton]
   have hF2 : Frame n0 A B (C ++ [(⟨x0, x1, x2, x3⟩ : S58)]) := ⟨hF.1, hF.2.1, by omega, hF.2.2.2⟩; rw [if_neg c, if_neg c]; simp only [Option.bind_some, List.nil_append, List.length_nil, List.length_singleton]; rw [if_pos (show 0 + C.length < 3518437208883 by omega), if_pos (show C.length + 1 < 3518437208883 by omega), with_ok A B C _ hL.1 hL.2.1 (by rw [hl]; omega)]; simp only [Option.bind_some]; rw [ss_ok hF2 k (by omega)]; simp only [Option.bind_some]
   cases isShow A B (C ++ [(⟨x0, x1, x2, x3⟩ : S58)]) <;> rfl
theorem mem_rd {α : Type} {xs : List α} {z : α} {i : Int} (h0 : 0 ≤ i) (h1 : i < (xs.length : Int)) : xs.getD i.toNat z ∈ xs := by
 rw [List.getD_eq_getElem?_getD, List.getElem?_eq_getElem (show i.toNat < xs.length by omega)]; exact List.getElem_mem _
def SmallArts (B : List S61) : Prop := ∀ x ∈ B, x.f0.size ≤ 100
theorem good_l1 {c : List Int} (hc : Code c) {A : List S104} (hA : GoodBars A) (hA1 : 1 ≤ A.length) (hA6 : A.length ≤ 6) {B : List S61} (hB : B.length ≤ 20) (hS : SmallArts B) :
  ∀ m (C : List S58), C.length + m ≤ 20 → ∀ {a s : Int}, St c a s → ∃ C' a' s', (∀ k, 36893488147419103600 + 2 * m ≤ k → spec_l08Good.l1 k (m : Int) c a s A B C = some (A, B, C', a', s')) ∧ St c a' s' ∧ C'.length ≤ 20 := by
 intro m
 induction m with
 | zero =>
  intro C hC a s h; refine ⟨C, a, s, fun k hk => ?_, h, by omega⟩; obtain ⟨k, rfl⟩ : ∃ m, k = m + 2 := ⟨k - 2, by omega⟩; simp only [spec_l08Good.l1]; rw [if_neg (by omega)]; simp only [spec_l08Good.j2]; rw [if_neg (by decide)]
 | succ m ih =>
  intro C hC a s h
  by_cases hb : (B.length : Int) > 0
  ·obtain ⟨r1, a1, s1, e1, h1, p1, q1⟩ := next_ok hc h (A.length : Int) (by omega)
   have hm := hA _ (mem_rd (z := z104) p1 (show r1 < (A.length : Int) by omega)); obtain ⟨r2, a2, s2, e2, h2, _⟩ := next_ok hc h1 (rd_T104 A r1).f0 (by unfold rd_T104; omega); obtain ⟨r3, a3, s3, e3, h3, p3, q3⟩ := next_ok hc h2 (B.length : Int) (by omega); obtain ⟨r4, a4, s4, e4, h4, _⟩ := next_ok hc h3 12 (by decide); have ha := fun k hk => add_spec 100 (A := A) (B := B) (C := C) ⟨by omega, by omega, by omega, by decide, hS⟩ ⟨by omega, by omega, by omega⟩ r1 r2 (rd_T61 B r3).f0 r4 k hk
   have hw : wrap64 (((m + 1 : Nat) : Int) - 1) = (m : Int) := by rw [w64 (by omega)]; omega
   have run : ∀ k, 36893488147419103600 + 2 * (m + 1) ≤ k + 2 → spec_l08Good.l1 (k + 2) ((m + 1 : Nat) : Int) c a s A B C = if (addR A B C ⟨r1, r2, (rd_T61 B r3).f0, r4⟩).2.2.2 = 0 then spec_l08Good.l1 k (m : Int) c a4 s4 (addR A B C ⟨r1, r2, (rd_T61 B r3).f0, r4⟩).1 (addR A B C ⟨r1, r2, (rd_T61 B r3).f0, r4⟩).2.1 (addR A B C ⟨r1, r2, (rd_T61 B r3).f0, r4⟩).2.2.1 else spec_l08Good.l1 k (m : Int) c a4 s4 A B C := by
    intro k hk; simp only [spec_l08Good.l1]; rw [if_pos (by omega)]; simp only [spec_l08Good.j2]; rw [if_pos (by rw [decide_eq_true_iff]; exact hb), e1, Option.bind_some]; dsimp only; rw [if_pos p1, if_pos (by omega), e2, Option.bind_some]; dsimp only; rw [e3, Option.bind_some]; dsimp only; rw [if_pos p3, if_pos (by omega), e4, Option.bind_some]; dsimp only; rw [ha k (by omega), Option.bind_some, hw]
   by_cases g : isShow A B C = true ∧ ¬ (C.length : Int) = 20 ∧ isShow A B (C ++ [⟨r1, r2, (rd_T61 B r3).f0, r4⟩]) = true
   ·have hR : addR A B C ⟨r1, r2, (rd_T61 B r3).f0, r4⟩ = (A, B, C ++ [⟨r1, r2, (rd_T61 B r3).f0, r4⟩], 0) := by
     unfold addR; rw [if_pos g.1, if_neg g.2.1, if_pos g.2.2]
    obtain ⟨C', a', s', e, hs, hl⟩ := ih (C ++ [⟨r1, r2, (rd_T61 B r3).f0, r4⟩]) Zcy h4; refine ⟨C', a', s', fun k hk => ?_, hs, hl⟩; obtain ⟨k, rfl⟩ : ∃ m, k = m + 2 := ⟨k - 2, by omega⟩; rw [run k hk, hR, if_pos rfl]; exact e k (by omega)
   ·have hR : (addR A B C ⟨r1, r2, (rd_T61 B r3).f0, r4⟩).2.2.2 ≠ 0 := by
     unfold addR
     by_cases g1 : isShow A B C = true
     ·rw [if_pos g1]
      by_cases g2 : (C.length : Int) = 20
      ·rw [if_pos g2]; decide
      ·rw [if_neg g2, if_neg (fun g3 => g ⟨g1, g2, g3⟩)]; decide
     ·rw [if_neg g1]; decide
    obtain ⟨C', a', s', e, hs, hl⟩ := ih C (by omega) h4; refine ⟨C', a', s', fun k hk => ?_, hs, hl⟩; obtain ⟨k, rfl⟩ : ∃ m, k = m + 2 := ⟨k - 2, by omega⟩; rw [run k hk, if_neg hR]; exact e k (by omega)
  ·refine ⟨C, a, s, fun k hk => ?_, h, by omega⟩
   obtain ⟨k, rfl⟩ : ∃ m, k = m + 2 := ⟨k - 2, by omega⟩; simp only [spec_l08Good.l1]; rw [if_pos (by omega)]; simp only [spec_l08Good.j2]; rw [if_neg (by rw [decide_eq_true_iff]; exact hb)]
theorem good_l0 {c : List Int} (hc : Code c) {A : List S104} (hA : GoodBars A) (hA1 : 1 ≤ A.length) (hA6 : A.length ≤ 6) {nm : List ByteArray} (hn : ∀ x ∈ nm, x.size ≤ 100) (hn6 : nm.length ≤ 6) :
  ∀ d i (B : List S61), nm.length - i = d → i ≤ nm.length → B.length + d ≤ 20 → SmallArts B → ∀ {a s : Int}, St c a s → ∃ B' C' a' s', (∀ k, 36893488147419104000 + d ≤ k → spec_l08Good.l0 k nm (i : Int) c a s A B [] = some (A, B', C', a', s')) ∧ St c a' s' ∧ B'.length ≤ 20 ∧ SmallArts B' ∧ C'.length ≤ 20 := by
 intro d
 induction d with
 | zero =>
  intro i B hd hi hB hS a s h; obtain ⟨r, a1, s1, e1, h1, p1, q1⟩ := next_ok hc h 9 (by decide); obtain ⟨C', a', s', e, hs, hl⟩ := good_l1 hc hA hA1 hA6 (B := B) (by omega) hS r.toNat [] (by simp only [List.length_nil]; omega) h1; refine ⟨B, C', a', s', fun k hk => ?_, hs, by omega, hS, hl⟩; obtain ⟨k, rfl⟩ : ∃ m, k = m + 1 := ⟨k - 1, by omega⟩; simp only [spec_l08Good.l0]; rw [if_neg (by omega), e1, Option.bind_some]; dsimp only; have := e k (by omega); rw [show ((r.toNat : Nat) : Int) = r by omega] at this; exact this
 | succ d ih =>
  intro i B hd hi hB hS a s h; obtain ⟨r, a1, s1, e1, h1, p1, q1⟩ := next_ok hc h 3 (by decide)
  have hw : wrap64 ((i : Int) + 1) = ((i + 1 : Nat) : Int) := by rw [w64 (by omega)]; omega
  by_cases g : r > 0
  ·obtain ⟨q2, q3, q4, q5, q6, q7, q8, q9, a2, s2, e2, h2⟩ := good_art hc h1 (rdOf ByteArray.empty nm (i : Int))
   have hz : (rdOf ByteArray.empty nm (i : Int)).size ≤ 100 := hn _ (by unfold rdOf; exact mem_rd (by omega) (by omega))
   obtain ⟨B', C', a', s', e, hs, hb, hS', hl⟩ := ih (i + 1) (B ++ [⟨rdOf ByteArray.empty nm (i : Int), q2, q3, Int.tmod q4 3000, mn q5 (Int.tmod q4 3000), q6, q7, q8, q9⟩]) (by omega) (by omega) Zcy (fun x hx => by
    rcases List.mem_append.mp hx with y | y
    ·exact hS x y
    ·rw [List.mem_singleton] at y; subst y; exact hz) h2
   refine ⟨B', C', a', s', fun k hk => ?_, hs, hb, hS', hl⟩; obtain ⟨k, rfl⟩ : ∃ m, k = m + 1 := ⟨k - 1, by omega⟩; simp only [spec_l08Good.l0]; rw [if_pos (by omega), e1, Option.bind_some]; dsimp only; rw [if_pos g, if_pos (by omega), e2, Option.bind_some]; dsimp only; rw [if_pos (by omega), hw]; exact e k (by omega)
  ·obtain ⟨B', C', a', s', e, hs, hb, hS', hl⟩ := ih (i + 1) B (by omega) (by omega) (by omega) hS h1
   refine ⟨B', C', a', s', fun k hk => ?_, hs, hb, hS', hl⟩; obtain ⟨k, rfl⟩ : ∃ m, k = m + 1 := ⟨k - 1, by omega⟩; simp only [spec_l08Good.l0]; rw [if_pos (by omega), e1, Option.bind_some]; dsimp only; rw [if_neg g, hw]; exact e k (by omega)
theorem good_show {c : List Int} (hc : Code c) {a s : Int} (h : St c a s) : ∃ A B C a' s', (∀ k, 36893488147419104010 ≤ k → spec_l08Good.f k c a s = some (A, B, C, a', s')) ∧ St c a' s' ∧ 1 ≤ A.length ∧ A.length ≤ 6 ∧ B.length ≤ 20 ∧ SmallArts B ∧ C.length ≤ 20 := by
 obtain ⟨A, a1, s1, e1, h1, hA1, hA6, hA⟩ := score_good hc h; obtain ⟨nm, en, hn, hn6⟩ : ∃ nm, spec_l03Names.f = some nm ∧ (∀ x ∈ nm, x.size ≤ 100) ∧ nm.length ≤ 6 := ⟨_, rfl, by decide, by decide⟩; obtain ⟨B, C, a', s', e, hs, hb, hS, hl⟩ := good_l0 hc hA hA1 hA6 hn hn6 nm.length 0 [] (by omega) (by omega) (by simp only [List.length_nil]; omega) (fun x hx => by simp at hx) h1; refine ⟨A, B, C, a', s', fun k hk => ?_, hs, hA1, hA6, hb, hS, hl⟩
 unfold spec_l08Good.f
 rw [e1 k (by omega), Option.bind_some]; dsimp only; rw [en, Option.bind_some]; exact e k (by omega)
theorem draw_art {c : List Int} (hc : Code c) {a s : Int} (h : St c a s) (nm : ByteArray) (hn : nm.size ≤ 100) (hW : ∀ {a s : Int}, St c a s → ∃ w a' s', spec_l01DrawWord.f c a s = some (w, a', s') ∧ St c a' s' ∧ w.size ≤ 100) : ∃ q1 q2 q3 q4 q5 q6 q7 q8 q9 a' s', spec_l03Draw.f c a s nm = some (q1, q2, q3, q4, q5, q6, q7, q8, q9, a', s') ∧ St c a' s' ∧ q1.size ≤ 100 := by
 obtain ⟨q2, q3, q4, q5, q6, q7, q8, q9, a1, s1, e1, h1⟩ := good_art hc h nm; obtain ⟨r, a2, s2, e2, h2, _⟩ := next_ok hc h1 60 (by decide)
 unfold spec_l03Draw.f
 rw [e1, Option.bind_some]; dsimp only; rw [e2, Option.bind_some]; dsimp only
 by_cases g0 : r = 0
 ·obtain ⟨p, a3, s3, e3, h3, _⟩ := pick_ok hc h2 [19, 20, 300, 301] (by simp) (by simp)
  rw [if_pos g0, e3, Option.bind_some]; exact ⟨_, _, _, _, _, _, _, _, _, _, _, rfl, h3, hn⟩
 rw [if_neg g0]
 by_cases g1 : r = 1
 ·obtain ⟨p, a3, s3, e3, h3, _⟩ := pick_ok hc h2 [q4, wrap64 (q4 + 1), (-1)] (by simp) (by simp)
  rw [if_pos g1, e3, Option.bind_some]; exact ⟨_, _, _, _, _, _, _, _, _, _, _, rfl, h3, hn⟩
 rw [if_neg g1]
 by_cases g2 : r = 2
 ·obtain ⟨p, a3, s3, e3, h3, _⟩ := pick_ok hc h2 [0, 50, 51] (by simp) (by simp)
  rw [if_pos g2, e3, Option.bind_some]; exact ⟨_, _, _, _, _, _, _, _, _, _, _, rfl, h3, hn⟩
 rw [if_neg g2]
 by_cases g3 : r = 3
 ·obtain ⟨w, a3, s3, e3, h3, hw⟩ := hW h2
  rw [if_pos g3, e3, Option.bind_some]; exact ⟨_, _, _, _, _, _, _, _, _, _, _, rfl, h3, hw⟩
 rw [if_neg g3]
 by_cases g4 : r = 4
 ·obtain ⟨p, a3, s3, e3, h3, _⟩ := pick_ok hc h2 [0, 100000, 100001] (by simp) (by simp)
  rw [if_pos g4, e3, Option.bind_some]; exact ⟨_, _, _, _, _, _, _, _, _, _, _, rfl, h3, hn⟩
 rw [if_neg g4]; exact ⟨_, _, _, _, _, _, _, _, _, _, _, rfl, h2, hn⟩
theorem word_key {c : List Int} (hc : Code c) {a s : Int} (h : St c a s) (n : Int) (hn : n ≤ 100) (L : List ByteArray) (hL : ∀ x ∈ L, x.size ≤ 100) (hl : (L.length : Int) = n) (h1 : 1 ≤ n) :
  ∃ w a' s', ((some L).bind fun y => (spec_l01Next.f c a s n).bind fun bt => (if 0 ≤ bt.1 then (if bt.1 < (y.length : Int) then (some (rdOf ByteArray.empty y bt.1, bt.2.1, bt.2.2)) else (none)) else (none))) = some (w, a', s') ∧ St c a' s' ∧ w.size ≤ 100 := by
 obtain ⟨r, a1, s1, e1, h2, p1, q1⟩ := next_ok hc h n (by omega); rw [Option.bind_some, e1, Option.bind_some]; dsimp only; rw [if_pos p1, if_pos (by omega)]; exact ⟨_, _, _, rfl, h2, hL _ (by unfold rdOf; exact mem_rd p1 (by omega))⟩
theorem word_draw {c : List Int} (hc : Code c) {a s : Int} (h : St c a s) : ∃ w a' s', spec_l01DrawWord.f c a s = some (w, a', s') ∧ St c a' s' ∧ w.size ≤ 100 := by
 obtain ⟨r, a1, s1, e1, h1, _⟩ := next_ok hc h 24 (by decide)
 unfold spec_l01DrawWord.f
 rw [e1, Option.bind_some]; dsimp only
 by_cases g : r = 0
 ·rw [if_pos g]
  exact word_key hc h1 6 (by decide) _ (by decide) rfl (by decide)
 ·rw [if_neg g]
  obtain ⟨w, a2, s2, e2, h2, hw⟩ : ∃ w a' s', spec_l01Good.f c a1 s1 = some (w, a', s') ∧ St c a' s' ∧ w.size ≤ 100 := by
   unfold spec_l01Good.f
   exact word_key hc h1 12 (by decide) _ (by decide) rfl (by decide)
  rw [e2, Option.bind_some]; exact ⟨w, a2, s2, rfl, h2, hw⟩
theorem draw_loop {c : List Int} (hc : Code c) (A : List S104) (B : List S61) (q : S58) : ∀ d (C : List S58), 30 - C.length = d → C.length ≤ 30 → ∀ {a s : Int}, St c a s → ∃ C' a' s', (∀ k, d + 2 ≤ k → spec_l08Draw.l0 k c a s A B C q.f0 q.f1 q.f2 q.f3 = some (A, B, C', a', s')) ∧ St c a' s' ∧ C'.length ≤ 30 := by
 intro d
 induction d with
 | zero =>
  intro C hd hC a s h; obtain ⟨r, a1, s1, e1, h1, p1, q1⟩ := next_ok hc h 2 (by decide); refine ⟨C, a1, s1, fun k hk => ?_, h1, hC⟩; obtain ⟨k, rfl⟩ : ∃ m, k = m + 1 := ⟨k - 1, by omega⟩; simp only [spec_l08Draw.l0]; rw [e1, Option.bind_some]; dsimp only; rw [w64 (by omega), if_neg (by omega)]
 | succ d ih =>
  intro C hd hC a s h; obtain ⟨r, a1, s1, e1, h1, p1, q1⟩ := next_ok hc h 2 (by decide)
  by_cases g : (C.length : Int) < 20 + r
  ·obtain ⟨C', a', s', e, hs, hl⟩ := ih (C ++ [⟨q.f0, q.f1, q.f2, q.f3⟩]) Zcy Zcy h1
   refine ⟨C', a', s', fun k hk => ?_, hs, hl⟩; obtain ⟨k, rfl⟩ : ∃ m, k = m + 1 := ⟨k - 1, by omega⟩; simp only [spec_l08Draw.l0]; rw [e1, Option.bind_some]; dsimp only; rw [w64 (by omega), if_pos g, if_pos (by omega)]; exact e k (by omega)
  ·refine ⟨C, a1, s1, fun k hk => ?_, h1, hC⟩
   obtain ⟨k, rfl⟩ : ∃ m, k = m + 1 := ⟨k - 1, by omega⟩; simp only [spec_l08Draw.l0]; rw [e1, Option.bind_some]; dsimp only; rw [w64 (by omega), if_neg g]
theorem small_snoc {B : List S61} (hB : SmallArts B) {x : S61} (hx : x.f0.size ≤ 100) : SmallArts (B ++ [x]) := fun y hy => by
 rcases List.mem_append.mp hy with z | z
 ·exact hB y z
 ·rw [List.mem_singleton] at z; subst z; exact hx
theorem list_l1 {c : List Int} (hc : Code c) : ∀ d (i : Nat) (B : List S61), 14 - i = d → i ≤ 14 → B.length + d ≤ 60 → SmallArts B → ∀ {a s : Int}, St c a s → ∃ B' a' s', (∀ k, d + 2 ≤ k → spec_l03List.l1 k B (i : Int) c a s = some (B', a', s')) ∧ St c a' s' ∧ B'.length ≤ 60 ∧ SmallArts B' := by
 intro d
 induction d with
 | zero =>
  intro i B hd hi hB hS a s h; obtain ⟨r, a1, s1, e1, h1, p1, q1⟩ := next_ok hc h 2 (by decide); refine ⟨B, a1, s1, fun k hk => ?_, h1, by omega, hS⟩; obtain ⟨k, rfl⟩ : ∃ m, k = m + 1 := ⟨k - 1, by omega⟩; simp only [spec_l03List.l1]; rw [e1, Option.bind_some]; dsimp only
  by_cases g : (B.length : Int) < wrap64 (12 + r)
  ·rw [if_pos g, if_neg (by omega)]
  ·rw [if_neg g]
 | succ d ih =>
  intro i B hd hi hB hS a s h; obtain ⟨r, a1, s1, e1, h1, p1, q1⟩ := next_ok hc h 2 (by decide)
  by_cases g : (B.length : Int) < wrap64 (12 + r)
  ·have hw : wrap64 ((i : Int) + 1) = ((i + 1 : Nat) : Int) := by rw [w64 (by omega)]; omega
   have hz : ((⟨#[97, 98, 99, 100, 101, 102, 103, 104, 105, 106, 107, 108, 109, 110]⟩ : ByteArray).extract (i : Int).toNat ((i + 1 : Nat) : Int).toNat).size ≤ 14 := by
    rw [ByteArray.size_extract]; have : (⟨#[97, 98, 99, 100, 101, 102, 103, 104, 105, 106, 107, 108, 109, 110]⟩ : ByteArray).size = 14 := rfl
    omega
   obtain ⟨q2, q3, q4, q5, q6, q7, q8, q9, a2, s2, e2, h2⟩ := good_art hc h1 ((⟨#[120]⟩ : ByteArray) ++ ((⟨#[97, 98, 99, 100, 101, 102, 103, 104, 105, 106, 107, 108, 109, 110]⟩ : ByteArray).extract (i : Int).toNat ((i + 1 : Nat) : Int).toNat))
   have hx : ((⟨#[120]⟩ : ByteArray) ++ ((⟨#[97, 98, 99, 100, 101, 102, 103, 104, 105, 106, 107, 108, 109, 110]⟩ : ByteArray).extract (i : Int).toNat ((i + 1 : Nat) : Int).toNat)).size ≤ 100 := by
    rw [ByteArray.size_append]; have : (⟨#[120]⟩ : ByteArray).size = 1 := rfl
    omega
   obtain ⟨B', a', s', e, hs, hl, hS'⟩ := ih (i + 1) (B ++ [⟨_, q2, q3, q4, q5, q6, q7, q8, q9⟩]) (by omega) (by omega) Zcy (small_snoc hS hx) h2; refine ⟨B', a', s', fun k hk => ?_, hs, hl, hS'⟩; obtain ⟨k, rfl⟩ : ∃ m, k = m + 1 := ⟨k - 1, by omega⟩; simp only [spec_l03List.l1]; rw [e1, Option.bind_some]; dsimp only; rw [if_pos g, hw, if_pos (by omega), if_pos (by omega), if_pos (by omega), if_pos (by omega), if_pos (by omega), e2, Option.bind_some]; dsimp only; rw [if_pos (by omega)]; exact e k (by omega)
  ·refine ⟨B, a1, s1, fun k hk => ?_, h1, by omega, hS⟩
   obtain ⟨k, rfl⟩ : ∃ m, k = m + 1 := ⟨k - 1, by omega⟩; simp only [spec_l03List.l1]; rw [e1, Option.bind_some]; dsimp only; rw [if_neg g]
theorem list_l0 {c : List Int} (hc : Code c) {nm : List ByteArray} (hn : ∀ x ∈ nm, x.size ≤ 100) (hn6 : nm.length ≤ 6) : ∀ d (i : Nat) (B : List S61), nm.length - i = d → i ≤ nm.length → B.length + d ≤ 40 → SmallArts B → ∀ {a s : Int}, St c a s → ∃ B' a' s', (∀ k, d + 30 ≤ k → spec_l03List.l0 k B nm (i : Int) c a s = some (B', a', s')) ∧ St c a' s' ∧ B'.length ≤ 60 ∧ SmallArts B' := by
 intro d
 induction d with
 | zero =>
  intro i B hd hi hB hS a s h; obtain ⟨r, a1, s1, e1, h1, p1, q1⟩ := next_ok hc h 30 (by decide)
  by_cases g0 : r = 0
  ·obtain ⟨q2, q3, q4, q5, q6, q7, q8, q9, a2, s2, e2, h2⟩ := good_art hc h1 (⟨#[97, 115, 116, 101, 114]⟩ : ByteArray)
   refine ⟨B ++ [⟨_, q2, q3, q4, q5, q6, q7, q8, q9⟩], a2, s2, fun k hk => ?_, h2, Zcy, small_snoc hS (show (⟨#[97, 115, 116, 101, 114]⟩ : ByteArray).size ≤ 100 by decide)⟩; obtain ⟨k, rfl⟩ : ∃ m, k = m + 1 := ⟨k - 1, by omega⟩; simp only [spec_l03List.l0]; rw [if_neg (by omega), e1, Option.bind_some]; dsimp only; rw [if_pos g0, e2, Option.bind_some]; dsimp only; rw [if_pos (by omega)]
  ·by_cases g1 : r = 1
   ·obtain ⟨B', a', s', e, hs, hl, hS'⟩ := list_l1 hc 14 0 B (by omega) (by omega) (by omega) hS h1
    refine ⟨B', a', s', fun k hk => ?_, hs, hl, hS'⟩; obtain ⟨k, rfl⟩ : ∃ m, k = m + 1 := ⟨k - 1, by omega⟩; simp only [spec_l03List.l0]; rw [if_neg (by omega), e1, Option.bind_some]; dsimp only; rw [if_neg g0, if_pos g1]; exact e k (by omega)
   ·refine ⟨B, a1, s1, fun k hk => ?_, h1, by omega, hS⟩
    obtain ⟨k, rfl⟩ : ∃ m, k = m + 1 := ⟨k - 1, by omega⟩; simp only [spec_l03List.l0]; rw [if_neg (by omega), e1, Option.bind_some]; dsimp only; rw [if_neg g0, if_neg g1]
 | succ d ih =>
  intro i B hd hi hB hS a s h; obtain ⟨r, a1, s1, e1, h1, p1, q1⟩ := next_ok hc h 3 (by decide)
  have hw : wrap64 ((i : Int) + 1) = ((i + 1 : Nat) : Int) := by rw [w64 (by omega)]; omega
  by_cases g : r > 0
  ·have hz : (rdOf ByteArray.empty nm (i : Int)).size ≤ 100 := hn _ (by unfold rdOf; exact mem_rd (by omega) (by omega))
   obtain ⟨q1_, q2, q3, q4, q5, q6, q7, q8, q9, a2, s2, e2, h2, hx⟩ := draw_art hc h1 (rdOf ByteArray.empty nm (i : Int)) hz (fun h => word_draw hc h); obtain ⟨B', a', s', e, hs, hb, hS'⟩ := ih (i + 1) (B ++ [⟨q1_, q2, q3, q4, q5, q6, q7, q8, q9⟩]) (by omega) (by omega) Zcy (small_snoc hS hx) h2; refine ⟨B', a', s', fun k hk => ?_, hs, hb, hS'⟩; obtain ⟨k, rfl⟩ : ∃ m, k = m + 1 := ⟨k - 1, by omega⟩; simp only [spec_l03List.l0]; rw [if_pos (by omega), e1, Option.bind_some]; dsimp only; rw [if_pos g, if_pos (by omega), e2, Option.bind_some]; dsimp only; rw [if_pos (by omega), hw]; exact e k (by omega)
  ·obtain ⟨B', a', s', e, hs, hb, hS'⟩ := ih (i + 1) B (by omega) (by omega) (by omega) hS h1
   refine ⟨B', a', s', fun k hk => ?_, hs, hb, hS'⟩; obtain ⟨k, rfl⟩ : ∃ m, k = m + 1 := ⟨k - 1, by omega⟩; simp only [spec_l03List.l0]; rw [if_pos (by omega), e1, Option.bind_some]; dsimp only; rw [if_neg g, hw]; exact e k (by omega)
theorem list_draw {c : List Int} (hc : Code c) {a s : Int} (h : St c a s) : ∃ B a' s', (∀ k, 40 ≤ k → spec_l03List.f k c a s = some (B, a', s')) ∧ St c a' s' ∧ B.length ≤ 60 ∧ SmallArts B := by
 obtain ⟨nm, en, hn, hn6⟩ : ∃ nm, spec_l03Names.f = some nm ∧ (∀ x ∈ nm, x.size ≤ 100) ∧ nm.length ≤ 6 := ⟨_, rfl, by decide, by decide⟩; obtain ⟨B, a', s', e, hs, hb, hS⟩ := list_l0 hc hn hn6 nm.length 0 [] (by omega) (by omega) (by simp only [List.length_nil]; omega) (fun x hx => by simp at hx) h; refine ⟨B, a', s', fun k hk => ?_, hs, hb, hS⟩
 unfold spec_l03List.f
 rw [en, Option.bind_some]; exact e k (by omega)
theorem show_draw {c : List Int} (hc : Code c) {a s : Int} (h : St c a s) : ∃ A B C a' s', (∀ k, 36893488147419104010 ≤ k → spec_l08Draw.f k c a s = some (A, B, C, a', s')) ∧ St c a' s' ∧ A.length ≤ 60 ∧ B.length ≤ 60 ∧ SmallArts B ∧ C.length ≤ 60 := by
 obtain ⟨A, B, C, a1, s1, e1, h1, hA1, hA6, hB, hS, hC⟩ := good_show hc h; obtain ⟨r, a2, s2, e2, h2, _⟩ := next_ok hc h1 40 (by decide)
 by_cases g0 : r = 0
 ·obtain ⟨A', a3, s3, e3, h3, hl⟩ := score_draw hc h2
  refine ⟨A', B, C, a3, s3, fun k hk => ?_, h3, by omega, by omega, hS, by omega⟩
  unfold spec_l08Draw.f
  rw [e1 k hk, Option.bind_some]; dsimp only; rw [e2, Option.bind_some]; dsimp only; rw [if_pos g0, e3 k (by omega), Option.bind_some]
 by_cases g1 : r = 1
 ·obtain ⟨B', a3, s3, e3, h3, hl, hS'⟩ := list_draw hc h2
  refine ⟨A, B', C, a3, s3, fun k hk => ?_, h3, by omega, by omega, hS', by omega⟩
  unfold spec_l08Draw.f
  rw [e1 k hk, Option.bind_some]; dsimp only; rw [e2, Option.bind_some]; dsimp only; rw [if_neg g0, if_pos g1, e3 k (by omega), Option.bind_some]
 by_cases g2 : r = 2
 ·obtain ⟨r3, a3, s3, e3, h3, _⟩ := next_ok hc h2 8 (by decide)
  obtain ⟨r4, a4, s4, e4, h4, _⟩ := next_ok hc h3 5 (by decide); obtain ⟨r5, a5, s5, e5, h5, _⟩ := next_ok hc h4 14 (by decide); refine ⟨A, B, C ++ [⟨wrap64 (r3 - 1), r4, (⟨#[112, 101, 111, 110, 121]⟩ : ByteArray), wrap64 (r5 - 1)⟩], a5, s5, fun k hk => ?_, h5, by omega, by omega, hS, Zcy⟩
  unfold spec_l08Draw.f
  rw [e1 k hk, Option.bind_some]; dsimp only; rw [e2, Option.bind_some]; dsimp only; rw [if_neg g0, if_neg g1, if_pos g2, e3, Option.bind_some]; dsimp only; rw [e4, Option.bind_some]; dsimp only; rw [e5, Option.bind_some]; dsimp only; rw [if_pos (by omega)]
 by_cases g3 : r = 3
 ·by_cases g4 : (C.length : Int) > 0
  ·obtain ⟨C', a3, s3, e3, h3, hl⟩ := draw_loop hc A B (rd_T58 C 0) (30 - C.length) C rfl (by omega) h2
   refine ⟨A, B, C', a3, s3, fun k hk => ?_, h3, by omega, by omega, hS, by omega⟩
   unfold spec_l08Draw.f
   rw [e1 k hk, Option.bind_some]; dsimp only; rw [e2, Option.bind_some]; dsimp only; rw [if_neg g0, if_neg g1, if_neg g2, if_pos g3, if_pos g4, if_pos (by omega)]; exact e3 k (by omega)
  ·refine ⟨A, B, C, a2, s2, fun k hk => ?_, h2, by omega, by omega, hS, by omega⟩
   unfold spec_l08Draw.f
   rw [e1 k hk, Option.bind_some]; dsimp only; rw [e2, Option.bind_some]; dsimp only; rw [if_neg g0, if_neg g1, if_neg g2, if_pos g3, if_neg g4]
 ·refine ⟨A, B, C, a2, s2, fun k hk => ?_, h2, by omega, by omega, hS, by omega⟩
  unfold spec_l08Draw.f
  rw [e1 k hk, Option.bind_some]; dsimp only; rw [e2, Option.bind_some]; dsimp only; rw [if_neg g0, if_neg g1, if_neg g2, if_neg g3]
theorem has_int_s (X : List Int) (hX : X.length ≤ 4000000) (a : Int) (k : Nat) (hk : X.length < k) : laws_hasInt.f k X a = some (decide (a ∈ X)) := by
 have loop : ∀ d i k, X.length - i = d → i ≤ X.length → d < k → laws_hasInt.l0 k X a (i : Int) = some (decide (a ∈ X.drop i)) := by
  intro d
  induction d with
  | zero =>
   intro i k hd hi hk; obtain ⟨k, rfl⟩ : ∃ m, k = m + 1 := ⟨k - 1, by omega⟩; simp only [laws_hasInt.l0]; rw [if_neg (by omega), List.drop_eq_nil_of_le (by omega)]
   rfl
  | succ d ih =>
   intro i k hd hi hk; obtain ⟨k, rfl⟩ : ∃ m, k = m + 1 := ⟨k - 1, by omega⟩
   have hlt : i < X.length := by omega
   have e : X.drop i = rd X (i : Int) :: X.drop (i + 1) := by
    rw [List.drop_eq_getElem_cons hlt]
    unfold rd
    rw [Int.toNat_natCast, List.getD_eq_getElem?_getD, List.getElem?_eq_getElem hlt]
    rfl
   simp only [laws_hasInt.l0]; rw [if_pos (by omega), if_pos (by omega), w64 (n := (i : Int) + 1) (by omega), e]
   by_cases c : rd X (i : Int) = a
   ·rw [if_pos c, decide_eq_true (List.mem_cons.2 (.inl c.symm))]
   ·rw [if_neg c]
    refine (ih (i + 1) k (by omega) (by omega) (by omega)).trans ?_
    congr 1
    rw [Bool.eq_iff_iff, decide_eq_true_iff, decide_eq_true_iff, List.mem_cons]; exact ⟨fun x => .inr x, fun x => x.elim (fun y => absurd y.symm c) id⟩
 unfold laws_hasInt.f
 exact loop X.length 0 k (by omega) (by omega) hk
theorem like_ints_s (X : List Int) (hX : X.length ≤ 4000000) (k : Nat) (hk : X.length < k) : laws_likeInts.f k X X = some true := by
 have loop : ∀ d i k, X.length - i = d → i ≤ X.length → d < k → laws_likeInts.l0 k X X (i : Int) = some true := by
  intro d
  induction d with
  | zero =>
   intro i k hd hi hk; obtain ⟨k, rfl⟩ : ∃ m, k = m + 1 := ⟨k - 1, by omega⟩; simp only [laws_likeInts.l0]; rw [if_neg (by omega)]
  | succ d ih =>
   intro i k hd hi hk; obtain ⟨k, rfl⟩ : ∃ m, k = m + 1 := ⟨k - 1, by omega⟩; simp only [laws_likeInts.l0]; rw [if_pos (by omega), if_pos (by omega), if_pos (by omega), if_pos trivial, w64 (by omega)]; exact ih (i + 1) k (by omega) (by omega) (by omega)
 unfold laws_likeInts.f
 rw [if_pos rfl]; exact loop X.length 0 k (by omega) (by omega) hk
theorem Ti_impl (a : Int) : impl_isTime.f a = some (inB a 0 10000000) := by
 unfold impl_isTime.f
 simp only [Wi_eq, Option.bind_some]
theorem Ti_spec (a : Int) : spec_l01IsTime.f a = some (inB a 0 10000000) := by
 unfold spec_l01IsTime.f
 simp only [In_eq, Option.bind_some]
def firedP (T : List Int) (t : Int) (i : Nat) : Bool := decide (rd T (i : Int) = t)
def firedR (A : List S104) (B : List S61) (C : List S58) (t : Int) : List Int × Int := if isShow A B C = true then (if inB t 0 10000000 = true then (idxF (firedP (fts A B C) t) 0 C.length, 0) else ([], 2)) else ([], 1)
theorem fired_ok (n0 : Nat) {A : List S104} {B : List S61} {C : List S58} (hF : Frame n0 A B C) (t : Int) (k : Nat) (hk : 36893488147419103528 ≤ k) : spec_FiredAt.f k A B C t = some (firedR A B C t) ∧ impl_FiredAt.f k A B C t = some (firedR A B C t) := by
 unfold spec_FiredAt.f impl_FiredAt.f firedR
 rw [ss_ok hF k (by omega), si_ok hF k (by omega)]; simp only [Option.bind_some, Ti_spec, Ti_impl]
 cases h : isShow A B C with
 | false => exact ⟨rfl, rfl⟩
 | true =>
  simp only [if_true]
  cases g : inB t 0 10000000 with
  | false => exact ⟨rfl, rfl⟩
  | true =>
   simp only [if_true]; have gt := inB_true.1 g; have hC := (isShow_true h).2.2.1; have hl := fts_len A B C; rw [(times_ok h k (by omega)).1, (times_ok h k (by omega)).2, w64 (n := t + 1) (by omega), ← hl]; simp only [Option.bind_some]; generalize fts A B C = T at hl ⊢; constructor
   ·have e : spec_l08Between.f k T t (t + 1) = some ([] ++ idxF (firedP T t) 0 T.length) := by
     refine idx_loop (f := fun k X i => spec_l08Between.l0 k T t (t + 1) X (i : Int)) (p := firedP T t) (e := fun X => some X) T.length 1 (fun k X i hk hi hX => ?_) (fun k X => ?_) T.length k 0 [] (by omega) (by omega) (by simp) (by omega)
     ·show spec_l08Between.l0 (k + 1) T t (t + 1) X (i : Int) = _
      simp only [spec_l08Between.l0]; rw [if_pos (by omega), if_pos (by omega), w64 (n := (i : Int) + 1) (by omega), if_pos (show X.length < 17592186044416 by omega)]
      unfold firedP
      by_cases c : rd T (i : Int) = t
      ·rw [if_pos (show rd T (i : Int) ≥ t by omega), if_pos (show rd T (i : Int) < t + 1 by omega), if_pos (decide_eq_true c)]; rfl
      ·rw [if_neg (show ¬ decide (rd T (i : Int) = t) = true by rw [decide_eq_false c]; decide)]
       by_cases c2 : rd T (i : Int) ≥ t
       ·rw [if_pos c2, if_neg (by omega)]; rfl
       ·rw [if_neg c2]; rfl
     ·show spec_l08Between.l0 (k + 1) T t (t + 1) X (T.length : Int) = _
      simp only [spec_l08Between.l0]; rw [if_neg (by omega)]
    rw [e]; rfl
   ·refine idx_loop (f := fun k X i => impl_FiredAt.l0 k t X T (T.length : Int) (i : Int)) (p := firedP T t) (e := fun X => some (X, 0)) T.length 1 (fun k X i hk hi hX => ?_) (fun k X => ?_) T.length k 0 [] (by omega) (by omega) (by simp) (by omega)
    ·show impl_FiredAt.l0 (k + 1) t X T (T.length : Int) (i : Int) = _
     simp only [impl_FiredAt.l0]; rw [if_pos (by omega), if_pos (by omega), if_pos (by omega), w64 (n := (i : Int) + 1) (by omega), if_pos (show X.length < 17592186044416 by omega)]
     unfold firedP
     by_cases c : rd T (i : Int) = t
     ·rw [if_pos c, if_pos (decide_eq_true c)]; rfl
     ·rw [if_neg c, if_neg (by rw [decide_eq_false c]; decide)]; rfl
    ·show impl_FiredAt.l0 (k + 1) t X T (T.length : Int) (T.length : Int) = _
     simp only [impl_FiredAt.l0]; rw [if_neg (by omega)]
theorem firedR_len {A : List S104} {B : List S61} {C : List S58} {t : Int} (hC : C.length ≤ 1000000) : (firedR A B C t).1.length ≤ 3000000 := by
 unfold firedR
 split
 ·split
  ·have := idxF_len (firedP (fts A B C) t) C.length 0
   show (idxF (firedP (fts A B C) t) 0 C.length).length ≤ _
   omega
  ·simp
 ·simp
end Go.Proofs.Ytmnnbmdfepogiaa.F
