import Derived.Test.YtmnnbmdfepogiaaJFnShows2
import Derived.Below
import Derived.Deep.Draws
import Derived.Deep.AppendLies
import Derived.Maps.AppendAt
import Derived.OwnWalk
import Derived.Laws.BytesArg
import Derived.Laws.MakeOwn
import Derived.Laws.OwnMore
import Derived.Tactics
import Derived.Lib.ConvBytes
import Derived.Laws.Slices
import Derived.WalkKit
import Derived.KernelRfl
import Derived.RowKit3
import Derived.Deep.LoopGhost
import Derived.Deep.QuietTactic
import Derived.BigQuiet
import Derived.WideLaws
import Derived.Deep.DeepCutAuto
import Derived.Deep.CutBlock
import Derived.Deep.RegionHeld3
import Derived.Lib.AppendStr
import Derived.ArgAppend
import Derived.Laws.IdiomCopy
import Derived.RowKit
import Derived.OrdersHeld
import Derived.Laws.BitsLemmas
import Derived.Laws.StructEq
import Derived.Test.YtmnnbmdfepogiaaProg
import Derived.Laws.Cover1
namespace Go.Proofs.Ytmnnbmdfepogiaa.F
open Go.RowKit Go.Proofs.YtmnnbmdfepogiaaW.PrintWords Go.Proofs.YtmnnbmdfepogiaaW.PrintLast Go.Proofs.YtmnnbmdfepogiaaW.PrintMore
attribute [local go_sem] max2_int min2_int max_two min_two max_three min_three max_four min_four
set_option linter.unusedVariables false
set_option linter.unusedSimpArgs false
def impl_firedAt.f (k : Nat) (l0_0 : List (S104)) (l0_1 : List (S61)) (l0_2 : List (S58)) (a1_0 : Int) (a1_1 : Int) (a1_2 : ByteArray) (a1_3 : Int) : Option (Int) := (impl_articleOf.f k l0_1 a1_2).bind fun t226 => (if t226 < 0 then (some (-1)) else ((impl_isBeat.f l0_0 a1_0 a1_1).bind fun t227 => (if t227 = true then ((impl_beatTime.f k l0_0 a1_0 a1_1).bind fun t228 => (if 0 ≤ t226 then (if t226 < (l0_1.length : Int) then (some (mx (-1) (wrap64 (t228 - ((rd_T61 l0_1 t226).f3))))) else (none)) else (none))) else (some (-1)))))
def impl_firedAt.T4 : Bool × List (List Nat × List Nat) := (true, [([], []), ([0], [0]), ([], []), ([2], [2]), ([], []), ([4], [4]), ([1, 3, 5], [1, 3, 5]), ([], []), ([7], [7]), ([], []), ([8, 9], [8, 9]), ([10], [10]), ([11], [11]), ([6, 12], [6, 12]), ([13], [13]), ([14, 6, 0, 1, 2, 3, 4, 5, 6, 7, 8, 9, 10, 11, 12, 13, 14], [14])])
def impl_firedAt.B4 : List Nat := [0, 1, 0, 4, 0, 16, 63, 0, 128, 0, 896, 1920, 3968, 8191, 16383, 32767]
theorem impl_firedAt.tab4 : rtab .any (opsOf Try.f67 4) = impl_firedAt.T4 := by kernel_rfl
theorem impl_firedAt.bits4 : waitsOk impl_firedAt.T4.2 impl_firedAt.B4 = true := by kernel_rfl
set_option maxHeartbeats 8000000 in
set_option maxRecDepth 100000 in
theorem impl_firedAt.calls (k : Nat) (A0_0 : Option Addr) (c0_0 : Nat) (l0_0 : List (S104)) (A0_1 : Option Addr) (c0_1 : Nat) (l0_1 : List (S61)) (A0_2 : Option Addr) (c0_2 : Nat) (l0_2 : List (S58)) (a1_0 : Int) (a1_1 : Int) (a1_2 : ByteArray) (a1_3 : Int) (r : Int) (w : World) (hr0_0 : Kd.C k104 w A0_0 l0_0.length l0_0) (hc0_0 : l0_0.length ≤ c0_0) (hr0_1 : Kd.C k61 w A0_1 l0_1.length l0_1) (hc0_1 : l0_1.length ≤ c0_1) (hr0_2 : Kd.C k58 w A0_2 l0_2.length l0_2) (hc0_2 : l0_2.length ≤ c0_2) (h : impl_firedAt.f k l0_0 l0_1 l0_2 a1_0 a1_1 a1_2 a1_3 = some r) :
  Calls Try.prog 67 #[.agg #[.slice A0_0 l0_0.length c0_0, .slice A0_1 l0_1.length c0_1, .slice A0_2 l0_2.length c0_2], .agg #[.int .i64 a1_0, .int .i64 a1_1, .string a1_2, .int .i64 a1_3]] w fun e w' => e = .returned (.int .i64 r) ∧ Below w.heap.size w w' := by
 have hu35 := Try.underlying35; have hu58 := Try.underlying58; have HR0_0 := am_ hr0_0; have HC0_0 := am_ hc0_0; clear hr0_0 hc0_0; have HR0_1 := am_ hr0_1; have HC0_1 := am_ hc0_1; clear hr0_1 hc0_1; have HR0_2 := am_ hr0_2; have HC0_2 := am_ hc0_2; clear hr0_2 hc0_2; have HB := am_ (Below.refl w.heap.size w); have H : ((impl_articleOf.f k l0_1 a1_2).bind fun t226 => (if t226 < 0 then (some (-1)) else ((impl_isBeat.f l0_0 a1_0 a1_1).bind fun t227 => (if t227 = true then ((impl_beatTime.f k l0_0 a1_0 a1_1).bind fun t228 => (if 0 ≤ t226 then (if t226 < (l0_1.length : Int) then (some (mx (-1) (wrap64 (t228 - ((rd_T61 l0_1 t226).f3))))) else (none)) else (none))) else (some (-1)))))) = some r := h; clear h; replace H := Option.bind_eq_some_iff.mp H; obtain ⟨t226, A30, H⟩ := H; have A3 := am_ A30; clear A30; have HS_ := am_ H; clear H
 go_enter Try.func67, Try.ntmps67
 go_wp2_with (first | ((with_reducible refine gate_dst (N := 2) rfl ?_); refine boxZ 2 #[.slice A0_0 l0_0.length c0_0, .slice A0_1 l0_1.length c0_1, .slice A0_2 l0_2.length c0_2] 35 ?_; intro gb224 hg w5 hbox hb; replace BK224 := am_ (hbox); replace GW224 := am_ ((Ze : w.heap.size ≤ gb224)); replace GE224 := GW224; replace HB := (bsZ Zf hb); clear hb hbox hg) | ((with_reducible refine gate_dst (N := 3) rfl ?_); refine boxZ 3 #[.int .i64 a1_0, .int .i64 a1_1, .string a1_2, .int .i64 a1_3] 58 ?_; intro gb225 hg w6 hbox hb; replace BK225 := am_ (hbox); replace GW225 := am_ (((Zg GE224) : w.heap.size ≤ gb225)); replace GE225 := GW225; replace HB := (bsZ (Zh GE224) hb); replace NB224_225 := am_ ((by rw [hg]; exact Nat.ne_of_lt (blk_lt (g := gb224) (b0Z BK224)) : gb224 ≠ gb225)); replace NB225_224 := am_ ((by rw [hg]; exact Nat.ne_of_gt (blk_lt (g := gb224) (b0Z BK224)) : gb225 ≠ gb224)); replace BK224 := (bkZ BK224 hb); clear hb hbox hg; have hnb7 := NB224_225.out; have hnc7 := NB225_224.out; refine ci3 BK224 ?_; intros; refine ci4 BK225 ?_; intros) | ((with_reducible refine gate_callee (f := 77) rfl ?_); refine gZ 10 Try.func77 #[.slice A0_1 l0_1.length c0_1, .string a1_2] ?_; (with_reducible refine (impl_articleOf.calls k _ _ l0_1 a1_2 t226 _ ?_ ?_ A3.out).mono ?_); exact (Zi HR0_1); exact HC0_1.out; rintro e w10 ⟨rfl, hb⟩; refine ⟨_, rfl, ?_⟩; replace BK224 := (bkZ BK224 hb); replace BK225 := (bkZ BK225 hb); replace HB := (bsZ (Zk GE224 GE225) hb); clear hb; refine ?roundEnd))
 case roundEnd =>
  by_cases c4 : t226 < 0
  ·have H := HS_.out
   clear HS_; rw [if_pos c4] at H; have c4b0 := decide_eq_true c4; clear c4; obtain rfl := Option.some.inj H
   go_wp2_with (first | fail)
   go_ret
   exact ⟨Zl, (Zk GE224 GE225)⟩
  ·have H := HS_.out
   clear HS_; rw [if_neg c4] at H; have c4b0 := decide_eq_false c4; clear c4; replace H := Option.bind_eq_some_iff.mp H; obtain ⟨t227, A110, H⟩ := H; have A11 := am_ A110; clear A110; have HS_ := am_ H; clear H; refine ci3 BK224 ?_; intros; refine ci4 BK225 ?_; intros
   try go_wp2_with (first | (go_at_call 75; (with_reducible refine (impl_isBeat.calls _ _ l0_0 a1_0 a1_1 t227 _ ?_ ?_ A11.out).mono ?_); exact (Zi HR0_0); exact HC0_0.out; rintro e w' ⟨rfl, ⟨nd, rfl⟩⟩; refine ?roundEnd))
   case roundEnd =>
    by_cases c12 : t227 = true
    ·have H := HS_.out
     clear HS_; subst c12; rw [if_pos rfl] at H; replace H := Option.bind_eq_some_iff.mp H; obtain ⟨t228, A130, H⟩ := H; have A13 := am_ A130; clear A130
     by_cases c14 : 0 ≤ t226
     ·rw [if_pos c14] at H
      have c14b0 := decide_eq_true c14; clear c14
      by_cases c15 : t226 < (l0_1.length : Int)
      ·rw [if_pos c15] at H
       have c15b0 := decide_eq_true c15; clear c15; obtain ⟨ji16, hji16⟩ : ∃ j_ : Int, (mx (-1) (wrap64 (t228 - ((rd_T61 l0_1 t226).f3)))) = j_ := ⟨_, rfl⟩
       replace H : (some ji16) = some r := by first | (rw [hji16] at H; exact H) | (simp only [hji16] at H ⊢; exact H)
       (try rw [hji16] at A3)
       (try rw [hji16] at A11)
       (try rw [hji16] at A13)
       have hji16_ : (if (-1) < (wrap64 (t228 - ((rd_T61 l0_1 t226).f3))) then (wrap64 (t228 - ((rd_T61 l0_1 t226).f3))) else (-1)) = ji16 := hji16; obtain rfl := Option.some.inj H
       try go_wp2_with (first | fail)
       (try (rw [drewN_self w10]; generalize hq_ : World.drewN w10 _ = w10; replace BK224 : Aside0 (w10.heap[gb224]? = some (.cells #[.slice A0_0 l0_0.length c0_0, .slice A0_1 l0_1.length c0_1, .slice A0_2 l0_2.length c0_2] 35 (0, 0))) := ⟨by rw [← hq_]; exact (b0Z BK224)⟩; replace BK225 : Aside0 (w10.heap[gb225]? = some (.cells #[.int .i64 a1_0, .int .i64 a1_1, .string a1_2, .int .i64 a1_3] 58 (0, 0))) := ⟨by rw [← hq_]; exact (b0Z BK225)⟩; replace HB : Aside0 (Below w.heap.size w w10) := ⟨by rw [← hq_]; exact (Zk GE224 GE225)⟩; clear hq_))
       replace BK224 := am_ (blk_drew BK224.out); replace BK225 := am_ (blk_drew BK225.out); replace HB := am_ (below_drew1 HB.out); have p229 : 0 ≤ (t226 : Int) := of_decide_eq_true Zc; have q229 : t226 < (l0_1.length : Int) := of_decide_eq_true Zc; obtain ⟨ad229, e229, hx229_0, hx229_1, hx229_2, hx229_3, hx229_4, hx229_5, hx229_6, hx229_7, hx229_8⟩ := at_T61 HR0_1.out t226 p229 q229; have hw229_8 := hx229_8; have hw229_7 := hx229_7; have hw229_6 := hx229_6; have hw229_5 := hx229_5; have hw229_4 := hx229_4; have hw229_3 := hx229_3; have hw229_2 := hx229_2; have hw229_1 := hx229_1; have hw229_0 := hx229_0
       cases e229
       replace hx229_0 := cbH HB hx229_0; replace hx229_1 := cbH HB hx229_1; replace hx229_2 := cbH HB hx229_2; replace hx229_3 := cbH HB hx229_3; replace hx229_4 := cbH HB hx229_4; replace hx229_5 := cbH HB hx229_5; replace hx229_6 := cbH HB hx229_6; replace hx229_7 := cbH HB hx229_7; replace hx229_8 := cbH HB hx229_8; replace p229 := eq_true p229; replace q229 := eq_true q229; refine start_ (n := 16) (S := fun w' => w'.cell? ⟨gb224, 0, none⟩ = some (.slice A0_0 l0_0.length c0_0) ∧ w'.cell? ⟨gb224, 1, none⟩ = some (.slice (some ad229) l0_1.length c0_1) ∧ w'.cell? ⟨gb224, 2, none⟩ = some (.slice A0_2 l0_2.length c0_2) ∧ w'.cell? ⟨gb225, 0, none⟩ = some (.int .i64 a1_0) ∧ w'.cell? ⟨gb225, 1, none⟩ = some (.int .i64 a1_1) ∧ w'.cell? ⟨gb225, 2, none⟩ = some (.string a1_2) ∧ w'.cell? ⟨gb225, 3, none⟩ = some (.int .i64 a1_3) ∧ w'.cell? (ad229.add ((t226).toNat * 9)) = some (.string ((rd_T61 l0_1 t226).f0)) ∧ w'.cell? ⟨(ad229.add ((t226).toNat * 9)).block, (ad229.add ((t226).toNat * 9)).off + 1, none⟩ = some (.int .i64 ((rd_T61 l0_1 t226).f1)) ∧ w'.cell? ⟨(ad229.add ((t226).toNat * 9)).block, (ad229.add ((t226).toNat * 9)).off + 2, none⟩ = some (.int .i64 ((rd_T61 l0_1 t226).f2)) ∧ w'.cell? ⟨(ad229.add ((t226).toNat * 9)).block, (ad229.add ((t226).toNat * 9)).off + 3, none⟩ = some (.int .i64 ((rd_T61 l0_1 t226).f3)) ∧ w'.cell? ⟨(ad229.add ((t226).toNat * 9)).block, (ad229.add ((t226).toNat * 9)).off + 4, none⟩ = some (.int .i64 ((rd_T61 l0_1 t226).f4)) ∧ w'.cell? ⟨(ad229.add ((t226).toNat * 9)).block, (ad229.add ((t226).toNat * 9)).off + 5, none⟩ = some (.int .i64 ((rd_T61 l0_1 t226).f5)) ∧ w'.cell? ⟨(ad229.add ((t226).toNat * 9)).block, (ad229.add ((t226).toNat * 9)).off + 6, none⟩ = some (.int .i64 ((rd_T61 l0_1 t226).f6)) ∧ w'.cell? ⟨(ad229.add ((t226).toNat * 9)).block, (ad229.add ((t226).toNat * 9)).off + 7, none⟩ = some (.int .i64 ((rd_T61 l0_1 t226).f7)) ∧ w'.cell? ⟨(ad229.add ((t226).toNat * 9)).block, (ad229.add ((t226).toNat * 9)).off + 8, none⟩ = some (.int .i64 ((rd_T61 l0_1 t226).f8))) (ds := []) (bT 16 0) Zm rfl rfl ⟨(blk_cell BK224.out 0).trans rfl, (blk_cell BK224.out 1).trans rfl, (blk_cell BK224.out 2).trans rfl, (blk_cell BK225.out 0).trans rfl, (blk_cell BK225.out 1).trans rfl, (blk_cell BK225.out 2).trans rfl, (blk_cell BK225.out 3).trans rfl, (cbH HB hw229_0 :), (cbH HB hw229_1 :), (cbH HB hw229_2 :), (cbH HB hw229_3 :), (cbH HB hw229_4 :), (cbH HB hw229_5 :), (cbH HB hw229_6 :), (cbH HB hw229_7 :), (cbH HB hw229_8 :)⟩ (fun hHeld => ?_); refine with_tabW impl_firedAt.tab4 impl_firedAt.bits4 (fun HT_ HW_ => ?_); generalize w10.drew = w25 at BK224 BK225 HB hx229_0 hx229_1 hx229_2 hx229_3 hx229_4 hx229_5 hx229_6 hx229_7 hx229_8 hHeld ⊢; refine pureZ HT_ 0 (some 23) (bT 16 1) ?_; refine pureZ HT_ 2 (some 25) (bB 16 5) ?_; refine pureZ HT_ 4 (some 27) (bB 16 21) ?_; refine pureZ HT_ 7 (some 30) (bB 16 149) ?_; refine pureZ HT_ 9 (some 32) (bB 16 661) ?_; refine takeZ16 HT_ HW_ 1 (some 24) (bB 16 663) hHeld ?_; refine takeZ16 HT_ HW_ 3 (some 26) (bB 16 671) hHeld ?_
       refine takeZ16 HT_ HW_ 5 (some 28) (bB 16 703) hHeld ?_; refine takeZ16 HT_ HW_ 8 (some 31) (bB 16 959) hHeld ?_; refine pureZ HT_ 10 (some 33) (bB 16 1983) ?_; refine pureZ HT_ 11 (some 34) (bB 16 4031) ?_; refine takeZ16 HT_ HW_ 12 (some 35) (bB 16 8127) hHeld ?_; refine one_ (i := 6) (N := some 29) (bT 16 13) rfl rfl (one_of HT_.out Zm) (by decide) (fun K hK => ?_); refine goes_ Try.func76 Zm rfl #[.slice A0_0 l0_0.length c0_0, .int .i64 a1_0, .int .i64 a1_1] (by rfl) rfl rfl Zn ?_
       with_reducible refine (impl_beatTime.calls k _ _ l0_0 a1_0 a1_1 t228 _ ?side1 ?side2 A13.out).mono ?_
       (case side1 => exact (Zi HR0_0))
       (case side2 => exact HC0_0.out)
       rintro e w26 ⟨rfl, hb⟩; refine ⟨_, rfl, ?_⟩; replace BK224 := (bkZ BK224 hb); replace BK225 := (bkZ BK225 hb); replace HB := (bsZ (Zk GE224 GE225) hb)
       (try clear hb)
       (try clear hb2)
       (try clear hk)
       (try clear hi)
       refine hK.out _ _ (Zac BK224 BK225 hw229_0 hw229_1 hw229_2 hw229_3 hw229_4 hw229_5 hw229_6 hw229_7 hw229_8) (fun hHeld => ?_); clear hK K; refine normZ 29 ?_; refine pureZ HT_ 13 (some 36) (bT 16 14) ?_; refine pureZ HT_ 14 (some 37) (bT 16 15) ?_; refine pureZ HT_ 15 (some 4) (bT 16 16) ?_; refine done_ (done_of HT_.out Zm) ?_
       try go_wp2
       go_ret
       exact ⟨by first | rfl | (simp [errW_none, errW_some] <;> rfl) | (simp only [← hji16]; first | rfl | (simp [errW_none, errW_some] <;> rfl)) | (simp [*, errW_none, errW_some] <;> rfl), (Zk GE224 GE225)⟩
      ·rw [if_neg c15] at H
       exact absurd H (by simp)
     ·rw [if_neg c14] at H
      exact absurd H (by simp)
    ·have H := HS_.out
     clear HS_; replace c12 := Bool.eq_false_iff.mpr c12; subst c12; rw [if_neg (show ¬ (false = true) by decide)] at H; obtain rfl := Option.some.inj H
     go_wp2_with (first | fail)
     go_ret
     exact ⟨Zl, (Zk GE224 GE225)⟩
mutual
def impl_IsScore.j0 : Nat → List (S104) → Bool → Option (Bool)
 | 0, _, _ => none
 | k + 1, x0, x12 => if x12 = true then (some false) else (impl_IsScore.l0 k x0 (x0.length : Int) 0)
def impl_IsScore.l0 : Nat → List (S104) → Int → Int → Option (Bool)
 | 0, _, _, _ => none
 | k + 1, x13, x14, x15 => if x15 < x14 then (if 0 ≤ x15 then (if x15 < (x13.length : Int) then ((impl_within.f ((rd_T104 x13 x15).f0) 1 16).bind fun t232 => (if t232 = true then ((impl_within.f ((rd_T104 x13 x15).f1) 100 5000).bind fun t233 => (if t233 = true then (impl_IsScore.l0 k x13 x14 (wrap64 (x15 + 1))) else (some false))) else (some false))) else (none)) else (none)) else (some true)
end
def impl_IsScore.f (k : Nat) (l0 : List (S104)) : Option (Bool) := if (l0.length : Int) < 1 then (impl_IsScore.j0 k l0 true) else (impl_IsScore.j0 k l0 (decide ((l0.length : Int) > 20)))
set_option maxHeartbeats 8000000 in
set_option maxRecDepth 100000 in
theorem impl_IsScore.calls (k : Nat) (A0 : Option Addr) (c0 : Nat) (l0 : List (S104)) (r : Bool) (w : World) (hr0 : Kd.C k104 w A0 l0.length l0) (hc0 : l0.length ≤ c0) (h : impl_IsScore.f k l0 = some r) :
  Calls Try.prog 73 #[.slice A0 l0.length c0] w fun e w' => e = .returned (.bool r) ∧ Below w.heap.size w w' := by
 have hu104 := Try.underlying104; have HR0 := am_ hr0; have HC0 := am_ hc0; clear hr0 hc0; have HB := am_ (Below.refl w.heap.size w); have H : (if (l0.length : Int) < 1 then (impl_IsScore.j0 k l0 true) else (impl_IsScore.j0 k l0 (decide ((l0.length : Int) > 20)))) = some r := h; clear h; have HC2 := am_ H; clear H
 go_enter Try.func73, Try.ntmps73
 go_upto_region 1 with (fail)
 go_cut [12] (fun v12 wc => ∃ (kq : Nat) (x12_1 : Bool), v12 = .bool x12_1 ∧ Aside0 (impl_IsScore.j0 kq l0 x12_1 = some r) ∧ Aside0 (kq ≤ k) ∧ Aside0 (Below w.heap.size w wc))
 case first =>
  have H := HC2.out; clear HC2
  by_cases c3 : (l0.length : Int) < 1
  ·rw [if_pos c3] at H
   have c3b0 := decide_eq_true c3; have c3b1 : decide (l0.length < 1) = true := decide_eq_true (by omega); clear c3
   (first | rw [c3b0] | (simp only [i64_w, i32_w]; rw [c3b0]) | skip)
   have H' := am_ H; clear H
   go_wp2
   go_meet
   case rel => exact ⟨_, (true), Za, H', ⟨Zp⟩, ⟨Zf⟩⟩
  ·rw [if_neg c3] at H
   have c3b0 := decide_eq_false c3; have c3b1 : decide (l0.length < 1) = false := decide_eq_false (by omega); clear c3
   (first | rw [c3b0] | (simp only [i64_w, i32_w]; rw [c3b0]) | skip)
   have H' := am_ H; clear H
   go_wp2
   go_meet
   case rel => exact ⟨_, (decide ((l0.length : Int) > 20)), Za, H', ⟨Zp⟩, ⟨Zf⟩⟩
 case rest =>
  clear HC2
  try clear p2
  try clear c3
  try clear c3b0
  try clear c3b1
  obtain ⟨kq, x12_1, rfl, HA, HJ1, HB⟩ := hcut
  cases kq with
  | zero => exact absurd HA.out (by simp [impl_IsScore.j0])
  | succ kj1 =>
   have H := HA.out; clear HA; simp only [impl_IsScore.j0] at H
   by_cases c4 : x12_1 = true
   ·subst c4
    rw [if_pos rfl] at H; obtain rfl := Option.some.inj H
    go_wp2
    go_ret
    exact ⟨Zl, Zf⟩
   ·replace c4 := Bool.eq_false_iff.mpr c4
    subst c4; rw [if_neg (show ¬ (false = true) by decide)] at H; have H' := am_ H; clear H
    go_wp2
    go_loopg [15] kj1 (fun kq v15 w' => ∃ (x15_2 : Int), v15 = .int .i64 x15_2 ∧ Aside0 (impl_IsScore.l0 kq l0 (l0.length : Int) x15_2 = some r) ∧ Aside0 (kq ≤ kj1) ∧ Aside0 (Below w.heap.size w w'))
    case atStart => exact ⟨(0), Za, H', ⟨Nat.le_refl _⟩, ⟨Zf⟩⟩
    case round =>
     clear H'
     try clear p2
     try clear c3
     try clear c3b0
     try clear c3b1
     try clear c4
     try clear p2
     obtain ⟨x15_2, rfl, HA, HK2, HB⟩ := hrel
     cases gk with
     | zero => exact absurd HA.out (by simp [impl_IsScore.l0])
     | succ k2 =>
      have H := HA.out; clear HA; simp only [impl_IsScore.l0] at H
      by_cases c5 : x15_2 < (l0.length : Int)
      ·rw [if_pos c5] at H
       have c5b0 := decide_eq_true c5; clear c5
       by_cases c6 : 0 ≤ x15_2
       ·rw [if_pos c6] at H
        have c6b0 := decide_eq_true c6; clear c6
        by_cases c7 : x15_2 < (l0.length : Int)
        ·rw [if_pos c7] at H
         have c7b0 := decide_eq_true c7; clear c7; replace H := Option.bind_eq_some_iff.mp H; obtain ⟨t232, A80, H⟩ := H; have A8 := am_ A80; clear A80; have HS_ := am_ H; clear H; have p230 : 0 ≤ (x15_2 : Int) := of_decide_eq_true Zc; have q230 : x15_2 < (l0.length : Int) := of_decide_eq_true Zc; obtain ⟨ad230, e230, hx230_0, hx230_1⟩ := at_T104 HR0.out x15_2 p230 q230
         cases e230
         replace hx230_0 := cbH HB hx230_0; replace hx230_1 := cbH HB hx230_1; replace p230 := eq_true p230; replace q230 := eq_true q230
         go_wp2_with (first | ((with_reducible refine gate_dst (N := 4) rfl ?_); (try (refine gate_guard (by rfl) ?_; dsimp only)); refine boxZ 4 #[.int .i64 0, .int .i64 0] 104 ?_; intro gb231 hg w12 hbox hb; replace BK231 := am_ (hbox); replace GW231 := am_ ((Ze : w.heap.size ≤ gb231)); replace GE231 := GW231; replace HB := (bsZ Zf hb); clear hb hbox hg; refine ci2 BK231 ?_; intros) | ((with_reducible refine gate_callee (f := 58) rfl ?_); refine gZ 21 Try.func58 #[.int .i64 ((rd_T104 l0 x15_2).f0), .int .i64 1, .int .i64 16] ?_; (with_reducible refine (impl_within.calls ((rd_T104 l0 x15_2).f0) 1 16 t232 _ A8.out).mono ?_); rintro e w' ⟨rfl, ⟨nd, rfl⟩⟩; refine ⟨_, rfl, ?_⟩; refine ?roundEnd))
         case roundEnd =>
          by_cases c9 : t232 = true
          ·have H := HS_.out
           clear HS_; subst c9; rw [if_pos rfl] at H; replace H := Option.bind_eq_some_iff.mp H; obtain ⟨t233, A100, H⟩ := H; have A10 := am_ A100; clear A100; have HS_ := am_ H; clear H
           go_wp2_with (first | (go_at_call 58; (with_reducible refine (impl_within.calls ((rd_T104 l0 x15_2).f1) 100 5000 t233 _ A10.out).mono ?_); rintro e w' ⟨rfl, ⟨nd, rfl⟩⟩; refine ?roundEnd))
           case roundEnd =>
            by_cases c11 : t233 = true
            ·have H := HS_.out
             clear HS_; subst c11; rw [if_pos rfl] at H; have H' := am_ H; clear H
             go_wp2_with (first | fail)
             go_roundg k2
             case measure => have := HJ1.out; have := HK2.out; omega
             case rel => exact ⟨(wrap64 (x15_2 + 1)), Za, H', ⟨by have := HJ1.out; have := HK2.out; omega⟩, ⟨(Zh GE231)⟩⟩
            ·have H := HS_.out
             clear HS_; replace c11 := Bool.eq_false_iff.mpr c11; subst c11; rw [if_neg (show ¬ (false = true) by decide)] at H; obtain rfl := Option.some.inj H
             go_wp2_with (first | fail)
             go_ret
             exact ⟨Zl, (Zh GE231)⟩
          ·have H := HS_.out
           clear HS_; replace c9 := Bool.eq_false_iff.mpr c9; subst c9; rw [if_neg (show ¬ (false = true) by decide)] at H; obtain rfl := Option.some.inj H
           go_wp2_with (first | fail)
           go_ret
           exact ⟨Zl, (Zh GE231)⟩
        ·rw [if_neg c7] at H
         exact absurd H (by simp)
       ·rw [if_neg c6] at H
        exact absurd H (by simp)
      ·rw [if_neg c5] at H
       have c5b0 := decide_eq_false c5; clear c5; obtain rfl := Option.some.inj H
       go_wp2
       go_ret
       exact ⟨Zl, Zf⟩
mutual
def impl_IsWord.j0 : Nat → ByteArray → Bool → Option (Bool)
 | 0, _, _ => none
 | k + 1, x0, x11 => if x11 = true then (some false) else (impl_IsWord.l0 k x0 0)
def impl_IsWord.l0 : Nat → ByteArray → Int → Option (Bool)
 | 0, _, _ => none
 | k + 1, x0, x3 => if x3 < (x0.size : Int) then (if 0 ≤ x3 then (if (bt x0 x3) < 97 then (some false) else (if (bt x0 x3) > 122 then (some false) else (impl_IsWord.l0 k x0 (wrap64 (x3 + 1))))) else (none)) else (some true)
end
def impl_IsWord.f (k : Nat) (a0 : ByteArray) : Option (Bool) := if (a0.size : Int) < 1 then (impl_IsWord.j0 k a0 true) else (impl_IsWord.j0 k a0 (decide ((a0.size : Int) > 16)))
set_option maxHeartbeats 8000000 in
set_option maxRecDepth 100000 in
theorem impl_IsWord.calls (k : Nat) (a0 : ByteArray) (r : Bool) (w : World) (h : impl_IsWord.f k a0 = some r) :
  Calls Try.prog 113 #[.string a0] w fun e w' => e = .returned (.bool r) ∧ Drawn0 w w' := by
 have H : (if (a0.size : Int) < 1 then (impl_IsWord.j0 k a0 true) else (impl_IsWord.j0 k a0 (decide ((a0.size : Int) > 16)))) = some r := h; clear h; have HC2 := am_ H; clear H
 go_enter Try.func113, Try.ntmps113
 go_upto_region 1 with (fail)
 go_cut [11] (fun v11 wc => ∃ (kq : Nat) (x11_1 : Bool), v11 = .bool x11_1 ∧ Aside0 (impl_IsWord.j0 kq a0 x11_1 = some r) ∧ Aside0 (kq ≤ k) ∧ Drawn0 w wc)
 case first =>
  have H := HC2.out; clear HC2
  by_cases c3 : (a0.size : Int) < 1
  ·rw [if_pos c3] at H
   have c3b0 := decide_eq_true c3; have c3b1 : decide (a0.size < 1) = true := decide_eq_true (by omega); clear c3
   (first | rw [c3b0] | (simp only [i64_w, i32_w]; rw [c3b0]) | skip)
   have H' := am_ H; clear H
   go_wp2
   go_meet
   case rel => exact ⟨_, (true), Za, H', ⟨Zp⟩, Zb⟩
  ·rw [if_neg c3] at H
   have c3b0 := decide_eq_false c3; have c3b1 : decide (a0.size < 1) = false := decide_eq_false (by omega); clear c3
   (first | rw [c3b0] | (simp only [i64_w, i32_w]; rw [c3b0]) | skip)
   have H' := am_ H; clear H
   go_wp2
   go_meet
   case rel => exact ⟨_, (decide ((a0.size : Int) > 16)), Za, H', ⟨Zp⟩, Zb⟩
 case rest =>
  clear HC2
  try clear c1
  try clear p2
  try clear c3
  try clear c3b0
  try clear c3b1
  obtain ⟨kq, x11_1, rfl, HA, HJ1, ⟨mc1, rfl⟩⟩ := hcut
  cases kq with
  | zero => exact absurd HA.out (by simp [impl_IsWord.j0])
  | succ kj1 =>
   have H := HA.out; clear HA; simp only [impl_IsWord.j0] at H
   by_cases c4 : x11_1 = true
   ·subst c4
    rw [if_pos rfl] at H; obtain rfl := Option.some.inj H
    go_wp2
    go_ret
    exact ⟨Za, Zb⟩
   ·replace c4 := Bool.eq_false_iff.mpr c4
    subst c4; rw [if_neg (show ¬ (false = true) by decide)] at H; have H' := am_ H; clear H
    go_wp2
    go_loopg [3] kj1 (fun kq v3 w' => ∃ (x3_2 : Int), v3 = .int .i64 x3_2 ∧ Aside0 (impl_IsWord.l0 kq a0 x3_2 = some r) ∧ Aside0 (kq ≤ kj1) ∧ Drawn0 w w')
    case atStart => exact ⟨(0), Za, H', ⟨Nat.le_refl _⟩, Zb⟩
    case round =>
     clear H'
     try clear c1
     try clear p2
     try clear c3
     try clear c3b0
     try clear c3b1
     try clear c4
     try clear p2
     obtain ⟨x3_2, rfl, HA, HK2, ⟨m2, rfl⟩⟩ := hrel
     cases gk with
     | zero => exact absurd HA.out (by simp [impl_IsWord.l0])
     | succ k2 =>
      have H := HA.out; clear HA; simp only [impl_IsWord.l0] at H
      by_cases c5 : x3_2 < (a0.size : Int)
      ·rw [if_pos c5] at H
       have c5b0 := decide_eq_true c5; clear c5
       by_cases c6 : 0 ≤ x3_2
       ·rw [if_pos c6] at H
        have c6b0 := decide_eq_true c6; clear c6
        by_cases c8 : (bt a0 x3_2) < 97
        ·rw [if_pos c8] at H
         have c8b0 := decide_eq_true c8; clear c8; obtain rfl := Option.some.inj H; have p7 : 0 ≤ (x3_2 : Int) := of_decide_eq_true Zc; have q7 : x3_2 < (a0.size : Int) := of_decide_eq_true Zc; have hx7 := bt_at a0 x3_2; replace p7 := eq_true p7; replace q7 := eq_true q7
         go_wp2
         go_ret
         exact ⟨Za, Zb⟩
        ·rw [if_neg c8] at H
         have c8b0 := decide_eq_false c8; clear c8
         by_cases c10 : (bt a0 x3_2) > 122
         ·rw [if_pos c10] at H
          have c10b0 : decide (122 < (bt a0 x3_2)) = true := decide_eq_true c10; clear c10; obtain rfl := Option.some.inj H; have p7 : 0 ≤ (x3_2 : Int) := of_decide_eq_true Zc; have q7 : x3_2 < (a0.size : Int) := of_decide_eq_true Zc; have hx7 := bt_at a0 x3_2; replace p7 := eq_true p7; replace q7 := eq_true q7; have p9 : 0 ≤ (x3_2 : Int) := of_decide_eq_true Zc; have q9 : x3_2 < (a0.size : Int) := of_decide_eq_true Zc; have hx9 := bt_at a0 x3_2; replace p9 := eq_true p9; replace q9 := eq_true q9
          go_wp2
          go_ret
          exact ⟨Za, Zb⟩
         ·rw [if_neg c10] at H
          have c10b0 : decide (122 < (bt a0 x3_2)) = false := decide_eq_false c10; clear c10; have H' := am_ H; clear H; have p7 : 0 ≤ (x3_2 : Int) := of_decide_eq_true Zc; have q7 : x3_2 < (a0.size : Int) := of_decide_eq_true Zc; have hx7 := bt_at a0 x3_2; replace p7 := eq_true p7; replace q7 := eq_true q7; have p9 : 0 ≤ (x3_2 : Int) := of_decide_eq_true Zc; have q9 : x3_2 < (a0.size : Int) := of_decide_eq_true Zc; have hx9 := bt_at a0 x3_2; replace p9 := eq_true p9; replace q9 := eq_true q9
          go_wp2
          go_roundg k2
          case measure => have := HJ1.out; have := HK2.out; omega
          case rel => exact ⟨(wrap64 (x3_2 + 1)), Za, H', ⟨by have := HJ1.out; have := HK2.out; omega⟩, Zb⟩
       ·rw [if_neg c6] at H
        exact absurd H (by simp)
      ·rw [if_neg c5] at H
       have c5b0 := decide_eq_false c5; clear c5; obtain rfl := Option.some.inj H
       go_wp2
       go_ret
       exact ⟨Za, Zb⟩
def impl_IsArticle.f (k : Nat) (a0_0 : ByteArray) (a0_1 : Int) (a0_2 : Int) (a0_3 : Int) (a0_4 : Int) (a0_5 : Int) (a0_6 : Int) (a0_7 : Int) (a0_8 : Int) : Option (Bool) := (impl_IsWord.f k a0_0).bind fun t235 => (if t235 = true then ((impl_within.f a0_1 0 3).bind fun t236 => (if t236 = true then ((impl_within.f a0_2 20 300).bind fun t237 => (if t237 = true then ((impl_within.f a0_3 0 10000).bind fun t238 => (if t238 = true then ((impl_within.f a0_4 0 a0_3).bind fun t239 => (if t239 = true then ((impl_within.f a0_5 1 50).bind fun t240 => (if t240 = true then ((impl_within.f a0_6 0 10000).bind fun t241 => (if t241 = true then ((impl_within.f a0_7 1 100000).bind fun t242 => (if t242 = true then ((impl_within.f a0_8 0 3).bind fun t243 => (some t243)) else (some false))) else (some false))) else (some false))) else (some false))) else (some false))) else (some false))) else (some false))) else (some false))
set_option maxHeartbeats 8000000 in
set_option maxRecDepth 100000 in
theorem impl_IsArticle.calls (k : Nat) (a0_0 : ByteArray) (a0_1 : Int) (a0_2 : Int) (a0_3 : Int) (a0_4 : Int) (a0_5 : Int) (a0_6 : Int) (a0_7 : Int) (a0_8 : Int) (r : Bool) (w : World) (h : impl_IsArticle.f k a0_0 a0_1 a0_2 a0_3 a0_4 a0_5 a0_6 a0_7 a0_8 = some r) :
  Calls Try.prog 101 #[.agg #[.string a0_0, .int .i64 a0_1, .int .i64 a0_2, .int .i64 a0_3, .int .i64 a0_4, .int .i64 a0_5, .int .i64 a0_6, .int .i64 a0_7, .int .i64 a0_8]] w fun e w' => e = .returned (.bool r) ∧ Below w.heap.size w w' := by
 have hu61 := Try.underlying61; have HB := am_ (Below.refl w.heap.size w); have H : ((impl_IsWord.f k a0_0).bind fun t235 => (if t235 = true then ((impl_within.f a0_1 0 3).bind fun t236 => (if t236 = true then ((impl_within.f a0_2 20 300).bind fun t237 => (if t237 = true then ((impl_within.f a0_3 0 10000).bind fun t238 => (if t238 = true then ((impl_within.f a0_4 0 a0_3).bind fun t239 => (if t239 = true then ((impl_within.f a0_5 1 50).bind fun t240 => (if t240 = true then ((impl_within.f a0_6 0 10000).bind fun t241 => (if t241 = true then ((impl_within.f a0_7 1 100000).bind fun t242 => (if t242 = true then ((impl_within.f a0_8 0 3).bind fun t243 => (some t243)) else (some false))) else (some false))) else (some false))) else (some false))) else (some false))) else (some false))) else (some false))) else (some false))) = some r := h; clear h; replace H := Option.bind_eq_some_iff.mp H; obtain ⟨t235, A20, H⟩ := H; have A2 := am_ A20; clear A20; have HS_ := am_ H; clear H
 go_enter Try.func101, Try.ntmps101
 go_wp2_with (first | ((with_reducible refine gate_dst (N := 1) rfl ?_); refine boxZ 1 #[.string a0_0, .int .i64 a0_1, .int .i64 a0_2, .int .i64 a0_3, .int .i64 a0_4, .int .i64 a0_5, .int .i64 a0_6, .int .i64 a0_7, .int .i64 a0_8] 61 ?_; intro gb234 hg w19 hbox hb; replace BK234 := am_ (hbox); replace GW234 := am_ ((Ze : w.heap.size ≤ gb234)); replace GE234 := GW234; replace HB := (bsZ Zf hb); clear hb hbox hg; refine ci9 BK234 ?_; intros) | ((with_reducible refine gate_callee (f := 113) rfl ?_); refine gZ 5 Try.func113 #[.string a0_0] ?_; (with_reducible refine (impl_IsWord.calls k a0_0 t235 _ A2.out).mono ?_); rintro e w' ⟨rfl, ⟨nd, rfl⟩⟩; refine ⟨_, rfl, ?_⟩; refine ?roundEnd))
 case roundEnd =>
  by_cases c3 : t235 = true
  ·have H := HS_.out
   clear HS_; subst c3; rw [if_pos rfl] at H; replace H := Option.bind_eq_some_iff.mp H; obtain ⟨t236, A40, H⟩ := H; have A4 := am_ A40; clear A40; have HS_ := am_ H; clear H
   go_wp2_with (first | (go_at_call 58; (with_reducible refine (impl_within.calls a0_1 0 3 t236 _ A4.out).mono ?_); rintro e w' ⟨rfl, ⟨nd, rfl⟩⟩; refine ?roundEnd))
   case roundEnd =>
    by_cases c5 : t236 = true
    ·have H := HS_.out
     clear HS_; subst c5; rw [if_pos rfl] at H; replace H := Option.bind_eq_some_iff.mp H; obtain ⟨t237, A60, H⟩ := H; have A6 := am_ A60; clear A60; have HS_ := am_ H; clear H
     go_wp2_with (first | (go_at_call 58; (with_reducible refine (impl_within.calls a0_2 20 300 t237 _ A6.out).mono ?_); rintro e w' ⟨rfl, ⟨nd, rfl⟩⟩; refine ?roundEnd))
     case roundEnd =>
      by_cases c7 : t237 = true
      ·have H := HS_.out
       clear HS_; subst c7; rw [if_pos rfl] at H; replace H := Option.bind_eq_some_iff.mp H; obtain ⟨t238, A80, H⟩ := H; have A8 := am_ A80; clear A80; have HS_ := am_ H; clear H
       go_wp2_with (first | (go_at_call 58; (with_reducible refine (impl_within.calls a0_3 0 10000 t238 _ A8.out).mono ?_); rintro e w' ⟨rfl, ⟨nd, rfl⟩⟩; refine ?roundEnd))
       case roundEnd =>
        by_cases c9 : t238 = true
        ·have H := HS_.out
         clear HS_; subst c9; rw [if_pos rfl] at H; replace H := Option.bind_eq_some_iff.mp H; obtain ⟨t239, A100, H⟩ := H; have A10 := am_ A100; clear A100; have HS_ := am_ H; clear H
         go_wp2_with (first | (go_at_call 58; (with_reducible refine (impl_within.calls a0_4 0 a0_3 t239 _ A10.out).mono ?_); rintro e w' ⟨rfl, ⟨nd, rfl⟩⟩; refine ?roundEnd))
         case roundEnd =>
          by_cases c11 : t239 = true
          ·have H := HS_.out
           clear HS_; subst c11; rw [if_pos rfl] at H; replace H := Option.bind_eq_some_iff.mp H; obtain ⟨t240, A120, H⟩ := H; have A12 := am_ A120; clear A120; have HS_ := am_ H; clear H
           go_wp2_with (first | (go_at_call 58; (with_reducible refine (impl_within.calls a0_5 1 50 t240 _ A12.out).mono ?_); rintro e w' ⟨rfl, ⟨nd, rfl⟩⟩; refine ?roundEnd))
           case roundEnd =>
            by_cases c13 : t240 = true
            ·have H := HS_.out
             clear HS_; subst c13; rw [if_pos rfl] at H; replace H := Option.bind_eq_some_iff.mp H; obtain ⟨t241, A140, H⟩ := H; have A14 := am_ A140; clear A140; have HS_ := am_ H; clear H
             go_wp2_with (first | (go_at_call 58; (with_reducible refine (impl_within.calls a0_6 0 10000 t241 _ A14.out).mono ?_); rintro e w' ⟨rfl, ⟨nd, rfl⟩⟩; refine ?roundEnd))
             case roundEnd =>
              by_cases c15 : t241 = true
              ·have H := HS_.out
               clear HS_; subst c15; rw [if_pos rfl] at H; replace H := Option.bind_eq_some_iff.mp H; obtain ⟨t242, A160, H⟩ := H; have A16 := am_ A160; clear A160; have HS_ := am_ H; clear H
               go_wp2_with (first | (go_at_call 58; (with_reducible refine (impl_within.calls a0_7 1 100000 t242 _ A16.out).mono ?_); rintro e w' ⟨rfl, ⟨nd, rfl⟩⟩; refine ?roundEnd))
               case roundEnd =>
                by_cases c17 : t242 = true
                ·have H := HS_.out
                 clear HS_; subst c17; rw [if_pos rfl] at H; replace H := Option.bind_eq_some_iff.mp H; obtain ⟨t243, A180, H⟩ := H; have A18 := am_ A180; clear A180; obtain rfl := Option.some.inj H
                 go_wp2_with (first | (go_at_call 58; (with_reducible refine (impl_within.calls a0_8 0 3 t243 _ A18.out).mono ?_); rintro e w' ⟨rfl, ⟨nd, rfl⟩⟩))
                 go_ret
                 exact ⟨Zl, (Zh GE234)⟩
                ·have H := HS_.out
                 clear HS_; replace c17 := Bool.eq_false_iff.mpr c17; subst c17; rw [if_neg (show ¬ (false = true) by decide)] at H; obtain rfl := Option.some.inj H
                 go_wp2_with (first | fail)
                 go_ret
                 exact ⟨Zl, (Zh GE234)⟩
              ·have H := HS_.out
               clear HS_; replace c15 := Bool.eq_false_iff.mpr c15; subst c15; rw [if_neg (show ¬ (false = true) by decide)] at H; obtain rfl := Option.some.inj H
               go_wp2_with (first | fail)
               go_ret
               exact ⟨Zl, (Zh GE234)⟩
            ·have H := HS_.out
             clear HS_; replace c13 := Bool.eq_false_iff.mpr c13; subst c13; rw [if_neg (show ¬ (false = true) by decide)] at H; obtain rfl := Option.some.inj H
             go_wp2_with (first | fail)
             go_ret
             exact ⟨Zl, (Zh GE234)⟩
          ·have H := HS_.out
           clear HS_; replace c11 := Bool.eq_false_iff.mpr c11; subst c11; rw [if_neg (show ¬ (false = true) by decide)] at H; obtain rfl := Option.some.inj H
           go_wp2_with (first | fail)
           go_ret
           exact ⟨Zl, (Zh GE234)⟩
        ·have H := HS_.out
         clear HS_; replace c9 := Bool.eq_false_iff.mpr c9; subst c9; rw [if_neg (show ¬ (false = true) by decide)] at H; obtain rfl := Option.some.inj H
         go_wp2_with (first | fail)
         go_ret
         exact ⟨Zl, (Zh GE234)⟩
      ·have H := HS_.out
       clear HS_; replace c7 := Bool.eq_false_iff.mpr c7; subst c7; rw [if_neg (show ¬ (false = true) by decide)] at H; obtain rfl := Option.some.inj H
       go_wp2_with (first | fail)
       go_ret
       exact ⟨Zl, (Zh GE234)⟩
    ·have H := HS_.out
     clear HS_; replace c5 := Bool.eq_false_iff.mpr c5; subst c5; rw [if_neg (show ¬ (false = true) by decide)] at H; obtain rfl := Option.some.inj H
     go_wp2_with (first | fail)
     go_ret
     exact ⟨Zl, (Zh GE234)⟩
  ·have H := HS_.out
   clear HS_; replace c3 := Bool.eq_false_iff.mpr c3; subst c3; rw [if_neg (show ¬ (false = true) by decide)] at H; obtain rfl := Option.some.inj H
   go_wp2_with (first | fail)
   go_ret
   exact ⟨Zl, (Zh GE234)⟩
def impl_AreArticles.l0 : Nat → List (S61) → List (S61) → Int → Int → Option (Bool)
 | 0, _, _, _, _ => none
 | k + 1, x0, x8, x9, x10 => if x10 < x9 then (if 0 ≤ x10 then (if x10 < (x8.length : Int) then ((impl_IsArticle.f k ((rd_T61 x8 x10).f0) ((rd_T61 x8 x10).f1) ((rd_T61 x8 x10).f2) ((rd_T61 x8 x10).f3) ((rd_T61 x8 x10).f4) ((rd_T61 x8 x10).f5) ((rd_T61 x8 x10).f6) ((rd_T61 x8 x10).f7) ((rd_T61 x8 x10).f8)).bind fun t246 => (if t246 = true then (if x10 > 0 then (if 0 ≤ (wrap64 (x10 - 1)) then (if (wrap64 (x10 - 1)) < (x0.length : Int) then (if ((Op.bytesLess (((rd_T61 x0 (wrap64 (x10 - 1))).f0).toList) (((rd_T61 x8 x10).f0).toList)) = true) then (impl_AreArticles.l0 k x0 x8 x9 (wrap64 (x10 + 1))) else (some false)) else (none)) else (none)) else (impl_AreArticles.l0 k x0 x8 x9 (wrap64 (x10 + 1)))) else (some false))) else (none)) else (none)) else (some true)
def impl_AreArticles.f (k : Nat) (l0 : List (S61)) : Option (Bool) := if (l0.length : Int) > 12 then (some false) else (impl_AreArticles.l0 k l0 l0 (l0.length : Int) 0)
def impl_AreArticles.T6 : Bool × List (List Nat × List Nat) := (true, [([], []), ([0], [0]), ([1], [1]), ([2, 1], [2]), ([3], [3]), ([4, 3], [3, 4]), ([5, 3, 3], [3, 5]), ([6], [6]), ([6], [6]), ([8, 6], [6, 8]), ([7, 9, 6], [6, 7, 9]), ([10, 6], [6, 10]), ([11, 6], [6, 11]), ([6], [6]), ([13, 6], [6, 13]), ([12, 14, 6], [6, 12, 14]), ([6, 15, 3], [3, 6, 15]), ([3, 16], [3, 16])])
def impl_AreArticles.B6 : List Nat := [0, 1, 3, 7, 15, 31, 63, 127, 127, 383, 1023, 2047, 4095, 127, 8319, 32767, 65535, 131071]
theorem impl_AreArticles.tab6 : rtab .any (opsOf Try.f74 6) = impl_AreArticles.T6 := by kernel_rfl
theorem impl_AreArticles.bits6 : waitsOk impl_AreArticles.T6.2 impl_AreArticles.B6 = true := by kernel_rfl
set_option maxHeartbeats 8000000 in
set_option maxRecDepth 100000 in
theorem impl_AreArticles.calls (k : Nat) (A0 : Option Addr) (c0 : Nat) (l0 : List (S61)) (r : Bool) (w : World) (hr0 : Kd.C k61 w A0 l0.length l0) (hc0 : l0.length ≤ c0) (h : impl_AreArticles.f k l0 = some r) :
  Calls Try.prog 74 #[.slice A0 l0.length c0] w fun e w' => e = .returned (.bool r) ∧ Below w.heap.size w w' := by
 have hu61 := Try.underlying61; have HR0 := am_ hr0; have HC0 := am_ hc0; clear hr0 hc0; have HB := am_ (Below.refl w.heap.size w); have H : (if (l0.length : Int) > 12 then (some false) else (impl_AreArticles.l0 k l0 l0 (l0.length : Int) 0)) = some r := h; clear h
 by_cases c2 : (l0.length : Int) > 12
 ·rw [if_pos c2] at H
  have c2b0 : decide (12 < (l0.length : Int)) = true := decide_eq_true c2; have c2b1 : decide (12 < l0.length) = true := decide_eq_true (by omega); clear c2; obtain rfl := Option.some.inj H
  go_enter Try.func74, Try.ntmps74
  go_wp2
  go_ret
  exact ⟨Zl, Zf⟩
 ·rw [if_neg c2] at H
  have c2b0 : decide (12 < (l0.length : Int)) = false := decide_eq_false c2; have c2b1 : decide (12 < l0.length) = false := decide_eq_false (by omega); clear c2; have H' := am_ H; clear H
  go_enter Try.func74, Try.ntmps74
  go_wp2
  go_loopg [10] k (fun kq v10 w' => ∃ (x10_1 : Int), v10 = .int .i64 x10_1 ∧ Aside0 (impl_AreArticles.l0 kq l0 l0 (l0.length : Int) x10_1 = some r) ∧ Aside0 (kq ≤ k) ∧ Aside0 (Below w.heap.size w w'))
  case atStart => exact ⟨(0), Za, H', ⟨Nat.le_refl _⟩, ⟨Zf⟩⟩
  case round =>
   clear H'
   try clear c2
   try clear c2b0
   try clear c2b1
   try clear p2
   obtain ⟨x10_1, rfl, HA, HK1, HB⟩ := hrel
   cases gk with
   | zero => exact absurd HA.out (by simp [impl_AreArticles.l0])
   | succ k1 =>
    have H := HA.out; clear HA; simp only [impl_AreArticles.l0] at H
    by_cases c3 : x10_1 < (l0.length : Int)
    ·rw [if_pos c3] at H
     have c3b0 := decide_eq_true c3; clear c3
     by_cases c4 : 0 ≤ x10_1
     ·rw [if_pos c4] at H
      have c4b0 := decide_eq_true c4; clear c4
      by_cases c5 : x10_1 < (l0.length : Int)
      ·rw [if_pos c5] at H
       have c5b0 := decide_eq_true c5; clear c5; replace H := Option.bind_eq_some_iff.mp H; obtain ⟨t246, A60, H⟩ := H; have A6 := am_ A60; clear A60
       by_cases c7 : t246 = true
       ·subst c7
        rw [if_pos rfl] at H
        by_cases c8 : x10_1 > 0
        ·rw [if_pos c8] at H
         have c8b0 : decide (0 < x10_1) = true := decide_eq_true c8; clear c8; obtain ⟨ji9, hji9⟩ : ∃ j_ : Int, (wrap64 (x10_1 - 1)) = j_ := ⟨_, rfl⟩
         replace H : (if 0 ≤ (ji9) then (if (ji9) < (l0.length : Int) then (if ((Op.bytesLess (((rd_T61 l0 (ji9)).f0).toList) (((rd_T61 l0 x10_1).f0).toList)) = true) then (impl_AreArticles.l0 k1 l0 l0 (l0.length : Int) (wrap64 (x10_1 + 1))) else (some false)) else (none)) else (none)) = some r := by first | (rw [hji9] at H; exact H) | (simp only [hji9] at H ⊢; exact H)
         (try rw [hji9] at A6)
         have hji9w : (IntKind.i64.wrap (x10_1 - 1)) = ji9 := (i64_w _).trans hji9
         by_cases c10 : 0 ≤ (ji9)
         ·rw [if_pos c10] at H
          have c10b0 := decide_eq_true c10; clear c10
          by_cases c11 : (ji9) < (l0.length : Int)
          ·rw [if_pos c11] at H
           have c11b0 := decide_eq_true c11; clear c11; have HS_ := am_ H; clear H; have p244 : 0 ≤ (x10_1 : Int) := of_decide_eq_true Zc; have q244 : x10_1 < (l0.length : Int) := of_decide_eq_true Zc; obtain ⟨ad244, e244, hx244_0, hx244_1, hx244_2, hx244_3, hx244_4, hx244_5, hx244_6, hx244_7, hx244_8⟩ := at_T61 HR0.out x10_1 p244 q244
           cases e244
           replace hx244_0 := cbH HB hx244_0; replace hx244_1 := cbH HB hx244_1; replace hx244_2 := cbH HB hx244_2; replace hx244_3 := cbH HB hx244_3; replace hx244_4 := cbH HB hx244_4; replace hx244_5 := cbH HB hx244_5; replace hx244_6 := cbH HB hx244_6; replace hx244_7 := cbH HB hx244_7; replace hx244_8 := cbH HB hx244_8; replace p244 := eq_true p244; replace q244 := eq_true q244
           try go_wp2_with (first | ((with_reducible refine gate_dst (N := 4) rfl ?_); refine boxZ 4 #[.string (⟨#[]⟩ : ByteArray), .int .i64 0, .int .i64 0, .int .i64 0, .int .i64 0, .int .i64 0, .int .i64 0, .int .i64 0, .int .i64 0] 61 ?_; intro gb245 hg w13 hbox hb; replace BK245 := am_ (hbox); replace GW245 := am_ ((Ze : w.heap.size ≤ gb245)); replace GE245 := GW245; replace HB := (bsZ Zf hb); clear hb hbox hg; refine ci9 BK245 ?_; intros))
           have n0_ : Aside0 ((((((((((w13.setCell ⟨gb245, 0, none⟩ (.string ((rd_T61 l0 x10_1).f0))).setCell ⟨gb245, 1, none⟩ (.int .i64 ((rd_T61 l0 x10_1).f1))).setCell ⟨gb245, 2, none⟩ (.int .i64 ((rd_T61 l0 x10_1).f2))).setCell ⟨gb245, 3, none⟩ (.int .i64 ((rd_T61 l0 x10_1).f3))).setCell ⟨gb245, 4, none⟩ (.int .i64 ((rd_T61 l0 x10_1).f4))).setCell ⟨gb245, 5, none⟩ (.int .i64 ((rd_T61 l0 x10_1).f5))).setCell ⟨gb245, 6, none⟩ (.int .i64 ((rd_T61 l0 x10_1).f6))).setCell ⟨gb245, 7, none⟩ (.int .i64 ((rd_T61 l0 x10_1).f7))).setCell ⟨gb245, 8, none⟩ (.int .i64 ((rd_T61 l0 x10_1).f8))).heap[gb245]? = some (.cells #[.string ((rd_T61 l0 x10_1).f0), .int .i64 ((rd_T61 l0 x10_1).f1), .int .i64 ((rd_T61 l0 x10_1).f2), .int .i64 ((rd_T61 l0 x10_1).f3), .int .i64 ((rd_T61 l0 x10_1).f4), .int .i64 ((rd_T61 l0 x10_1).f5), .int .i64 ((rd_T61 l0 x10_1).f6), .int .i64 ((rd_T61 l0 x10_1).f7), .int .i64 ((rd_T61 l0 x10_1).f8)] 61 (0, 0))) := ⟨(Zad BK245)⟩; have n1_ : Aside0 (Below w.heap.size w (((((((((w13.setCell ⟨gb245, 0, none⟩ (.string ((rd_T61 l0 x10_1).f0))).setCell ⟨gb245, 1, none⟩ (.int .i64 ((rd_T61 l0 x10_1).f1))).setCell ⟨gb245, 2, none⟩ (.int .i64 ((rd_T61 l0 x10_1).f2))).setCell ⟨gb245, 3, none⟩ (.int .i64 ((rd_T61 l0 x10_1).f3))).setCell ⟨gb245, 4, none⟩ (.int .i64 ((rd_T61 l0 x10_1).f4))).setCell ⟨gb245, 5, none⟩ (.int .i64 ((rd_T61 l0 x10_1).f5))).setCell ⟨gb245, 6, none⟩ (.int .i64 ((rd_T61 l0 x10_1).f6))).setCell ⟨gb245, 7, none⟩ (.int .i64 ((rd_T61 l0 x10_1).f7))).setCell ⟨gb245, 8, none⟩ (.int .i64 ((rd_T61 l0 x10_1).f8)))) := ⟨(Zh GE245)⟩
           (try clear BK245)
           (try clear HB)
           generalize (((((((((w13.setCell ⟨gb245, 0, none⟩ (.string ((rd_T61 l0 x10_1).f0))).setCell ⟨gb245, 1, none⟩ (.int .i64 ((rd_T61 l0 x10_1).f1))).setCell ⟨gb245, 2, none⟩ (.int .i64 ((rd_T61 l0 x10_1).f2))).setCell ⟨gb245, 3, none⟩ (.int .i64 ((rd_T61 l0 x10_1).f3))).setCell ⟨gb245, 4, none⟩ (.int .i64 ((rd_T61 l0 x10_1).f4))).setCell ⟨gb245, 5, none⟩ (.int .i64 ((rd_T61 l0 x10_1).f5))).setCell ⟨gb245, 6, none⟩ (.int .i64 ((rd_T61 l0 x10_1).f6))).setCell ⟨gb245, 7, none⟩ (.int .i64 ((rd_T61 l0 x10_1).f7))).setCell ⟨gb245, 8, none⟩ (.int .i64 ((rd_T61 l0 x10_1).f8))) = w15 at n0_ n1_ ⊢; have BK245 := n0_; have HB := n1_; clear n0_ n1_; replace BK245 := am_ (blk_drew BK245.out); replace HB := am_ (below_drew1 HB.out); have p247 : 0 ≤ ((ji9) : Int) := of_decide_eq_true Zc; have q247 : (ji9) < (l0.length : Int) := of_decide_eq_true Zc; obtain ⟨ad247, e247, hx247_0, hx247_1, hx247_2, hx247_3, hx247_4, hx247_5, hx247_6, hx247_7, hx247_8⟩ := at_T61 HR0.out (ji9) p247 q247; have hw247_8 := hx247_8; have hw247_7 := hx247_7; have hw247_6 := hx247_6; have hw247_5 := hx247_5; have hw247_4 := hx247_4; have hw247_3 := hx247_3; have hw247_2 := hx247_2; have hw247_1 := hx247_1; have hw247_0 := hx247_0; obtain rfl : ad244 = ad247 := (by injection e247); replace hx247_0 := cbH HB hx247_0; replace hx247_1 := cbH HB hx247_1; replace hx247_2 := cbH HB hx247_2; replace hx247_3 := cbH HB hx247_3; replace hx247_4 := cbH HB hx247_4; replace hx247_5 := cbH HB hx247_5; replace hx247_6 := cbH HB hx247_6; replace hx247_7 := cbH HB hx247_7; replace hx247_8 := cbH HB hx247_8; replace p247 := eq_true p247; replace q247 := eq_true q247; refine start_ (n := 18) (S := fun w' => w'.cell? ⟨gb245, 0, none⟩ = some (.string ((rd_T61 l0 x10_1).f0)) ∧ w'.cell? ⟨gb245, 1, none⟩ = some (.int .i64 ((rd_T61 l0 x10_1).f1)) ∧ w'.cell? ⟨gb245, 2, none⟩ = some (.int .i64 ((rd_T61 l0 x10_1).f2)) ∧ w'.cell? ⟨gb245, 3, none⟩ = some (.int .i64 ((rd_T61 l0 x10_1).f3)) ∧ w'.cell? ⟨gb245, 4, none⟩ = some (.int .i64 ((rd_T61 l0 x10_1).f4)) ∧ w'.cell? ⟨gb245, 5, none⟩ = some (.int .i64 ((rd_T61 l0 x10_1).f5)) ∧ w'.cell? ⟨gb245, 6, none⟩ = some (.int .i64 ((rd_T61 l0 x10_1).f6)) ∧ w'.cell? ⟨gb245, 7, none⟩ = some (.int .i64 ((rd_T61 l0 x10_1).f7)) ∧ w'.cell? ⟨gb245, 8, none⟩ = some (.int .i64 ((rd_T61 l0 x10_1).f8)) ∧ w'.cell? (ad244.add (((ji9)).toNat * 9)) = some (.string ((rd_T61 l0 (ji9)).f0)) ∧ w'.cell? ⟨(ad244.add (((ji9)).toNat * 9)).block, (ad244.add (((ji9)).toNat * 9)).off + 1, none⟩ = some (.int .i64 ((rd_T61 l0 (ji9)).f1)) ∧ w'.cell? ⟨(ad244.add (((ji9)).toNat * 9)).block, (ad244.add (((ji9)).toNat * 9)).off + 2, none⟩ = some (.int .i64 ((rd_T61 l0 (ji9)).f2)) ∧ w'.cell? ⟨(ad244.add (((ji9)).toNat * 9)).block, (ad244.add (((ji9)).toNat * 9)).off + 3, none⟩ = some (.int .i64 ((rd_T61 l0 (ji9)).f3)) ∧ w'.cell? ⟨(ad244.add (((ji9)).toNat * 9)).block, (ad244.add (((ji9)).toNat * 9)).off + 4, none⟩ = some (.int .i64 ((rd_T61 l0 (ji9)).f4)) ∧ w'.cell? ⟨(ad244.add (((ji9)).toNat * 9)).block, (ad244.add (((ji9)).toNat * 9)).off + 5, none⟩ = some (.int .i64 ((rd_T61 l0 (ji9)).f5)) ∧ w'.cell? ⟨(ad244.add (((ji9)).toNat * 9)).block, (ad244.add (((ji9)).toNat * 9)).off + 6, none⟩ = some (.int .i64 ((rd_T61 l0 (ji9)).f6)) ∧ w'.cell? ⟨(ad244.add (((ji9)).toNat * 9)).block, (ad244.add (((ji9)).toNat * 9)).off + 7, none⟩ = some (.int .i64 ((rd_T61 l0 (ji9)).f7)) ∧ w'.cell? ⟨(ad244.add (((ji9)).toNat * 9)).block, (ad244.add (((ji9)).toNat * 9)).off + 8, none⟩ = some (.int .i64 ((rd_T61 l0 (ji9)).f8))) (ds := []) (bT 18 0) Zm rfl rfl ⟨(blk_cell BK245.out 0).trans rfl, (blk_cell BK245.out 1).trans rfl, (blk_cell BK245.out 2).trans rfl, (blk_cell BK245.out 3).trans rfl, (blk_cell BK245.out 4).trans rfl, (blk_cell BK245.out 5).trans rfl, (blk_cell BK245.out 6).trans rfl, (blk_cell BK245.out 7).trans rfl, (blk_cell BK245.out 8).trans rfl, (cbH HB hw247_0 :), (cbH HB hw247_1 :), (cbH HB hw247_2 :), (cbH HB hw247_3 :), (cbH HB hw247_4 :), (cbH HB hw247_5 :), (cbH HB hw247_6 :), (cbH HB hw247_7 :), (cbH HB hw247_8 :)⟩ (fun hHeld => ?_); refine with_tabW impl_AreArticles.tab6 impl_AreArticles.bits6 (fun HT_ HW_ => ?_)
           generalize w15.drew = w16 at BK245 HB hx247_0 hx247_1 hx247_2 hx247_3 hx247_4 hx247_5 hx247_6 hx247_7 hx247_8 hHeld ⊢; refine takeZ18 HT_ HW_ 0 (some 15) (bT 18 1) hHeld ?_; refine one_ (i := 1) (N := some 16) (bT 18 2) rfl rfl (one_of HT_.out Zm) (by decide) (fun K hK => ?_); refine goes_ Try.func101 Zm rfl #[.agg #[.string ((rd_T61 l0 x10_1).f0), .int .i64 ((rd_T61 l0 x10_1).f1), .int .i64 ((rd_T61 l0 x10_1).f2), .int .i64 ((rd_T61 l0 x10_1).f3), .int .i64 ((rd_T61 l0 x10_1).f4), .int .i64 ((rd_T61 l0 x10_1).f5), .int .i64 ((rd_T61 l0 x10_1).f6), .int .i64 ((rd_T61 l0 x10_1).f7), .int .i64 ((rd_T61 l0 x10_1).f8)]] (by rfl) rfl rfl Zn ?_
           with_reducible refine (impl_IsArticle.calls k1 ((rd_T61 l0 x10_1).f0) ((rd_T61 l0 x10_1).f1) ((rd_T61 l0 x10_1).f2) ((rd_T61 l0 x10_1).f3) ((rd_T61 l0 x10_1).f4) ((rd_T61 l0 x10_1).f5) ((rd_T61 l0 x10_1).f6) ((rd_T61 l0 x10_1).f7) ((rd_T61 l0 x10_1).f8) true _ A6.out).mono ?_
           rintro e w17 ⟨rfl, hb⟩; refine ⟨_, rfl, ?_⟩; replace BK245 := (bkZ BK245 hb); replace HB := (bsZ (Zh GE245) hb)
           (try clear hb)
           (try clear hb2)
           (try clear hk)
           (try clear hi)
           refine hK.out _ _ (by exact ⟨(blk_cell BK245.out 0).trans rfl, (blk_cell BK245.out 1).trans rfl, (blk_cell BK245.out 2).trans rfl, (blk_cell BK245.out 3).trans rfl, (blk_cell BK245.out 4).trans rfl, (blk_cell BK245.out 5).trans rfl, (blk_cell BK245.out 6).trans rfl, (blk_cell BK245.out 7).trans rfl, (blk_cell BK245.out 8).trans rfl, (cbH HB hw247_0 :), (cbH HB hw247_1 :), (cbH HB hw247_2 :), (cbH HB hw247_3 :), (cbH HB hw247_4 :), (cbH HB hw247_5 :), (cbH HB hw247_6 :), (cbH HB hw247_7 :), (cbH HB hw247_8 :)⟩) (fun hHeld => ?_); clear hK K; refine normZ 16 ?_; refine pureZ HT_ 2 (some 17) (bT 18 3) ?_; refine pureZ HT_ 3 (some 18) (bT 18 4) ?_; refine pureZ HT_ 4 (some 19) (bT 18 5) ?_; refine pureZ HT_ 5 (some 20) (bT 18 6) ?_; refine pureZ HT_ 6 (some 21) (bT 18 7) ?_; refine pureZ HT_ 7 (some 22) (bT 18 8) ?_; refine pureZ HT_ 8 (some 23) (bT 18 9) ?_; refine pureZ HT_ 9 (some 24) (bT 18 10) ?_; refine pureZ HT_ 10 (some 25) (bT 18 11) ?_; refine pureZ HT_ 11 (some 26) (bT 18 12) ?_; refine pureZ HT_ 13 (some 28) (bB 18 12287) ?_; refine takeZ18 HT_ HW_ 12 (some 27) (bT 18 14) hHeld ?_; refine takeZ18 HT_ HW_ 14 (some 29) (bT 18 15) hHeld ?_; refine pureZ HT_ 15 (some 30) (bT 18 16) ?_; refine pureZ HT_ 16 (some 31) (bT 18 17) ?_; refine pureZ HT_ 17 (some 32) (bT 18 18) ?_; refine done_ (done_of HT_.out Zm) ?_
           by_cases c12 : ((Op.bytesLess (((rd_T61 l0 (ji9)).f0).toList) (((rd_T61 l0 x10_1).f0).toList)) = true)
           ·have H := HS_.out
            clear HS_; rw [if_pos c12] at H; have c12b0 : (Op.bytesLess (((rd_T61 l0 (ji9)).f0).toList) (((rd_T61 l0 x10_1).f0).toList)) = true := c12; clear c12; have H' := am_ H; clear H
            (try simp only [c12b0, Bool.not_true, Bool.not_false])
            try go_wp2
            go_roundg k1
            case measure => have := HK1.out; omega
            case rel => exact ⟨(wrap64 (x10_1 + 1)), Za, H', ⟨Zd⟩, ⟨(Zh GE245)⟩⟩
           ·have H := HS_.out
            clear HS_; rw [if_neg c12] at H
            have c12b0 : (Op.bytesLess (((rd_T61 l0 (ji9)).f0).toList) (((rd_T61 l0 x10_1).f0).toList)) = false := by simpa using c12
            clear c12; obtain rfl := Option.some.inj H
            (try simp only [c12b0, Bool.not_true, Bool.not_false])
            try go_wp2
            go_ret
            exact ⟨by first | rfl | (simp [errW_none, errW_some] <;> rfl) | (simp only [← hji9]; first | rfl | (simp [errW_none, errW_some] <;> rfl)) | (simp [*, errW_none, errW_some] <;> rfl), (Zh GE245)⟩
          ·rw [if_neg c11] at H
           exact absurd H (by simp)
         ·rw [if_neg c10] at H
          exact absurd H (by simp)
        ·rw [if_neg c8] at H
         have c8b0 : decide (0 < x10_1) = false := decide_eq_false c8; clear c8; have H' := am_ H; clear H; have p244 : 0 ≤ (x10_1 : Int) := of_decide_eq_true Zc; have q244 : x10_1 < (l0.length : Int) := of_decide_eq_true Zc; obtain ⟨ad244, e244, hx244_0, hx244_1, hx244_2, hx244_3, hx244_4, hx244_5, hx244_6, hx244_7, hx244_8⟩ := at_T61 HR0.out x10_1 p244 q244
         cases e244
         replace hx244_0 := cbH HB hx244_0; replace hx244_1 := cbH HB hx244_1; replace hx244_2 := cbH HB hx244_2; replace hx244_3 := cbH HB hx244_3; replace hx244_4 := cbH HB hx244_4; replace hx244_5 := cbH HB hx244_5; replace hx244_6 := cbH HB hx244_6; replace hx244_7 := cbH HB hx244_7; replace hx244_8 := cbH HB hx244_8; replace p244 := eq_true p244; replace q244 := eq_true q244
         try go_wp2_with (first | ((with_reducible refine gate_dst (N := 4) rfl ?_); refine boxZ 4 #[.string (⟨#[]⟩ : ByteArray), .int .i64 0, .int .i64 0, .int .i64 0, .int .i64 0, .int .i64 0, .int .i64 0, .int .i64 0, .int .i64 0] 61 ?_; intro gb245 hg w23 hbox hb; replace BK245 := am_ (hbox); replace GW245 := am_ ((Ze : w.heap.size ≤ gb245)); replace GE245 := GW245; replace HB := (bsZ Zf hb); clear hb hbox hg; refine ci9 BK245 ?_; intros))
         have n0_ : Aside0 ((((((((((w23.setCell ⟨gb245, 0, none⟩ (.string ((rd_T61 l0 x10_1).f0))).setCell ⟨gb245, 1, none⟩ (.int .i64 ((rd_T61 l0 x10_1).f1))).setCell ⟨gb245, 2, none⟩ (.int .i64 ((rd_T61 l0 x10_1).f2))).setCell ⟨gb245, 3, none⟩ (.int .i64 ((rd_T61 l0 x10_1).f3))).setCell ⟨gb245, 4, none⟩ (.int .i64 ((rd_T61 l0 x10_1).f4))).setCell ⟨gb245, 5, none⟩ (.int .i64 ((rd_T61 l0 x10_1).f5))).setCell ⟨gb245, 6, none⟩ (.int .i64 ((rd_T61 l0 x10_1).f6))).setCell ⟨gb245, 7, none⟩ (.int .i64 ((rd_T61 l0 x10_1).f7))).setCell ⟨gb245, 8, none⟩ (.int .i64 ((rd_T61 l0 x10_1).f8))).heap[gb245]? = some (.cells #[.string ((rd_T61 l0 x10_1).f0), .int .i64 ((rd_T61 l0 x10_1).f1), .int .i64 ((rd_T61 l0 x10_1).f2), .int .i64 ((rd_T61 l0 x10_1).f3), .int .i64 ((rd_T61 l0 x10_1).f4), .int .i64 ((rd_T61 l0 x10_1).f5), .int .i64 ((rd_T61 l0 x10_1).f6), .int .i64 ((rd_T61 l0 x10_1).f7), .int .i64 ((rd_T61 l0 x10_1).f8)] 61 (0, 0))) := ⟨(Zad BK245)⟩; have n1_ : Aside0 (Below w.heap.size w (((((((((w23.setCell ⟨gb245, 0, none⟩ (.string ((rd_T61 l0 x10_1).f0))).setCell ⟨gb245, 1, none⟩ (.int .i64 ((rd_T61 l0 x10_1).f1))).setCell ⟨gb245, 2, none⟩ (.int .i64 ((rd_T61 l0 x10_1).f2))).setCell ⟨gb245, 3, none⟩ (.int .i64 ((rd_T61 l0 x10_1).f3))).setCell ⟨gb245, 4, none⟩ (.int .i64 ((rd_T61 l0 x10_1).f4))).setCell ⟨gb245, 5, none⟩ (.int .i64 ((rd_T61 l0 x10_1).f5))).setCell ⟨gb245, 6, none⟩ (.int .i64 ((rd_T61 l0 x10_1).f6))).setCell ⟨gb245, 7, none⟩ (.int .i64 ((rd_T61 l0 x10_1).f7))).setCell ⟨gb245, 8, none⟩ (.int .i64 ((rd_T61 l0 x10_1).f8)))) := ⟨(Zh GE245)⟩
         (try clear BK245)
         (try clear HB)
         generalize (((((((((w23.setCell ⟨gb245, 0, none⟩ (.string ((rd_T61 l0 x10_1).f0))).setCell ⟨gb245, 1, none⟩ (.int .i64 ((rd_T61 l0 x10_1).f1))).setCell ⟨gb245, 2, none⟩ (.int .i64 ((rd_T61 l0 x10_1).f2))).setCell ⟨gb245, 3, none⟩ (.int .i64 ((rd_T61 l0 x10_1).f3))).setCell ⟨gb245, 4, none⟩ (.int .i64 ((rd_T61 l0 x10_1).f4))).setCell ⟨gb245, 5, none⟩ (.int .i64 ((rd_T61 l0 x10_1).f5))).setCell ⟨gb245, 6, none⟩ (.int .i64 ((rd_T61 l0 x10_1).f6))).setCell ⟨gb245, 7, none⟩ (.int .i64 ((rd_T61 l0 x10_1).f7))).setCell ⟨gb245, 8, none⟩ (.int .i64 ((rd_T61 l0 x10_1).f8))) = w25 at n0_ n1_ ⊢; have BK245 := n0_; have HB := n1_; clear n0_ n1_; replace BK245 := am_ (blk_drew BK245.out); replace HB := am_ (below_drew1 HB.out); refine start_ (n := 18) (S := fun w' => w'.cell? ⟨gb245, 0, none⟩ = some (.string ((rd_T61 l0 x10_1).f0)) ∧ w'.cell? ⟨gb245, 1, none⟩ = some (.int .i64 ((rd_T61 l0 x10_1).f1)) ∧ w'.cell? ⟨gb245, 2, none⟩ = some (.int .i64 ((rd_T61 l0 x10_1).f2)) ∧ w'.cell? ⟨gb245, 3, none⟩ = some (.int .i64 ((rd_T61 l0 x10_1).f3)) ∧ w'.cell? ⟨gb245, 4, none⟩ = some (.int .i64 ((rd_T61 l0 x10_1).f4)) ∧ w'.cell? ⟨gb245, 5, none⟩ = some (.int .i64 ((rd_T61 l0 x10_1).f5)) ∧ w'.cell? ⟨gb245, 6, none⟩ = some (.int .i64 ((rd_T61 l0 x10_1).f6)) ∧ w'.cell? ⟨gb245, 7, none⟩ = some (.int .i64 ((rd_T61 l0 x10_1).f7)) ∧ w'.cell? ⟨gb245, 8, none⟩ = some (.int .i64 ((rd_T61 l0 x10_1).f8))) (ds := []) (bT 18 0) Zm rfl rfl ⟨(blk_cell BK245.out 0).trans rfl, (blk_cell BK245.out 1).trans rfl, (blk_cell BK245.out 2).trans rfl, (blk_cell BK245.out 3).trans rfl, (blk_cell BK245.out 4).trans rfl, (blk_cell BK245.out 5).trans rfl, (blk_cell BK245.out 6).trans rfl, (blk_cell BK245.out 7).trans rfl, (blk_cell BK245.out 8).trans rfl⟩ (fun hHeld => ?_); refine with_tabW impl_AreArticles.tab6 impl_AreArticles.bits6 (fun HT_ HW_ => ?_); generalize w25.drew = w26 at BK245 HB hHeld ⊢; refine takeZ9 HT_ HW_ 0 (some 15) (bT 18 1) hHeld ?_; refine one_ (i := 1) (N := some 16) (bT 18 2) rfl rfl (one_of HT_.out Zm) (by decide) (fun K hK => ?_); refine goes_ Try.func101 Zm rfl #[.agg #[.string ((rd_T61 l0 x10_1).f0), .int .i64 ((rd_T61 l0 x10_1).f1), .int .i64 ((rd_T61 l0 x10_1).f2), .int .i64 ((rd_T61 l0 x10_1).f3), .int .i64 ((rd_T61 l0 x10_1).f4), .int .i64 ((rd_T61 l0 x10_1).f5), .int .i64 ((rd_T61 l0 x10_1).f6), .int .i64 ((rd_T61 l0 x10_1).f7), .int .i64 ((rd_T61 l0 x10_1).f8)]] (by rfl) rfl rfl Zn ?_
         with_reducible refine (impl_IsArticle.calls k1 ((rd_T61 l0 x10_1).f0) ((rd_T61 l0 x10_1).f1) ((rd_T61 l0 x10_1).f2) ((rd_T61 l0 x10_1).f3) ((rd_T61 l0 x10_1).f4) ((rd_T61 l0 x10_1).f5) ((rd_T61 l0 x10_1).f6) ((rd_T61 l0 x10_1).f7) ((rd_T61 l0 x10_1).f8) true _ A6.out).mono ?_
         rintro e w27 ⟨rfl, hb⟩; refine ⟨_, rfl, ?_⟩; replace BK245 := (bkZ BK245 hb); replace HB := (bsZ (Zh GE245) hb)
         (try clear hb)
         (try clear hb2)
         (try clear hk)
         (try clear hi)
         refine hK.out _ _ (Zae BK245) (fun hHeld => ?_); clear hK K; refine normZ 16 ?_; refine pureZ HT_ 2 (some 17) (bT 18 3) ?_; refine pureZ HT_ 3 (some 18) (bT 18 4) ?_; refine pureZ HT_ 4 (some 19) (bT 18 5) ?_; refine pureZ HT_ 5 (some 20) (bT 18 6) ?_; refine pureZ HT_ 6 (some 21) (bT 18 7) ?_; refine pureU HT_ 7 (some 22) (bT 18 8) ?_; refine pureU HT_ 8 (some 23) (bT 18 9) ?_; refine pureU HT_ 9 (some 24) (bT 18 10) ?_; refine pureU HT_ 10 (some 25) (bT 18 11) ?_; refine pureU HT_ 11 (some 26) (bT 18 12) ?_; refine pureU HT_ 12 (some 27) (bT 18 13) ?_; refine pureU HT_ 13 (some 28) (bT 18 14) ?_; refine pureU HT_ 14 (some 29) (bT 18 15) ?_; refine pureU HT_ 15 (some 30) (bT 18 16) ?_; refine pureZ HT_ 16 (some 31) (bT 18 17) ?_; refine pureZ HT_ 17 (some 32) (bT 18 18) ?_; refine done_ (done_of HT_.out Zm) ?_
         try go_wp2
         go_roundg k1
         case measure => have := HK1.out; omega
         case rel => exact ⟨(wrap64 (x10_1 + 1)), Za, H', ⟨Zd⟩, ⟨(Zh GE245)⟩⟩
       ·replace c7 := Bool.eq_false_iff.mpr c7
        subst c7; rw [if_neg (show ¬ (false = true) by decide)] at H; obtain rfl := Option.some.inj H; have p244 : 0 ≤ (x10_1 : Int) := of_decide_eq_true Zc; have q244 : x10_1 < (l0.length : Int) := of_decide_eq_true Zc; obtain ⟨ad244, e244, hx244_0, hx244_1, hx244_2, hx244_3, hx244_4, hx244_5, hx244_6, hx244_7, hx244_8⟩ := at_T61 HR0.out x10_1 p244 q244
        cases e244
        replace hx244_0 := cbH HB hx244_0; replace hx244_1 := cbH HB hx244_1; replace hx244_2 := cbH HB hx244_2; replace hx244_3 := cbH HB hx244_3; replace hx244_4 := cbH HB hx244_4; replace hx244_5 := cbH HB hx244_5; replace hx244_6 := cbH HB hx244_6; replace hx244_7 := cbH HB hx244_7; replace hx244_8 := cbH HB hx244_8; replace p244 := eq_true p244; replace q244 := eq_true q244
        try go_wp2_with (first | ((with_reducible refine gate_dst (N := 4) rfl ?_); refine boxZ 4 #[.string (⟨#[]⟩ : ByteArray), .int .i64 0, .int .i64 0, .int .i64 0, .int .i64 0, .int .i64 0, .int .i64 0, .int .i64 0, .int .i64 0] 61 ?_; intro gb245 hg w28 hbox hb; replace BK245 := am_ (hbox); replace GW245 := am_ ((Ze : w.heap.size ≤ gb245)); replace GE245 := GW245; replace HB := (bsZ Zf hb); clear hb hbox hg; refine ci9 BK245 ?_; intros))
        have n0_ : Aside0 ((((((((((w28.setCell ⟨gb245, 0, none⟩ (.string ((rd_T61 l0 x10_1).f0))).setCell ⟨gb245, 1, none⟩ (.int .i64 ((rd_T61 l0 x10_1).f1))).setCell ⟨gb245, 2, none⟩ (.int .i64 ((rd_T61 l0 x10_1).f2))).setCell ⟨gb245, 3, none⟩ (.int .i64 ((rd_T61 l0 x10_1).f3))).setCell ⟨gb245, 4, none⟩ (.int .i64 ((rd_T61 l0 x10_1).f4))).setCell ⟨gb245, 5, none⟩ (.int .i64 ((rd_T61 l0 x10_1).f5))).setCell ⟨gb245, 6, none⟩ (.int .i64 ((rd_T61 l0 x10_1).f6))).setCell ⟨gb245, 7, none⟩ (.int .i64 ((rd_T61 l0 x10_1).f7))).setCell ⟨gb245, 8, none⟩ (.int .i64 ((rd_T61 l0 x10_1).f8))).heap[gb245]? = some (.cells #[.string ((rd_T61 l0 x10_1).f0), .int .i64 ((rd_T61 l0 x10_1).f1), .int .i64 ((rd_T61 l0 x10_1).f2), .int .i64 ((rd_T61 l0 x10_1).f3), .int .i64 ((rd_T61 l0 x10_1).f4), .int .i64 ((rd_T61 l0 x10_1).f5), .int .i64 ((rd_T61 l0 x10_1).f6), .int .i64 ((rd_T61 l0 x10_1).f7), .int .i64 ((rd_T61 l0 x10_1).f8)] 61 (0, 0))) := ⟨(Zad BK245)⟩; have n1_ : Aside0 (Below w.heap.size w (((((((((w28.setCell ⟨gb245, 0, none⟩ (.string ((rd_T61 l0 x10_1).f0))).setCell ⟨gb245, 1, none⟩ (.int .i64 ((rd_T61 l0 x10_1).f1))).setCell ⟨gb245, 2, none⟩ (.int .i64 ((rd_T61 l0 x10_1).f2))).setCell ⟨gb245, 3, none⟩ (.int .i64 ((rd_T61 l0 x10_1).f3))).setCell ⟨gb245, 4, none⟩ (.int .i64 ((rd_T61 l0 x10_1).f4))).setCell ⟨gb245, 5, none⟩ (.int .i64 ((rd_T61 l0 x10_1).f5))).setCell ⟨gb245, 6, none⟩ (.int .i64 ((rd_T61 l0 x10_1).f6))).setCell ⟨gb245, 7, none⟩ (.int .i64 ((rd_T61 l0 x10_1).f7))).setCell ⟨gb245, 8, none⟩ (.int .i64 ((rd_T61 l0 x10_1).f8)))) := ⟨(Zh GE245)⟩
        (try clear BK245)
        (try clear HB)
        generalize (((((((((w28.setCell ⟨gb245, 0, none⟩ (.string ((rd_T61 l0 x10_1).f0))).setCell ⟨gb245, 1, none⟩ (.int .i64 ((rd_T61 l0 x10_1).f1))).setCell ⟨gb245, 2, none⟩ (.int .i64 ((rd_T61 l0 x10_1).f2))).setCell ⟨gb245, 3, none⟩ (.int .i64 ((rd_T61 l0 x10_1).f3))).setCell ⟨gb245, 4, none⟩ (.int .i64 ((rd_T61 l0 x10_1).f4))).setCell ⟨gb245, 5, none⟩ (.int .i64 ((rd_T61 l0 x10_1).f5))).setCell ⟨gb245, 6, none⟩ (.int .i64 ((rd_T61 l0 x10_1).f6))).setCell ⟨gb245, 7, none⟩ (.int .i64 ((rd_T61 l0 x10_1).f7))).setCell ⟨gb245, 8, none⟩ (.int .i64 ((rd_T61 l0 x10_1).f8))) = w30 at n0_ n1_ ⊢; have BK245 := n0_; have HB := n1_; clear n0_ n1_; replace BK245 := am_ (blk_drew BK245.out); replace HB := am_ (below_drew1 HB.out); refine start_ (n := 18) (S := fun w' => w'.cell? ⟨gb245, 0, none⟩ = some (.string ((rd_T61 l0 x10_1).f0)) ∧ w'.cell? ⟨gb245, 1, none⟩ = some (.int .i64 ((rd_T61 l0 x10_1).f1)) ∧ w'.cell? ⟨gb245, 2, none⟩ = some (.int .i64 ((rd_T61 l0 x10_1).f2)) ∧ w'.cell? ⟨gb245, 3, none⟩ = some (.int .i64 ((rd_T61 l0 x10_1).f3)) ∧ w'.cell? ⟨gb245, 4, none⟩ = some (.int .i64 ((rd_T61 l0 x10_1).f4)) ∧ w'.cell? ⟨gb245, 5, none⟩ = some (.int .i64 ((rd_T61 l0 x10_1).f5)) ∧ w'.cell? ⟨gb245, 6, none⟩ = some (.int .i64 ((rd_T61 l0 x10_1).f6)) ∧ w'.cell? ⟨gb245, 7, none⟩ = some (.int .i64 ((rd_T61 l0 x10_1).f7)) ∧ w'.cell? ⟨gb245, 8, none⟩ = some (.int .i64 ((rd_T61 l0 x10_1).f8))) (ds := []) (bT 18 0) Zm rfl rfl ⟨(blk_cell BK245.out 0).trans rfl, (blk_cell BK245.out 1).trans rfl, (blk_cell BK245.out 2).trans rfl, (blk_cell BK245.out 3).trans rfl, (blk_cell BK245.out 4).trans rfl, (blk_cell BK245.out 5).trans rfl, (blk_cell BK245.out 6).trans rfl, (blk_cell BK245.out 7).trans rfl, (blk_cell BK245.out 8).trans rfl⟩ (fun hHeld => ?_); refine with_tabW impl_AreArticles.tab6 impl_AreArticles.bits6 (fun HT_ HW_ => ?_); generalize w30.drew = w31 at BK245 HB hHeld ⊢; refine takeZ9 HT_ HW_ 0 (some 15) (bT 18 1) hHeld ?_; refine one_ (i := 1) (N := some 16) (bT 18 2) rfl rfl (one_of HT_.out Zm) (by decide) (fun K hK => ?_); refine goes_ Try.func101 Zm rfl #[.agg #[.string ((rd_T61 l0 x10_1).f0), .int .i64 ((rd_T61 l0 x10_1).f1), .int .i64 ((rd_T61 l0 x10_1).f2), .int .i64 ((rd_T61 l0 x10_1).f3), .int .i64 ((rd_T61 l0 x10_1).f4), .int .i64 ((rd_T61 l0 x10_1).f5), .int .i64 ((rd_T61 l0 x10_1).f6), .int .i64 ((rd_T61 l0 x10_1).f7), .int .i64 ((rd_T61 l0 x10_1).f8)]] (by rfl) rfl rfl Zn ?_
        with_reducible refine (impl_IsArticle.calls k1 ((rd_T61 l0 x10_1).f0) ((rd_T61 l0 x10_1).f1) ((rd_T61 l0 x10_1).f2) ((rd_T61 l0 x10_1).f3) ((rd_T61 l0 x10_1).f4) ((rd_T61 l0 x10_1).f5) ((rd_T61 l0 x10_1).f6) ((rd_T61 l0 x10_1).f7) ((rd_T61 l0 x10_1).f8) false _ A6.out).mono ?_
        rintro e w32 ⟨rfl, hb⟩; refine ⟨_, rfl, ?_⟩; replace BK245 := (bkZ BK245 hb); replace HB := (bsZ (Zh GE245) hb)
        (try clear hb)
        (try clear hb2)
        (try clear hk)
        (try clear hi)
        refine hK.out _ _ (Zae BK245) (fun hHeld => ?_); clear hK K; refine normZ 16 ?_; refine pureZ HT_ 2 (some 17) (bT 18 3) ?_; refine pureZ HT_ 3 (some 18) (bT 18 4) ?_; refine pureU HT_ 4 (some 19) (bT 18 5) ?_; refine pureU HT_ 5 (some 20) (bT 18 6) ?_; refine pureU HT_ 6 (some 21) (bT 18 7) ?_; refine pureU HT_ 7 (some 22) (bT 18 8) ?_; refine pureU HT_ 8 (some 23) (bT 18 9) ?_; refine pureU HT_ 9 (some 24) (bT 18 10) ?_; refine pureU HT_ 10 (some 25) (bT 18 11) ?_; refine pureU HT_ 11 (some 26) (bT 18 12) ?_; refine pureU HT_ 12 (some 27) (bT 18 13) ?_; refine pureU HT_ 13 (some 28) (bT 18 14) ?_; refine pureU HT_ 14 (some 29) (bT 18 15) ?_; refine pureU HT_ 15 (some 30) (bT 18 16) ?_; refine pureU HT_ 16 (some 31) (bT 18 17) ?_; refine pureZ HT_ 17 (some 32) (bT 18 18) ?_; refine done_ (done_of HT_.out Zm) ?_
        try go_wp2
        go_ret
        exact ⟨Zl, (Zh GE245)⟩
      ·rw [if_neg c5] at H
       exact absurd H (by simp)
     ·rw [if_neg c4] at H
      exact absurd H (by simp)
    ·rw [if_neg c3] at H
     have c3b0 := decide_eq_false c3; clear c3; obtain rfl := Option.some.inj H
     go_wp2
     go_ret
     exact ⟨Zl, Zf⟩
mutual
def impl_IsShow.j0 : Nat → Bool → List (S104) → List (S61) → List (S58) → Option (Bool)
 | 0, _, _, _, _ => none
 | k + 1, x20, x249000, x249001, x249002 => if x20 = true then (some false) else (impl_IsShow.l0 k x249002 (x249002.length : Int) 0 x249000 x249001 x249002)
def impl_IsShow.l0 : Nat → List (S58) → Int → Int → List (S104) → List (S61) → List (S58) → Option (Bool)
 | 0, _, _, _, _, _, _ => none
 | k + 1, x22, x23, x24, x249000, x249001, x249002 => if x24 < x23 then (if 0 ≤ x24 then (if x24 < (x22.length : Int) then ((impl_within.f ((rd_T58 x22 x24).f3) 0 11).bind fun t253 => (if t253 = true then ((impl_firedAt.f k x249000 x249001 x249002 ((rd_T58 x22 x24).f0) ((rd_T58 x22 x24).f1) ((rd_T58 x22 x24).f2) ((rd_T58 x22 x24).f3)).bind fun t254 => (if t254 < 0 then (some false) else (impl_IsShow.l0 k x22 x23 (wrap64 (x24 + 1)) x249000 x249001 x249002))) else (some false))) else (none)) else (none)) else (some true)
end
def impl_IsShow.f (k : Nat) (l0_0 : List (S104)) (l0_1 : List (S61)) (l0_2 : List (S58)) : Option (Bool) := (impl_IsScore.f k l0_0).bind fun t249 => (if t249 = true then ((impl_AreArticles.f k l0_1).bind fun t250 => (if t250 = true then (impl_IsShow.j0 k (decide ((l0_2.length : Int) > 20)) l0_0 l0_1 l0_2) else (impl_IsShow.j0 k true l0_0 l0_1 l0_2))) else (impl_IsShow.j0 k true l0_0 l0_1 l0_2))
set_option maxHeartbeats 8000000 in
set_option maxRecDepth 100000 in
theorem impl_IsShow.calls (k : Nat) (A0_0 : Option Addr) (c0_0 : Nat) (l0_0 : List (S104)) (A0_1 : Option Addr) (c0_1 : Nat) (l0_1 : List (S61)) (A0_2 : Option Addr) (c0_2 : Nat) (l0_2 : List (S58)) (r : Bool) (w : World) (hr0_0 : Kd.C k104 w A0_0 l0_0.length l0_0) (hc0_0 : l0_0.length ≤ c0_0) (hr0_1 : Kd.C k61 w A0_1 l0_1.length l0_1) (hc0_1 : l0_1.length ≤ c0_1) (hr0_2 : Kd.C k58 w A0_2 l0_2.length l0_2) (hc0_2 : l0_2.length ≤ c0_2) (h : impl_IsShow.f k l0_0 l0_1 l0_2 = some r) :
  Calls Try.prog 30 #[.agg #[.slice A0_0 l0_0.length c0_0, .slice A0_1 l0_1.length c0_1, .slice A0_2 l0_2.length c0_2]] w fun e w' => e = .returned (.bool r) ∧ Below w.heap.size w w' := by
 have hu35 := Try.underlying35; have hu58 := Try.underlying58; have HR0_0 := am_ hr0_0; have HC0_0 := am_ hc0_0; clear hr0_0 hc0_0; have HR0_1 := am_ hr0_1; have HC0_1 := am_ hc0_1; clear hr0_1 hc0_1; have HR0_2 := am_ hr0_2; have HC0_2 := am_ hc0_2; clear hr0_2 hc0_2; have HB := am_ (Below.refl w.heap.size w); have H : ((impl_IsScore.f k l0_0).bind fun t249 => (if t249 = true then ((impl_AreArticles.f k l0_1).bind fun t250 => (if t250 = true then (impl_IsShow.j0 k (decide ((l0_2.length : Int) > 20)) l0_0 l0_1 l0_2) else (impl_IsShow.j0 k true l0_0 l0_1 l0_2))) else (impl_IsShow.j0 k true l0_0 l0_1 l0_2))) = some r := h; clear h; have HC2 := am_ H; clear H
 go_enter Try.func30, Try.ntmps30
 go_upto_region 1 with (first | ((with_reducible refine gate_dst (N := 1) rfl ?_); (try (refine gate_guard (by rfl) ?_; dsimp only)); refine boxZ 1 #[.slice A0_0 l0_0.length c0_0, .slice A0_1 l0_1.length c0_1, .slice A0_2 l0_2.length c0_2] 35 ?_; intro gb248 hg w3 hbox hb; replace BK248 := am_ (hbox); replace GW248 := am_ ((Ze : w.heap.size ≤ gb248)); replace GE248 := GW248; replace HB := (bsZ Zf hb); clear hb hbox hg))
 (try simp only [Act.put, List.setIfInBounds_toArray, List.set_cons_zero, List.set_cons_succ])
 go_cut [20] (fun v20 wc => ∃ (kq : Nat) (x20_1 : Bool), v20 = .bool x20_1 ∧ Aside0 (impl_IsShow.j0 kq x20_1 l0_0 l0_1 l0_2 = some r) ∧ Aside0 (kq ≤ k) ∧ Aside0 (wc.heap[gb248]? = some (.cells #[(.slice A0_0 l0_0.length c0_0), (.slice A0_1 l0_1.length c0_1), (.slice A0_2 l0_2.length c0_2)] 35 (0, 0))) ∧ Aside0 (Below w.heap.size w wc))
 case first =>
  have H := HC2.out; clear HC2; replace H := Option.bind_eq_some_iff.mp H; obtain ⟨t249, A40, H⟩ := H; have A4 := am_ A40; clear A40; have HS_ := am_ H; clear H; refine ci3 BK248 ?_; intros
  go_wp2_with (first | ((with_reducible refine gate_callee (f := 73) rfl ?_); refine gZ 7 Try.func73 #[.slice A0_0 l0_0.length c0_0] ?_; (with_reducible refine (impl_IsScore.calls k _ _ l0_0 t249 _ ?_ ?_ A4.out).mono ?_); exact (Zi HR0_0); exact HC0_0.out; rintro e w9 ⟨rfl, hb⟩; refine ⟨_, rfl, ?_⟩; replace BK248 := (bkZ BK248 hb); replace HB := (bsZ (Zh GE248) hb); clear hb; refine ?roundEnd))
  case roundEnd =>
   by_cases c5 : t249 = true
   ·have H := HS_.out
    clear HS_; subst c5; rw [if_pos rfl] at H; replace H := Option.bind_eq_some_iff.mp H; obtain ⟨t250, A60, H⟩ := H; have A6 := am_ A60; clear A60; have HS_ := am_ H; clear H; refine ci3 BK248 ?_; intros
    go_wp2_with (first | (go_at_call 74; (with_reducible refine (impl_AreArticles.calls k _ _ l0_1 t250 _ ?_ ?_ A6.out).mono ?_); exact (Zi HR0_1); exact HC0_1.out; rintro e w11 ⟨rfl, hb⟩; replace BK248 := (bkZ BK248 hb); replace HB := (bsZ (Zh GE248) hb); clear hb; refine ?roundEnd))
    case roundEnd =>
     by_cases c7 : t250 = true
     ·have H := HS_.out
      clear HS_; subst c7; rw [if_pos rfl] at H; have H' := am_ H; clear H; refine ci3 BK248 ?_; intros
      go_wp2_with (first | fail)
      go_meet
      case rel => exact ⟨_, (decide ((l0_2.length : Int) > 20)), Za, H', ⟨Zp⟩, ⟨(Zq BK248)⟩, ⟨(Zh GE248)⟩⟩
     ·have H := HS_.out
      clear HS_; replace c7 := Bool.eq_false_iff.mpr c7; subst c7; rw [if_neg (show ¬ (false = true) by decide)] at H; have H' := am_ H; clear H
      go_wp2_with (first | fail)
      go_meet
      case rel => exact ⟨_, (true), Za, H', ⟨Zp⟩, ⟨(Zq BK248)⟩, ⟨(Zh GE248)⟩⟩
   ·have H := HS_.out
    clear HS_; replace c5 := Bool.eq_false_iff.mpr c5; subst c5; rw [if_neg (show ¬ (false = true) by decide)] at H; have H' := am_ H; clear H
    go_wp2_with (first | fail)
    go_meet
    case rel => exact ⟨_, (true), Za, H', ⟨Zp⟩, ⟨(Zq BK248)⟩, ⟨(Zh GE248)⟩⟩
 case rest =>
  clear HC2
  try clear p2
  try clear c3
  try clear c5
  try clear c7
  obtain ⟨kq, x20_1, rfl, HA, HJ1, BK248, HB⟩ := hcut
  cases kq with
  | zero => exact absurd HA.out (by simp [impl_IsShow.j0])
  | succ kj1 =>
   have H := HA.out; clear HA; simp only [impl_IsShow.j0] at H
   by_cases c19 : x20_1 = true
   ·subst c19
    rw [if_pos rfl] at H; obtain rfl := Option.some.inj H
    go_wp2
    go_ret
    exact ⟨Zl, (Zh GE248)⟩
   ·replace c19 := Bool.eq_false_iff.mpr c19
    subst c19; rw [if_neg (show ¬ (false = true) by decide)] at H; have H' := am_ H; clear H; refine ci3 BK248 ?_; intros
    go_wp2
    go_loopg [24] kj1 (fun kq v24 w' => ∃ (x24_2 : Int), v24 = .int .i64 x24_2 ∧ Aside0 (impl_IsShow.l0 kq l0_2 (l0_2.length : Int) x24_2 l0_0 l0_1 l0_2 = some r) ∧ Aside0 (kq ≤ kj1) ∧ Aside0 (w'.heap[gb248]? = some (.cells #[(.slice A0_0 l0_0.length c0_0), (.slice A0_1 l0_1.length c0_1), (.slice A0_2 l0_2.length c0_2)] 35 (0, 0))) ∧ Aside0 (Below w.heap.size w w'))
    case atStart => exact ⟨(0), Za, H', ⟨Nat.le_refl _⟩, ⟨(Zq BK248)⟩, ⟨(Zh GE248)⟩⟩
    case round =>
     clear H'
     try clear c1
     try clear p2
     try clear c3
     try clear c5
     try clear c7
     try clear c19
     try clear p2
     obtain ⟨x24_2, rfl, HA, HK2, BK248, HB⟩ := hrel
     cases gk with
     | zero => exact absurd HA.out (by simp [impl_IsShow.l0])
     | succ k2 =>
      have H := HA.out; clear HA; simp only [impl_IsShow.l0] at H
      by_cases c21 : x24_2 < (l0_2.length : Int)
      ·rw [if_pos c21] at H
       have c21b0 := decide_eq_true c21; clear c21
       by_cases c22 : 0 ≤ x24_2
       ·rw [if_pos c22] at H
        have c22b0 := decide_eq_true c22; clear c22
        by_cases c23 : x24_2 < (l0_2.length : Int)
        ·rw [if_pos c23] at H
         have c23b0 := decide_eq_true c23; clear c23; replace H := Option.bind_eq_some_iff.mp H; obtain ⟨t253, A240, H⟩ := H; have A24 := am_ A240; clear A240
         by_cases c25 : t253 = true
         ·subst c25
          rw [if_pos rfl] at H; replace H := Option.bind_eq_some_iff.mp H; obtain ⟨t254, A260, H⟩ := H; have A26 := am_ A260; clear A260; have HS_ := am_ H; clear H; have p251 : 0 ≤ (x24_2 : Int) := of_decide_eq_true Zc; have q251 : x24_2 < (l0_2.length : Int) := of_decide_eq_true Zc; obtain ⟨ad251, e251, hx251_0, hx251_1, hx251_2, hx251_3⟩ := at_T58 HR0_2.out x24_2 p251 q251
          cases e251
          replace hx251_0 := cbH HB hx251_0; replace hx251_1 := cbH HB hx251_1; replace hx251_2 := cbH HB hx251_2; replace hx251_3 := cbH HB hx251_3; replace p251 := eq_true p251; replace q251 := eq_true q251
          go_wp2_with (first | ((with_reducible refine gate_dst (N := 4) rfl ?_); (try (refine gate_guard (by rfl) ?_; dsimp only)); refine boxZ 4 #[.int .i64 0, .int .i64 0, .string (⟨#[]⟩ : ByteArray), .int .i64 0] 58 ?_; intro gb252 hg w28 hbox hb; replace BK252 := am_ (hbox); replace GW252 := am_ (((Zg GE248) : w.heap.size ≤ gb252)); replace GE252 := GW252; replace HB := (bsZ (Zh GE248) hb); replace NB248_252 := am_ ((by rw [hg]; exact Nat.ne_of_lt (blk_lt (g := gb248) (b0Z BK248)) : gb248 ≠ gb252)); replace NB252_248 := am_ ((by rw [hg]; exact Nat.ne_of_gt (blk_lt (g := gb248) (b0Z BK248)) : gb252 ≠ gb248)); replace BK248 := (bkZ BK248 hb); clear hb hbox hg; have hnb29 := NB252_248.out; have hnc29 := NB248_252.out; refine ci4 BK252 ?_; intros) | ((with_reducible refine gate_callee (f := 58) rfl ?_); refine gZ 30 Try.func58 #[.int .i64 ((rd_T58 l0_2 x24_2).f3), .int .i64 0, .int .i64 11] ?_; (with_reducible refine (impl_within.calls ((rd_T58 l0_2 x24_2).f3) 0 11 true _ A24.out).mono ?_); rintro e w' ⟨rfl, ⟨nd, rfl⟩⟩; refine ⟨_, rfl, ?_⟩; refine ci3 BK248 ?_; intros) | (go_at_call 67; (with_reducible refine (impl_firedAt.calls k2 _ _ l0_0 _ _ l0_1 _ _ l0_2 ((rd_T58 l0_2 x24_2).f0) ((rd_T58 l0_2 x24_2).f1) ((rd_T58 l0_2 x24_2).f2) ((rd_T58 l0_2 x24_2).f3) t254 _ ?_ ?_ ?_ ?_ ?_ ?_ A26.out).mono ?_); exact Kd.C_below HR0_0.out (Zk GE248 GE252); exact HC0_0.out; exact Kd.C_below HR0_1.out (Zk GE248 GE252); exact HC0_1.out; exact Kd.C_below HR0_2.out (Zk GE248 GE252); exact HC0_2.out; rintro e w32 ⟨rfl, hb⟩; replace BK248 := am_ (blk_below (g := gb248) (bfZ BK248 NB248_252) hb); replace BK252 := am_ (blk_below (g := gb252) (o := .cells #[.int .i64 ((rd_T58 l0_2 x24_2).f0), .int .i64 ((rd_T58 l0_2 x24_2).f1), .string ((rd_T58 l0_2 x24_2).f2), .int .i64 ((rd_T58 l0_2 x24_2).f3)] 58 (0, 0)) (bpZ BK252) hb); replace HB := (bsZ (Zk GE248 GE252) hb); clear hb; refine ?roundEnd))
          case roundEnd =>
           by_cases c27 : t254 < 0
           ·have H := HS_.out
            clear HS_; rw [if_pos c27] at H; have c27b0 := decide_eq_true c27; clear c27; obtain rfl := Option.some.inj H
            go_wp2_with (first | fail)
            go_ret
            exact ⟨Zl, (Zk GE248 GE252)⟩
           ·have H := HS_.out
            clear HS_; rw [if_neg c27] at H; have c27b0 := decide_eq_false c27; clear c27; have H' := am_ H; clear H
            go_wp2_with (first | fail)
            go_roundg k2
            case measure => have := HJ1.out; have := HK2.out; omega
            case rel => exact ⟨(wrap64 (x24_2 + 1)), Za, H', ⟨by have := HJ1.out; have := HK2.out; omega⟩, ⟨(Zq BK248)⟩, ⟨(Zk GE248 GE252)⟩⟩
         ·replace c25 := Bool.eq_false_iff.mpr c25
          subst c25; rw [if_neg (show ¬ (false = true) by decide)] at H; obtain rfl := Option.some.inj H; have p251 : 0 ≤ (x24_2 : Int) := of_decide_eq_true Zc; have q251 : x24_2 < (l0_2.length : Int) := of_decide_eq_true Zc; obtain ⟨ad251, e251, hx251_0, hx251_1, hx251_2, hx251_3⟩ := at_T58 HR0_2.out x24_2 p251 q251
          cases e251
          replace hx251_0 := cbH HB hx251_0; replace hx251_1 := cbH HB hx251_1; replace hx251_2 := cbH HB hx251_2; replace hx251_3 := cbH HB hx251_3; replace p251 := eq_true p251; replace q251 := eq_true q251
          go_wp2_with (first | ((with_reducible refine gate_dst (N := 4) rfl ?_); (try (refine gate_guard (by rfl) ?_; dsimp only)); refine boxZ 4 #[.int .i64 0, .int .i64 0, .string (⟨#[]⟩ : ByteArray), .int .i64 0] 58 ?_; intro gb252 hg w38 hbox hb; replace BK252 := am_ (hbox); replace GW252 := am_ (((Zg GE248) : w.heap.size ≤ gb252)); replace GE252 := GW252; replace HB := (bsZ (Zh GE248) hb); replace NB248_252 := am_ ((by rw [hg]; exact Nat.ne_of_lt (blk_lt (g := gb248) (b0Z BK248)) : gb248 ≠ gb252)); replace NB252_248 := am_ ((by rw [hg]; exact Nat.ne_of_gt (blk_lt (g := gb248) (b0Z BK248)) : gb252 ≠ gb248)); replace BK248 := (bkZ BK248 hb); clear hb hbox hg; have hnb39 := NB252_248.out; have hnc39 := NB248_252.out; refine ci4 BK252 ?_; intros) | ((with_reducible refine gate_callee (f := 58) rfl ?_); refine gZ 30 Try.func58 #[.int .i64 ((rd_T58 l0_2 x24_2).f3), .int .i64 0, .int .i64 11] ?_; (with_reducible refine (impl_within.calls ((rd_T58 l0_2 x24_2).f3) 0 11 false _ A24.out).mono ?_); rintro e w' ⟨rfl, ⟨nd, rfl⟩⟩; refine ⟨_, rfl, ?_⟩))
          go_ret
          exact ⟨Zl, (Zk GE248 GE252)⟩
        ·rw [if_neg c23] at H
         exact absurd H (by simp)
       ·rw [if_neg c22] at H
        exact absurd H (by simp)
      ·rw [if_neg c21] at H
       have c21b0 := decide_eq_false c21; clear c21; obtain rfl := Option.some.inj H
       go_wp2
       go_ret
       exact ⟨Zl, (Zh GE248)⟩
def impl_fireTimes.l0 : Nat → List Int → List (S58) → Int → Int → List (S104) → List (S61) → List (S58) → Option (List Int)
 | 0, _, _, _, _, _, _, _ => none
 | k + 1, x3, x7, x8, x9, x256000, x256001, x256002 => if x9 < x8 then (if 0 ≤ x9 then (if x9 < (x7.length : Int) then ((impl_firedAt.f k x256000 x256001 x256002 ((rd_T58 x7 x9).f0) ((rd_T58 x7 x9).f1) ((rd_T58 x7 x9).f2) ((rd_T58 x7 x9).f3)).bind fun t258 => (if x3.length < 17592186044416 then (impl_fireTimes.l0 k (x3 ++ [t258]) x7 x8 (wrap64 (x9 + 1)) x256000 x256001 x256002) else (none))) else (none)) else (none)) else (some x3)
def impl_fireTimes.f (k : Nat) (l0_0 : List (S104)) (l0_1 : List (S61)) (l0_2 : List (S58)) : Option (List Int) := impl_fireTimes.l0 k ([] : List Int) l0_2 (l0_2.length : Int) 0 l0_0 l0_1 l0_2
set_option maxHeartbeats 8000000 in
set_option maxRecDepth 100000 in
theorem impl_fireTimes.calls (k : Nat) (A0_0 : Option Addr) (c0_0 : Nat) (l0_0 : List (S104)) (A0_1 : Option Addr) (c0_1 : Nat) (l0_1 : List (S61)) (A0_2 : Option Addr) (c0_2 : Nat) (l0_2 : List (S58)) (r : List Int) (w : World) (hr0_0 : Kd.C k104 w A0_0 l0_0.length l0_0) (hc0_0 : l0_0.length ≤ c0_0) (hr0_1 : Kd.C k61 w A0_1 l0_1.length l0_1) (hc0_1 : l0_1.length ≤ c0_1) (hr0_2 : Kd.C k58 w A0_2 l0_2.length l0_2) (hc0_2 : l0_2.length ≤ c0_2) (h : impl_fireTimes.f k l0_0 l0_1 l0_2 = some r) :
  Calls Try.prog 49 #[.agg #[.slice A0_0 l0_0.length c0_0, .slice A0_1 l0_1.length c0_1, .slice A0_2 l0_2.length c0_2]] w fun e w' => ∃ v0_ : Value, e = .returned (v0_) ∧ Kd.R (Kd.int .i64) 2 w' w.heap.size (fun _ => True) v0_ r ∧ Below w.heap.size w w' := by
 have hu35 := Try.underlying35; have hu58 := Try.underlying58; have HR0_0 := am_ hr0_0; have HC0_0 := am_ hc0_0; clear hr0_0 hc0_0; have HR0_1 := am_ hr0_1; have HC0_1 := am_ hc0_1; clear hr0_1 hc0_1; have HR0_2 := am_ hr0_2; have HC0_2 := am_ hc0_2; clear hr0_2 hc0_2; have HB := am_ (Below.refl w.heap.size w); have H : (impl_fireTimes.l0 k ([] : List Int) l0_2 (l0_2.length : Int) 0 l0_0 l0_1 l0_2) = some r := h; clear h; have H' := am_ H; clear H
 go_enter Try.func49, Try.ntmps49
 go_wp2_with (first | ((with_reducible refine gate_dst (N := 1) rfl ?_); refine boxZ 1 #[.slice A0_0 l0_0.length c0_0, .slice A0_1 l0_1.length c0_1, .slice A0_2 l0_2.length c0_2] 35 ?_; intro gb255 hg w2 hbox hb; replace BK255 := am_ (hbox); replace GW255 := am_ ((Ze : w.heap.size ≤ gb255)); replace GE255 := GW255; replace HB := (bsZ Zf hb); clear hb hbox hg; refine ci3 BK255 ?_; intros))
 go_loopg [3, 9] k (fun kq v3 v9 w' => ∃ (x3_1 : List Int) (x9_1 : Int), v9 = .int .i64 x9_1 ∧ Aside0 (impl_fireTimes.l0 kq x3_1 l0_2 (l0_2.length : Int) x9_1 l0_0 l0_1 l0_2 = some r) ∧ Aside0 (kq ≤ k) ∧ Aside0 (Kd.R (Kd.int .i64) 2 w' w.heap.size (fun _ => True) v3 x3_1) ∧ Aside0 (w'.heap[gb255]? = some (.cells #[(.slice A0_0 l0_0.length c0_0), (.slice A0_1 l0_1.length c0_1), (.slice A0_2 l0_2.length c0_2)] 35 (0, 0))) ∧ Aside0 (Below w.heap.size w w'))
 case atStart => exact ⟨(([] : List Int)), (0), Za, H', ⟨Nat.le_refl _⟩, ⟨Zab⟩, ⟨(Zq BK255)⟩, ⟨(Zh GE255)⟩⟩
 case round =>
  clear H'
  try clear p2
  obtain ⟨x3_1, x9_1, rfl, HA, HK1, HO_3, BK255, HB⟩ := hrel
  cases gk with
  | zero => exact absurd HA.out (by simp [impl_fireTimes.l0])
  | succ k1 =>
   have H := HA.out; clear HA; simp only [impl_fireTimes.l0] at H
   by_cases c4 : x9_1 < (l0_2.length : Int)
   ·rw [if_pos c4] at H
    have c4b0 := decide_eq_true c4; clear c4
    by_cases c5 : 0 ≤ x9_1
    ·rw [if_pos c5] at H
     have c5b0 := decide_eq_true c5; clear c5
     by_cases c6 : x9_1 < (l0_2.length : Int)
     ·rw [if_pos c6] at H
      have c6b0 := decide_eq_true c6; clear c6; replace H := Option.bind_eq_some_iff.mp H; obtain ⟨t258, A70, H⟩ := H; have A7 := am_ A70; clear A70
      by_cases c8 : x3_1.length < 17592186044416
      ·rw [if_pos c8] at H
       have LMc8 := am_ c8; clear c8; obtain ⟨y259, hy259⟩ : ∃ y_ : List Int, y_ = (x3_1 ++ [t258]) := ⟨_, rfl⟩
       (first | (rw [← hy259] at H; with_reducible replace H := bindZ H) | rw [← hy259] at H | skip)
       have Ny259 := am_ hy259; clear hy259; have H' := am_ H; clear H; have p256 : 0 ≤ (x9_1 : Int) := of_decide_eq_true Zc; have q256 : x9_1 < (l0_2.length : Int) := of_decide_eq_true Zc; obtain ⟨ad256, e256, hx256_0, hx256_1, hx256_2, hx256_3⟩ := at_T58 HR0_2.out x9_1 p256 q256
       cases e256
       replace hx256_0 := cbH HB hx256_0; replace hx256_1 := cbH HB hx256_1; replace hx256_2 := cbH HB hx256_2; replace hx256_3 := cbH HB hx256_3; replace p256 := eq_true p256; replace q256 := eq_true q256
       go_wp2_with (first | ((with_reducible refine gate_dst (N := 5) rfl ?_); refine boxZ 5 #[.int .i64 0, .int .i64 0, .string (⟨#[]⟩ : ByteArray), .int .i64 0] 58 ?_; intro gb257 hg w9 hbox hb; replace HO_3 := (hbZ HO_3 hb); replace BK257 := am_ (hbox); replace GW257 := am_ (((Zg GE255) : w.heap.size ≤ gb257)); replace GE257 := GW257; replace HB := (bsZ (Zh GE255) hb); replace NB255_257 := am_ ((by rw [hg]; exact Nat.ne_of_lt (blk_lt (g := gb255) (b0Z BK255)) : gb255 ≠ gb257)); replace NB257_255 := am_ ((by rw [hg]; exact Nat.ne_of_gt (blk_lt (g := gb255) (b0Z BK255)) : gb257 ≠ gb255)); replace BK255 := (bkZ BK255 hb); clear hb hbox hg; have hnb10 := NB257_255.out; have hnc10 := NB255_257.out; refine ci4 BK257 ?_; intros; refine ci3 BK255 ?_; intros) | ((with_reducible refine gate_callee (f := 67) rfl ?_); refine gZ 16 Try.func67 #[.agg #[.slice A0_0 l0_0.length c0_0, .slice A0_1 l0_1.length c0_1, .slice (some ad256) l0_2.length c0_2], .agg #[.int .i64 ((rd_T58 l0_2 x9_1).f0), .int .i64 ((rd_T58 l0_2 x9_1).f1), .string ((rd_T58 l0_2 x9_1).f2), .int .i64 ((rd_T58 l0_2 x9_1).f3)]] ?_; (with_reducible refine (impl_firedAt.calls k1 _ _ l0_0 _ _ l0_1 _ _ l0_2 ((rd_T58 l0_2 x9_1).f0) ((rd_T58 l0_2 x9_1).f1) ((rd_T58 l0_2 x9_1).f2) ((rd_T58 l0_2 x9_1).f3) t258 _ ?_ ?_ ?_ ?_ ?_ ?_ A7.out).mono ?_); exact Kd.C_below HR0_0.out (Zk GE255 GE257); exact HC0_0.out; exact Kd.C_below HR0_1.out (Zk GE255 GE257); exact HC0_1.out; exact Kd.C_below HR0_2.out (Zk GE255 GE257); exact HC0_2.out; rintro e w13 ⟨rfl, hb⟩; refine ⟨_, rfl, ?_⟩; replace HO_3 := am_ (Kd.R_below (Zaf HO_3 BK257) hb); replace BK255 := am_ (blk_below (g := gb255) (bfZ BK255 NB255_257) hb); replace BK257 := am_ (blk_below (g := gb257) (o := .cells #[.int .i64 ((rd_T58 l0_2 x9_1).f0), .int .i64 ((rd_T58 l0_2 x9_1).f1), .string ((rd_T58 l0_2 x9_1).f2), .int .i64 ((rd_T58 l0_2 x9_1).f3)] 58 (0, 0)) (bpZ BK257) hb); replace HB := (bsZ (Zk GE255 GE257) hb); clear hb) | ((with_reducible refine gate_builtin (b := .append) (xs := #[.tmp 13, .tmp 17]) rfl ?_); at_builtin; refine Kd.R_append (Kd.int .i64) (w0 := w) w.heap.size rfl (.tmp 13) (.tmp 17) 28 2 (.int .i64 0) 8 rfl Try.underlying28 info2 rfl (by decide) (by omega) u3 x3_1 t258 [.int .i64 t258] (fun _ => True) (fun _ => False) rfl rfl ?aP (fun _ hk => hk.elim) ?aF ?aO ?aB ?aS ?aL ?_; (case aP => exact rfl); (case aB => exact (Zk GE255 GE257)); (case aF => exact (fun _ _ => trivial)); (case aO => exact (Zr HO_3)); (case aS => exact (below_size (Zk GE255 GE257))); (case aL => have := LMc8.out; omega); intro v260 w14 ho hb hg hat; rw [← Ny259.out] at ho; replace BK255 := am_ (blk_grown (g := gb255) (b0Z BK255) hg (Kd.R_ne HO_3.out BK255.out (by decide))); replace BK257 := am_ (blk_grown (g := gb257) (b0Z BK257) hg (Kd.R_ne HO_3.out BK257.out (by decide))); replace HB := am_ (hb); replace HO261 := am_ (ho); clear HO_3; clear ho hb hg hat))
       go_roundg k1
       case measure => have := HK1.out; omega
       case rel => exact ⟨(y259), (wrap64 (x9_1 + 1)), Za, H', ⟨Zd⟩, ⟨(Zr HO261)⟩, ⟨(Zq BK255)⟩, ⟨(Zk GE255 GE257)⟩⟩
      ·rw [if_neg c8] at H
       exact absurd H (by simp)
     ·rw [if_neg c6] at H
      exact absurd H (by simp)
    ·rw [if_neg c5] at H
     exact absurd H (by simp)
   ·rw [if_neg c4] at H
    have c4b0 := decide_eq_false c4; clear c4; obtain rfl := Option.some.inj H
    go_wp2
    go_ret
    exact ⟨_, Zl, (Zr HO_3), (Zh GE255)⟩
def cpyup (xs : List Int) (k : Nat) : List Int := xs.take (k + 1) ++ (xs.drop k).take (xs.length - (k + 1))
theorem R_copyup_run {P : Program} {W : World} (base : Nat) (t ty e : TypeId) (i : TypeInfo) (ht : P.underlying t = some (.slice e)) (hi : P.info? e = some i) (hsz : i.size = 1)
  {g n c k : Nat} {xs : List Int} {ok : Nat → Prop} (HO : (Kd.int .i64).R e W base ok (.slice (some ⟨g, 0, none⟩) n c) xs) (hk : k < n) {A B : Option Addr} (hA : A = if c = k + 1 then some ⟨g, 0, none⟩ else (some (⟨g, 0, none⟩ : Addr)).map (·.add ((k + 1) * 1))) (hB : B = if c = k then some ⟨g, 0, none⟩ else (some (⟨g, 0, none⟩ : Addr)).map (·.add (k * 1))) (c1 c2 : Nat) :
  ∃ w1, (Builtin.copy_ #[t, t] ty #[.slice A (n - (k + 1)) c1, .slice B (n - k) c2]).run P W = .ok (.int .i64 ((n - (k + 1) : Nat) : Int)) w1 ∧ (Kd.int .i64).R e w1 base ok (.slice (some ⟨g, 0, none⟩) n c) (cpyup xs k) ∧ W.grownBy w1 (some g) := by
 obtain ⟨hn, hnc, _⟩ := Kd.R_reads' HO; have HO' := HO; obtain ⟨hok, inner, hown, hr⟩ := HO
 have hin : inner.length = n := by rw [hr.1, hn]; exact Nat.mul_one _
 have hB' : B = some ⟨g, k, none⟩ := by
  rw [hB, if_neg (by omega), Option.map_some, Nat.mul_one, add_at, Nat.zero_add]
 rcases hown.2 with ⟨hv, _⟩ | ⟨g', cap', cur, hv, hb, hh, _, hcm, hcs, htake⟩
 ·cases hv
 injection hv with ha _ hc; injection ha with ha; injection ha with hg; subst hg; subst hc; rw [← hn] at htake; have hcs1 : cur.size = c := hcs.trans (Nat.mul_one _)
 have htake1 : cur.toList.take n = inner := by
  have h := htake; rw [show n * (Kd.int .i64).sz = n from Nat.mul_one _] at h; exact h
 have hcur : ∀ q, q < n → cur.toList[q]? = inner[q]? := by
  intro q hq; rw [← htake1, List.getElem?_take, if_pos hq]
 obtain ⟨news, hnews⟩ : ∃ news, news = (inner.drop k).take (n - (k + 1)) := ⟨_, rfl⟩
 have hnl : news.length = n - (k + 1) := by rw [hnews, List.length_take, List.length_drop, hin]; omega
 have hlen : (cpyup xs k).length = n := by unfold cpyup; rw [List.length_append, List.length_take, List.length_take, List.length_drop]; omega
 have hone : ∀ u ∈ news, u.oneCell' = true := by
  intro u hu
  have hu' : u ∈ inner := by rw [hnews] at hu; exact List.mem_of_mem_drop (List.mem_of_mem_take hu)
  obtain ⟨q, hq, rfl⟩ := List.mem_iff_getElem.1 hu'
  have hql : q < xs.length := by omega
  refine (Kd.int .i64).K_one ((Kd.int .i64).K_of_M (hr.2 q _ (List.getElem?_eq_getElem hql))) _ ?_; rw [List.mem_iff_getElem?]; refine ⟨0, ?_⟩; rw [List.getElem?_take, if_pos (by show 0 < 1; omega), List.getElem?_drop, show q * (Kd.int .i64).sz = q from Nat.mul_one _, Nat.add_zero, List.getElem?_eq_getElem hq]
 have hfit : k + 1 + news.length ≤ cur.size := by omega
 have hcell : ∀ j u, news[j]? = some u → W.cell? ((⟨g, k, none⟩ : Addr).add j) = some u := by
  intro j u hu; have hj : j < news.length := (List.getElem?_eq_some_iff.1 hu).1; rw [add_at, cell_of_row W g _ cur e (0, 0) hh, ← Array.getElem?_toList]; rw [hnews, List.getElem?_take, if_pos (by omega), List.getElem?_drop] at hu; rw [← hu]; exact hcur _ (by omega)
 obtain ⟨cur', h3, h4, h5⟩ := setCells_row news (k + 1) W cur hh hfit; obtain ⟨s1, s2, s3, s4⟩ := setCells_same g news (k + 1) W; have hfar : ∀ k', k' ≠ g → (W.setCells g (k + 1) news).heap[k']? = W.heap[k']? := fun k' hk' => setCells_far news _ k' hk'
 have hgo : ∀ m, some g = (Value.slice (some ⟨g, 0, none⟩) m c).ownBlock := fun m => by simp [Value.ownBlock]
 have hrun : (Builtin.copy_ #[t, t] ty #[.slice A (n - (k + 1)) c1, .slice B (n - k) c2]).run P W = .ok (.int .i64 ((n - (k + 1) : Nat) : Int)) (W.setCells g (k + 1) news) := by
  subst hB'
  by_cases hck : n = k + 1
  ·have h0 : news = [] := List.eq_nil_of_length_eq_zero (by omega)
   rw [h0, show n - (k + 1) = 0 by omega]; exact run_copy_none (P := P) W t t ty e A _ 0 c1 (n - k) c2 ht (by rw [hi]; simp [hsz]) (by simp)
  ·have hA' : A = some ⟨g, k + 1, none⟩ := by
    rw [hA, if_neg (by omega), Option.map_some, Nat.mul_one, add_at, Nat.zero_add]
   subst hA'
   have := run_copy_cells (P := P) W t t ty e g (k + 1) (n - (k + 1)) c1 ⟨g, k, none⟩ (n - k) c2 news ht (by rw [hi]; simp [hsz]) (by rw [hnl]; show n - (k + 1) = min (n - k) (n - (k + 1)); omega) hcell
    (fun j hj => by rw [cell_of_row W g _ cur e (0, 0) hh]; simp; omega) (fun j _ => blk_frozen hh _) hone
   rw [hnl] at this; exact this
 refine ⟨_, hrun, ⟨hok, inner.take (k + 1) ++ news, ⟨?_, .inr ⟨g, c, cur', by rw [hlen], hb, h3, by rw [hlen]; omega, hcm, by rw [h4, hcs], ?_⟩⟩, ?_⟩, ⟨s1, s2, s3, by rw [s4]; exact Nat.le_refl _, fun k' _ hk' => hfar k' (fun he => hk' (by rw [he]))⟩⟩
 ·rw [List.length_append, List.length_take, hnl, hlen, show n * (Kd.int .i64).sz = n from Nat.mul_one _]
  omega
 ·rw [hlen, h5, show n * (Kd.int .i64).sz = n from Nat.mul_one _]
  have h7 : cur.toList.take (k + 1) = inner.take (k + 1) := by
   rw [← htake1, List.take_take, Nat.min_eq_left (by omega)]
  rw [h7]; exact List.take_left' (by rw [List.length_append, List.length_take, hnl]; omega)
 ·have hmv : ∀ p q, (Kd.int .i64).M W base (fun k' => ok k' ∧ some k' ≠ (Value.slice (some ⟨g, 0, none⟩) n c).ownBlock) p q → (Kd.int .i64).M (W.setCells g (k + 1) news) base (fun k' => ok k' ∧ some k' ≠ (Value.slice (some ⟨g, 0, none⟩) n c).ownBlock) p q := fun p q hp =>
   (Kd.int .i64).M_move (fun k' hk' => hfar k' (fun he => hk'.2 (by rw [← hgo, he]))) hp
  subst hnews; have a1 := (Kd.reps_take (m := k + 1) hr (by omega)).imp_ hmv; have a2 := (Kd.reps_take (m := n - (k + 1)) (Kd.reps_drop (m := k) hr) (by rw [List.length_drop]; omega)).imp_ hmv; rw [show (k + 1) * (Kd.int .i64).sz = k + 1 from Nat.mul_one _] at a1; rw [show (n - (k + 1)) * (Kd.int .i64).sz = n - (k + 1) from Nat.mul_one _, show k * (Kd.int .i64).sz = k from Nat.mul_one _] at a2; have a3 := Kd.reps_append a1 a2
  unfold cpyup
  rw [show xs.length - (k + 1) = n - (k + 1) by omega]; exact a3
theorem R_copyup_step {P : Program} {ops : Array Oper} {o : Oper} {a : Act} {Kc : Act → World → Prop} {Q : Exit → Act → World → Prop} {w0 W : World} (base : Nat) (hw : Region.wanted o (yielded ops a.tmps) = true) (s x : Operand) (t e : TypeId) (ho : o.op = .call { callee := .builtin .copy, args := #[s, x], argTypes := #[t, t] })
  (ht : P.underlying t = some (.slice e)) (hinfo : (P.info? e).map (·.size) = some 1) {g n c k m1 m2 c1 c2 : Nat} {A B : Option Addr} {xs : List Int} {ok : Nat → Prop}
  (hs : a.eval s = .slice A m1 c1) (hx : a.eval x = .slice B m2 c2) (hA : A = if c = k + 1 then some ⟨g, 0, none⟩ else (some (⟨g, 0, none⟩ : Addr)).map (·.add ((k + 1) * 1))) (hB : B = if c = k then some ⟨g, 0, none⟩ else (some (⟨g, 0, none⟩ : Addr)).map (·.add (k * 1))) (hm1 : m1 = n - (k + 1)) (hm2 : m2 = n - k)
  (HO : (Kd.int .i64).R e W base ok (.slice (some ⟨g, 0, none⟩) n c) xs) (hk : k < n) (HB : Below base w0 W) (hbase : base ≤ W.heap.size)
  (h : ∀ w1, (Kd.int .i64).R e w1 base ok (.slice (some ⟨g, 0, none⟩) n c) (cpyup xs k) → Below base w0 w1 → W.grownBy w1 (some g) → Kc (a.put o.dst (.int .i64 ((n - (k + 1) : Nat) : Int))) w1) :
  if Region.wanted o (yielded ops a.tmps) = true then Oper.wp P o a W Kc Q else Kc (a.put o.dst undef) W := by
 obtain ⟨i0, hi, hsz⟩ := Option.map_eq_some_iff.1 hinfo; subst hm1; subst hm2; obtain ⟨w1, hr, h1, h2⟩ := R_copyup_run (P := P) base t o.type e i0 ht hi hsz HO hk hA hB c1 c2; rw [if_pos hw]
 unfold Oper.wp execOp
 simp only [ho, resolve, invoke, builtin, Sem.run_bind, Sem.run_pure, Result.andThen_ok, List.map_toArray, List.map_cons, List.map_nil, hs, hx, hr]; exact h w1 h1 (HB.grown h2 hbase (fun k hk => by injection hk with hk; subst hk; exact Kd.R_base HO _ (by simp [Value.ownBlock]))) h2
mutual
def impl_FireOrder.l0 : Nat → List Int → List Int → Int → Int → Option (List Int × Int)
 | 0, _, _, _, _ => none
 | k + 1, x4, x5, x14, x15 => if x15 < x14 then (impl_FireOrder.l1 k x4 x5 x15 (x5.length : Int) x14 x15) else (some (x5, 0))
def impl_FireOrder.l1 : Nat → List Int → List Int → Int → Int → Int → Int → Option (List Int × Int)
 | 0, _, _, _, _, _, _ => none
 | k + 1, x4, x5, x6, x7, x14, x15 => if x7 > 0 then (if 0 ≤ (wrap64 (x7 - 1)) then (if (wrap64 (x7 - 1)) < (x5.length : Int) then (if 0 ≤ (rd x5 (wrap64 (x7 - 1))) then (if (rd x5 (wrap64 (x7 - 1))) < (x4.length : Int) then (if 0 ≤ x6 then (if x6 < (x4.length : Int) then (if (rd x4 (rd x5 (wrap64 (x7 - 1)))) > (rd x4 x6) then (impl_FireOrder.l1 k x4 x5 x6 (wrap64 (x7 - 1)) x14 x15) else (if x5.length < 17592186044416 then ((some (x5 ++ [0] : List Int)).bind fun y270 => (if 0 ≤ (wrap64 (x7 + 1)) then (if (wrap64 (x7 + 1)) ≤ (y270.length : Int) then (if 0 ≤ x7 then (if x7 ≤ (y270.length : Int) then ((some (cpyup y270 (x7 : Int).toNat : List Int)).bind fun y281 => (if x7 < (y281.length : Int) then (impl_FireOrder.l0 k x4 (y281.set (x7 : Int).toNat x6) x14 (wrap64 (x15 + 1))) else (none))) else (none)) else (none)) else (none)) else (none))) else (none))) else (none)) else (none)) else (none)) else (none)) else (none)) else (none)) else (if x5.length < 17592186044416 then ((some (x5 ++ [0] : List Int)).bind fun y285 => (if 0 ≤ (wrap64 (x7 + 1)) then (if (wrap64 (x7 + 1)) ≤ (y285.length : Int) then (if 0 ≤ x7 then (if x7 ≤ (y285.length : Int) then ((some (cpyup y285 (x7 : Int).toNat : List Int)).bind fun y296 => (if x7 < (y296.length : Int) then (impl_FireOrder.l0 k x4 (y296.set (x7 : Int).toNat x6) x14 (wrap64 (x15 + 1))) else (none))) else (none)) else (none)) else (none)) else (none))) else (none))
end
def impl_FireOrder.f (k : Nat) (l0_0 : List (S104)) (l0_1 : List (S61)) (l0_2 : List (S58)) : Option (List Int × Int) := (impl_IsShow.f k l0_0 l0_1 l0_2).bind fun t263 => (if t263 = true then ((impl_fireTimes.f k l0_0 l0_1 l0_2).bind fun t264 => (impl_FireOrder.l0 k t264 ([] : List Int) (t264.length : Int) 0)) else (some (([] : List Int), 1)))
def impl_FireOrder.T9 : Bool × List (List Nat × List Nat) := (true, [([], []), ([0], [0]), ([1], [1]), ([2], [2]), ([2], [2]), ([2], [2]), ([5, 2], [2, 5]), ([4, 6, 2], [2, 4, 6]), ([7, 2], [2, 7]), ([3, 8, 2], [2, 3, 8]), ([9, 2], [2, 9]), ([2], [2]), ([2], [2]), ([11, 12, 2], [2, 11, 12]), ([13, 2], [2, 13]), ([10, 14, 2], [2, 10, 14]), ([2, 15], [2, 15])])
def impl_FireOrder.B9 : List Nat := [0, 1, 3, 7, 7, 7, 39, 119, 247, 511, 1023, 7, 7, 6151, 14343, 32767, 65535]
theorem impl_FireOrder.tab9 : rtab .any (opsOf Try.f10 9) = impl_FireOrder.T9 := by kernel_rfl
theorem impl_FireOrder.bits9 : waitsOk impl_FireOrder.T9.2 impl_FireOrder.B9 = true := by kernel_rfl
def impl_FireOrder.T12 : Bool × List (List Nat × List Nat) := (true, [([], []), ([], []), ([1], [1]), ([0, 2], [0, 2]), ([], []), ([], []), ([4, 5], [4, 5]), ([3, 6], [3, 6])])
def impl_FireOrder.B12 : List Nat := [0, 0, 2, 7, 0, 0, 48, 127]
theorem impl_FireOrder.tab12 : rtab .any (opsOf Try.f10 12) = impl_FireOrder.T12 := by kernel_rfl
theorem impl_FireOrder.bits12 : waitsOk impl_FireOrder.T12.2 impl_FireOrder.B12 = true := by kernel_rfl
set_option maxHeartbeats 8000000 in
set_option maxRecDepth 100000 in
theorem impl_FireOrder.calls (k : Nat) (A0_0 : Option Addr) (c0_0 : Nat) (l0_0 : List (S104)) (A0_1 : Option Addr) (c0_1 : Nat) (l0_1 : List (S61)) (A0_2 : Option Addr) (c0_2 : Nat) (l0_2 : List (S58)) (r1 : List Int) (r2 : Int) (w : World) (hr0_0 : Kd.C k104 w A0_0 l0_0.length l0_0) (hc0_0 : l0_0.length ≤ c0_0) (hr0_1 : Kd.C k61 w A0_1 l0_1.length l0_1) (hc0_1 : l0_1.length ≤ c0_1) (hr0_2 : Kd.C k58 w A0_2 l0_2.length l0_2) (hc0_2 : l0_2.length ≤ c0_2) (h : impl_FireOrder.f k l0_0 l0_1 l0_2 = some (r1, r2)) :
  Calls Try.prog 10 #[.agg #[.slice A0_0 l0_0.length c0_0, .slice A0_1 l0_1.length c0_1, .slice A0_2 l0_2.length c0_2]] w fun e w' => ∃ v0_ : Value, e = .returned (.tuple #[v0_, .int .i64 r2]) ∧ Kd.R (Kd.int .i64) 2 w' w.heap.size (fun _ => True) v0_ r1 ∧ Below w.heap.size w w' := by
 have hu35 := Try.underlying35; have HR0_0 := am_ hr0_0; have HC0_0 := am_ hc0_0; clear hr0_0 hc0_0; have HR0_1 := am_ hr0_1; have HC0_1 := am_ hc0_1; clear hr0_1 hc0_1; have HR0_2 := am_ hr0_2; have HC0_2 := am_ hc0_2; clear hr0_2 hc0_2; have HB := am_ (Below.refl w.heap.size w); have H : ((impl_IsShow.f k l0_0 l0_1 l0_2).bind fun t263 => (if t263 = true then ((impl_fireTimes.f k l0_0 l0_1 l0_2).bind fun t264 => (impl_FireOrder.l0 k t264 ([] : List Int) (t264.length : Int) 0)) else (some (([] : List Int), 1)))) = some (r1, r2) := h; clear h; replace H := Option.bind_eq_some_iff.mp H; obtain ⟨t263, A20, H⟩ := H; have A2 := am_ A20; clear A20; have HS_ := am_ H; clear H
 go_enter Try.func10, Try.ntmps10
 go_wp2_with (first | ((with_reducible refine gate_dst (N := 1) rfl ?_); refine boxZ 1 #[.slice A0_0 l0_0.length c0_0, .slice A0_1 l0_1.length c0_1, .slice A0_2 l0_2.length c0_2] 35 ?_; intro gb262 hg w5 hbox hb; replace BK262 := am_ (hbox); replace GW262 := am_ ((Ze : w.heap.size ≤ gb262)); replace GE262 := GW262; replace HB := (bsZ Zf hb); clear hb hbox hg; refine ci3 BK262 ?_; intros) | ((with_reducible refine gate_callee (f := 30) rfl ?_); refine gZ 9 Try.func30 #[.agg #[.slice A0_0 l0_0.length c0_0, .slice A0_1 l0_1.length c0_1, .slice A0_2 l0_2.length c0_2]] ?_; (with_reducible refine (impl_IsShow.calls k _ _ l0_0 _ _ l0_1 _ _ l0_2 t263 _ ?_ ?_ ?_ ?_ ?_ ?_ A2.out).mono ?_); exact (Zi HR0_0); exact HC0_0.out; exact (Zi HR0_1); exact HC0_1.out; exact (Zi HR0_2); exact HC0_2.out; rintro e w7 ⟨rfl, hb⟩; refine ⟨_, rfl, ?_⟩; replace BK262 := (bkZ BK262 hb); replace HB := (bsZ (Zh GE262) hb); clear hb; refine ?roundEnd))
 case roundEnd =>
  by_cases c3 : t263 = true
  ·have H := HS_.out
   clear HS_; subst c3; rw [if_pos rfl] at H; replace H := Option.bind_eq_some_iff.mp H; obtain ⟨t264, A40, H⟩ := H; have A4 := am_ A40; clear A40; have H' := am_ H; clear H; refine ci3 BK262 ?_; intros
   go_wp2_with (first | ((with_reducible refine gate_callee (f := 49) rfl ?_); refine gZ 12 Try.func49 #[.agg #[.slice A0_0 l0_0.length c0_0, .slice A0_1 l0_1.length c0_1, .slice A0_2 l0_2.length c0_2]] ?_; (with_reducible refine (impl_fireTimes.calls k _ _ l0_0 _ _ l0_1 _ _ l0_2 t264 _ ?_ ?_ ?_ ?_ ?_ ?_ A4.out).mono ?_); exact (Zi HR0_0); exact HC0_0.out; exact (Zi HR0_1); exact HC0_1.out; exact (Zi HR0_2); exact HC0_2.out; rintro e w9 ⟨v265, rfl, ho0, hb⟩; refine ⟨_, rfl, ?_⟩; replace HO266 := am_ (Kd.R_lower ho0 (below_size (Zh GE262))); replace BK262 := (bkZ BK262 hb); replace HB := (bsZ (Zh GE262) hb); clear hb ho0; obtain ⟨Ao10, co10, eo10⟩ := Kd.R_slice HO266.out; subst eo10))
   go_loopg [5, 15] k (fun kq v5 v15 w' => ∃ (x4_1 : List Int) (x5_1 : List Int) (x15_1 : Int), v15 = .int .i64 x15_1 ∧ Aside0 (impl_FireOrder.l0 kq x4_1 x5_1 (t264.length : Int) x15_1 = some (r1, r2)) ∧ Aside0 (kq ≤ k) ∧ Aside0 (Kd.R (Kd.int .i64) 2 w' w.heap.size (fun k_ => some k_ ≠ (v5 : Value).ownBlock) (.slice Ao10 t264.length co10) x4_1) ∧ Aside0 (Kd.R (Kd.int .i64) 2 w' w.heap.size (fun k_ => some k_ ≠ ((.slice Ao10 t264.length co10) : Value).ownBlock) v5 x5_1) ∧ Aside0 (w'.heap[gb262]? = some (.cells #[(.slice A0_0 l0_0.length c0_0), (.slice A0_1 l0_1.length c0_1), (.slice A0_2 l0_2.length c0_2)] 35 (0, 0))) ∧ Aside0 (Below w.heap.size w w'))
   case atStart => exact ⟨(t264), (([] : List Int)), (0), Za, H', ⟨Nat.le_refl _⟩, ⟨by (with_reducible repeat (first | apply Kd.R_alloc | apply Kd.R_drewN | apply Kd.R_drew)); exact Kd.R_mono HO266.out (fun _ hk => (by simp [Value.ownBlock]))⟩, ⟨Zab⟩, ⟨(Zq BK262)⟩, ⟨(Zh GE262)⟩⟩
   case round =>
    clear H'
    try clear c1
    try clear p2
    try clear c3
    try clear c4
    try clear c10
    obtain ⟨x4_1, x5_1, x15_1, rfl, HA, HK1, HO_4, HO_5, BK262, HB⟩ := hrel; have hl4_1 := (Kd.R_reads' HO_4.out).1; rw [hl4_1] at HO_4
    (try simp only [hl4_1])
    (try simp only [hl4_1] at BK262)
    (try simp only [hl4_1] at HO_5)
    cases gk with
    | zero => exact absurd HA.out (by simp [impl_FireOrder.l0])
    | succ k1 =>
     have H := HA.out; clear HA; simp only [impl_FireOrder.l0] at H
     (try simp only [hl4_1] at H)
     by_cases c11 : x15_1 < (x4_1.length : Int)
     ·rw [if_pos c11] at H
      have c11b0 := decide_eq_true c11; clear c11; have H' := am_ H; clear H; obtain ⟨Ao12, co12, eo12⟩ := Kd.R_slice HO_5.out; subst eo12
      go_wp2
      go_loopg [7] k1 (fun kq v7 w' => ∃ (x7_2 : Int), v7 = .int .i64 x7_2 ∧ Aside0 (impl_FireOrder.l1 kq x4_1 x5_1 x15_1 x7_2 (x4_1.length : Int) x15_1 = some (r1, r2)) ∧ Aside0 (kq ≤ k1) ∧ Aside0 (Kd.R (Kd.int .i64) 2 w' w.heap.size (fun k_ => some k_ ≠ ((.slice Ao12 x5_1.length co12) : Value).ownBlock) (.slice Ao10 x4_1.length co10) x4_1) ∧ Aside0 (Kd.R (Kd.int .i64) 2 w' w.heap.size (fun k_ => some k_ ≠ ((.slice Ao10 x4_1.length co10) : Value).ownBlock) (.slice Ao12 x5_1.length co12) x5_1) ∧ Aside0 (w'.heap[gb262]? = some (.cells #[(.slice A0_0 l0_0.length c0_0), (.slice A0_1 l0_1.length c0_1), (.slice A0_2 l0_2.length c0_2)] 35 (0, 0))) ∧ Aside0 (Below w.heap.size w w'))
      case atStart => exact ⟨((x5_1.length : Int)), Za, H', ⟨Nat.le_refl _⟩, ⟨(Zag HO_4)⟩, ⟨(Zag HO_5)⟩, ⟨(Zah BK262)⟩, ⟨(Zh GE262)⟩⟩
      case round =>
       clear H'
       try clear c1
       try clear p2
       try clear c3
       try clear c4
       try clear c10
       try clear c11
       try clear c11b0
       try clear p2
       obtain ⟨x7_2, rfl, HA, HK2, HO_4, HO_5, BK262, HB⟩ := hrel
       cases gk with
       | zero => exact absurd HA.out (by simp [impl_FireOrder.l1])
       | succ k2 =>
        have H := HA.out; clear HA; simp only [impl_FireOrder.l1] at H
        by_cases c13 : x7_2 > 0
        ·rw [if_pos c13] at H
         have c13b0 : decide (0 < x7_2) = true := decide_eq_true c13; clear c13; obtain ⟨ji14, hji14⟩ : ∃ j_ : Int, (wrap64 (x7_2 - 1)) = j_ := ⟨_, rfl⟩
         replace H : (if 0 ≤ (ji14) then (if (ji14) < (x5_1.length : Int) then (if 0 ≤ (rd x5_1 (ji14)) then (if (rd x5_1 (ji14)) < (x4_1.length : Int) then (if 0 ≤ x15_1 then (if x15_1 < (x4_1.length : Int) then (if (rd x4_1 (rd x5_1 (ji14))) > (rd x4_1 x15_1) then (impl_FireOrder.l1 k2 x4_1 x5_1 x15_1 ji14 (x4_1.length : Int) x15_1) else (if x5_1.length < 17592186044416 then ((some (x5_1 ++ [0] : List Int)).bind fun y270 => (if 0 ≤ (wrap64 (x7_2 + 1)) then (if (wrap64 (x7_2 + 1)) ≤ (y270.length : Int) then (if 0 ≤ x7_2 then (if x7_2 ≤ (y270.length : Int) then ((some (cpyup y270 (x7_2 : Int).toNat : List Int)).bind fun y281 => (if x7_2 < (y281.length : Int) then (impl_FireOrder.l0 k2 x4_1 (y281.set (x7_2 : Int).toNat x15_1) (x4_1.length : Int) (wrap64 (x15_1 + 1))) else (none))) else (none)) else (none)) else (none)) else (none))) else (none))) else (none)) else (none)) else (none)) else (none)) else (none)) else (none)) = some (r1, r2) := by first | (rw [hji14] at H; exact H) | (simp only [hji14] at H ⊢; exact H)
         have hji14w : (IntKind.i64.wrap (x7_2 - 1)) = ji14 := (i64_w _).trans hji14
         by_cases c15 : 0 ≤ (ji14)
         ·rw [if_pos c15] at H
          have c15b0 := decide_eq_true c15; clear c15
          by_cases c16 : (ji14) < (x5_1.length : Int)
          ·rw [if_pos c16] at H
           have c16b0 := decide_eq_true c16; clear c16
           by_cases c17 : 0 ≤ (rd x5_1 (ji14))
           ·rw [if_pos c17] at H
            have c17b0 := decide_eq_true c17; clear c17
            by_cases c18 : (rd x5_1 (ji14)) < (x4_1.length : Int)
            ·rw [if_pos c18] at H
             have c18b0 := decide_eq_true c18; clear c18
             by_cases c19 : 0 ≤ x15_1
             ·rw [if_pos c19] at H
              have c19b0 := decide_eq_true c19; clear c19
              by_cases c20 : x15_1 < (x4_1.length : Int)
              ·rw [if_pos c20] at H
               have c20b0 := decide_eq_true c20; clear c20
               by_cases c21 : (rd x4_1 (rd x5_1 (ji14))) > (rd x4_1 x15_1)
               ·rw [if_pos c21] at H
                have c21b0 : decide ((rd x4_1 x15_1) < (rd x4_1 (rd x5_1 (ji14)))) = true := decide_eq_true c21; clear c21; have H' := am_ H; clear H
                try go_wp2
                replace HO_4 := am_ (Kd.R_drew HO_4.out); replace HO_5 := am_ (Kd.R_drew HO_5.out); replace BK262 := am_ (blk_drew BK262.out); replace HB := am_ (below_drew1 HB.out); have p267 : 0 ≤ ((ji14) : Int) := of_decide_eq_true Zc; have q267 : (ji14) < (x5_1.length : Int) := of_decide_eq_true Zc; obtain ⟨ad267, e267, hx267_0⟩ := Kd.at_int (Kd.R_reads' HO_5.out).2.2 (ji14) p267 q267
                cases e267
                replace p267 := eq_true p267; replace q267 := eq_true q267; have p268 : 0 ≤ ((rd x5_1 (ji14)) : Int) := of_decide_eq_true Zc; have q268 : (rd x5_1 (ji14)) < (x4_1.length : Int) := of_decide_eq_true Zc; obtain ⟨ad268, e268, hx268_0⟩ := Kd.at_int (Kd.R_reads' HO_4.out).2.2 (rd x5_1 (ji14)) p268 q268
                cases e268
                replace p268 := eq_true p268; replace q268 := eq_true q268; have p269 : 0 ≤ (x15_1 : Int) := of_decide_eq_true Zc; have q269 : x15_1 < (x4_1.length : Int) := of_decide_eq_true Zc; obtain ⟨ad269, e269, hx269_0⟩ := Kd.at_int (Kd.R_reads' HO_4.out).2.2 x15_1 p269 q269; obtain rfl : ad268 = ad269 := (by injection e269); replace p269 := eq_true p269; replace q269 := eq_true q269; refine start_ (n := 17) (S := fun w' => w'.cell? (ad267.add ((ji14)).toNat) = some (.int .i64 (rd x5_1 (ji14))) ∧ w'.cell? (ad268.add ((rd x5_1 (ji14))).toNat) = some (.int .i64 (rd x4_1 (rd x5_1 (ji14)))) ∧ w'.cell? (ad268.add (x15_1).toNat) = some (.int .i64 (rd x4_1 x15_1))) (ds := []) (bT 17 0) Zm rfl rfl ⟨hx267_0, hx268_0, hx269_0⟩ (fun hHeld => ?_); refine with_tabW impl_FireOrder.tab9 impl_FireOrder.bits9 (fun HT_ HW_ => ?_); generalize wr.drew = w22 at HO_4 HO_5 BK262 HB hx267_0 hx268_0 hx269_0 hHeld ⊢; refine pureZ HT_ 0 (some 20) (bT 17 1) ?_; refine pureZ HT_ 1 (some 21) (bT 17 2) ?_; refine pureZ HT_ 2 (some 22) (bT 17 3) ?_; refine pureZ HT_ 3 (some 23) (bT 17 4) ?_; refine pureZ HT_ 4 (some 24) (bT 17 5) ?_; refine pureZ HT_ 5 (some 25) (bT 17 6) ?_; refine pureZ HT_ 6 (some 26) (bT 17 7) ?_; refine pureZ HT_ 7 (some 27) (bT 17 8) ?_; refine pureZ HT_ 11 (some 31) (bB 17 2303) ?_; refine pureZ HT_ 12 (some 32) (bB 17 6399) ?_; refine pureZ HT_ 13 (some 33) (bB 17 14591) ?_; refine takeZ3 HT_ HW_ 8 (some 28) (bB 17 14847) hHeld ?_; refine pureZ HT_ 9 (some 29) (bB 17 15359) ?_; refine takeZ3 HT_ HW_ 10 (some 30) (bT 17 14) hHeld ?_; refine takeZ3 HT_ HW_ 14 (some 34) (bT 17 15) hHeld ?_; refine pureZ HT_ 15 (some 35) (bT 17 16) ?_; refine pureZ HT_ 16 (some 36) (bT 17 17) ?_; refine done_ (done_of HT_.out Zm) ?_
                try go_wp2
                go_roundg k2
                case measure => have := HK1.out; have := HK2.out; omega
                case rel => exact ⟨(ji14), (by first | rfl | (simp; done) | (simp only [← hji14] <;> (first | rfl | simp)) | (simp [*]; done)), H', ⟨Zs⟩, ⟨(Zag HO_4)⟩, ⟨(Zag HO_5)⟩, ⟨(Zah BK262)⟩, ⟨(Zh GE262)⟩⟩
               ·rw [if_neg c21] at H
                have c21b0 : decide ((rd x4_1 x15_1) < (rd x4_1 (rd x5_1 (ji14)))) = false := decide_eq_false c21; clear c21
                by_cases c23 : x5_1.length < 17592186044416
                ·rw [if_pos c23] at H
                 have LMc23 := am_ c23; clear c23; obtain ⟨y270, hy270⟩ : ∃ y_ : List Int, y_ = (x5_1 ++ [0]) := ⟨_, rfl⟩
                 (first | (rw [← hy270] at H; with_reducible replace H := bindZ H) | rw [← hy270] at H | skip)
                 have Ny270 := am_ hy270; clear hy270; obtain ⟨ji24, hji24⟩ : ∃ j_ : Int, (wrap64 (x7_2 + 1)) = j_ := ⟨_, rfl⟩
                 replace H : (if 0 ≤ (ji24) then (if (ji24) ≤ (y270.length : Int) then (if 0 ≤ x7_2 then (if x7_2 ≤ (y270.length : Int) then ((some (cpyup y270 (x7_2 : Int).toNat : List Int)).bind fun y281 => (if x7_2 < (y281.length : Int) then (impl_FireOrder.l0 k2 x4_1 (y281.set (x7_2 : Int).toNat x15_1) (x4_1.length : Int) (wrap64 (x15_1 + 1))) else (none))) else (none)) else (none)) else (none)) else (none)) = some (r1, r2) := by first | (rw [hji24] at H; exact H) | (simp only [hji24] at H ⊢; exact H)
                 have hji24w : (IntKind.i64.wrap (x7_2 + 1)) = ji24 := (i64_w _).trans hji24
                 by_cases c25 : 0 ≤ (ji24)
                 ·rw [if_pos c25] at H
                  have c25b0 := eq_true c25; have c25b1 := decide_eq_true c25; clear c25
                  by_cases c26 : (ji24) ≤ (y270.length : Int)
                  ·rw [if_pos c26] at H
                   have c26b0 := eq_true c26; have c26b1 := decide_eq_true c26; clear c26; obtain ⟨y273, hy273⟩ : ∃ y_ : List Int, y_ = (y270.drop ((ji24) : Int).toNat) := ⟨_, rfl⟩
                   (first | (rw [← hy273] at H; with_reducible replace H := bindZ H) | rw [← hy273] at H | skip)
                   have Ny273 := am_ hy273; clear hy273
                   by_cases c27 : 0 ≤ x7_2
                   ·rw [if_pos c27] at H
                    have c27b0 := eq_true c27; have c27b1 := decide_eq_true c27; clear c27
                    by_cases c28 : x7_2 ≤ (y270.length : Int)
                    ·rw [if_pos c28] at H
                     have c28b0 := eq_true c28; have c28b1 := decide_eq_true c28; clear c28; obtain ⟨y277, hy277⟩ : ∃ y_ : List Int, y_ = (y270.drop (x7_2 : Int).toNat) := ⟨_, rfl⟩
                     (first | (rw [← hy277] at H; with_reducible replace H := bindZ H) | rw [← hy277] at H | skip)
                     have Ny277 := am_ hy277; clear hy277; obtain ⟨y281, hy281⟩ : ∃ y_ : List Int, y_ = (cpyup y270 (x7_2 : Int).toNat) := ⟨_, rfl⟩
                     (first | (rw [← hy281] at H; with_reducible replace H := bindZ H) | rw [← hy281] at H | skip)
                     have Ny281 := am_ hy281; clear hy281
                     by_cases c29 : x7_2 < (y281.length : Int)
                     ·rw [if_pos c29] at H
                      have c29b0 := decide_eq_true c29; clear c29; obtain ⟨y284, hy284⟩ : ∃ y_ : List Int, y_ = (y281.set (x7_2 : Int).toNat x15_1) := ⟨_, rfl⟩
                      (first | (rw [← hy284] at H; with_reducible replace H := bindZ H) | rw [← hy284] at H | skip)
                      have Ny284 := am_ hy284; clear hy284; have H' := am_ H; clear H
                      try go_wp2
                      replace HO_4 := am_ (Kd.R_drew HO_4.out); replace HO_5 := am_ (Kd.R_drew HO_5.out); replace BK262 := am_ (blk_drew BK262.out); replace HB := am_ (below_drew1 HB.out); have p267 : 0 ≤ ((ji14) : Int) := of_decide_eq_true Zc; have q267 : (ji14) < (x5_1.length : Int) := of_decide_eq_true Zc; obtain ⟨ad267, e267, hx267_0⟩ := Kd.at_int (Kd.R_reads' HO_5.out).2.2 (ji14) p267 q267
                      cases e267
                      replace p267 := eq_true p267; replace q267 := eq_true q267; have p268 : 0 ≤ ((rd x5_1 (ji14)) : Int) := of_decide_eq_true Zc; have q268 : (rd x5_1 (ji14)) < (x4_1.length : Int) := of_decide_eq_true Zc; obtain ⟨ad268, e268, hx268_0⟩ := Kd.at_int (Kd.R_reads' HO_4.out).2.2 (rd x5_1 (ji14)) p268 q268
                      cases e268
                      replace p268 := eq_true p268; replace q268 := eq_true q268; have p269 : 0 ≤ (x15_1 : Int) := of_decide_eq_true Zc; have q269 : x15_1 < (x4_1.length : Int) := of_decide_eq_true Zc; obtain ⟨ad269, e269, hx269_0⟩ := Kd.at_int (Kd.R_reads' HO_4.out).2.2 x15_1 p269 q269; obtain rfl : ad268 = ad269 := (by injection e269); replace p269 := eq_true p269; replace q269 := eq_true q269; refine start_ (n := 17) (S := fun w' => w'.cell? (ad267.add ((ji14)).toNat) = some (.int .i64 (rd x5_1 (ji14))) ∧ w'.cell? (ad268.add ((rd x5_1 (ji14))).toNat) = some (.int .i64 (rd x4_1 (rd x5_1 (ji14)))) ∧ w'.cell? (ad268.add (x15_1).toNat) = some (.int .i64 (rd x4_1 x15_1))) (ds := []) (bT 17 0) Zm rfl rfl ⟨hx267_0, hx268_0, hx269_0⟩ (fun hHeld => ?_); refine with_tabW impl_FireOrder.tab9 impl_FireOrder.bits9 (fun HT_ HW_ => ?_); generalize wr.drew = w31 at HO_4 HO_5 BK262 HB hx267_0 hx268_0 hx269_0 hHeld ⊢; refine pureZ HT_ 0 (some 20) (bT 17 1) ?_; refine pureZ HT_ 1 (some 21) (bT 17 2) ?_; refine pureZ HT_ 2 (some 22) (bT 17 3) ?_; refine pureZ HT_ 3 (some 23) (bT 17 4) ?_; refine pureZ HT_ 4 (some 24) (bT 17 5) ?_; refine pureZ HT_ 5 (some 25) (bT 17 6) ?_; refine pureZ HT_ 6 (some 26) (bT 17 7) ?_; refine pureZ HT_ 7 (some 27) (bT 17 8) ?_; refine pureZ HT_ 11 (some 31) (bB 17 2303) ?_; refine pureZ HT_ 12 (some 32) (bB 17 6399) ?_; refine pureZ HT_ 13 (some 33) (bB 17 14591) ?_; refine takeZ3 HT_ HW_ 8 (some 28) (bB 17 14847) hHeld ?_; refine pureZ HT_ 9 (some 29) (bB 17 15359) ?_; refine takeZ3 HT_ HW_ 10 (some 30) (bT 17 14) hHeld ?_; refine takeZ3 HT_ HW_ 14 (some 34) (bT 17 15) hHeld ?_; refine pureZ HT_ 15 (some 35) (bT 17 16) ?_; refine pureZ HT_ 16 (some 36) (bT 17 17) ?_; refine done_ (done_of HT_.out Zm) ?_
                      try go_wp2_with (first | ((with_reducible refine gate_builtin (b := .append) (xs := #[.tmp 39, .tmp 40]) rfl ?_); at_builtin; refine Kd.R_append (Kd.int .i64) (w0 := w) w.heap.size rfl (.tmp 39) (.tmp 40) 28 2 (.int .i64 0) 8 rfl Try.underlying28 info2 rfl (by decide) (by omega) (.slice (some ad267) x5_1.length co12) x5_1 0 [.int .i64 0] (fun k_ => some k_ ≠ (.slice (some ad268) x4_1.length co10 : Value).ownBlock) (fun _ => False) rfl rfl ?aP (fun _ hk => hk.elim) ?aF ?aO ?aB ?aS ?aL ?_; (case aP => exact rfl); (case aB => exact (Zh GE262)); (case aF => exact (fun k_ hk => Kd.fresh' (Kd.R_lt (Zr HO_4)) k_ hk)); (case aO => exact (Zr HO_5)); (case aS => exact (below_size (Zh GE262))); (case aL => have := LMc23.out; omega); intro v271 w32 ho hb hg hat; rw [← Ny270.out] at ho; replace HO_4 := am_ (Kd.R_after (ok := (fun _ => True)) (Zai HO_4) hg hat); replace BK262 := am_ (blk_grown (g := gb262) (b0Z BK262) hg (Kd.R_ne HO_5.out BK262.out (by decide))); replace HB := am_ (hb); replace HO272 := am_ (ho); clear HO_5; clear ho hb hg hat))
                      replace HO_4 := am_ (Kd.R_drew HO_4.out); replace HO272 := am_ (Kd.R_drew HO272.out); replace BK262 := am_ (blk_drew BK262.out); replace HB := am_ (below_drew1 HB.out); obtain ⟨Ao35, co35, eo35⟩ := Kd.R_slice HO272.out
                      (first | subst eo35 | (injection eo35 with f1_ f2_ f3_; have f4_ := f1_.symm; have f5_ := f3_.symm; clear f1_ f2_ f3_; subst f4_; subst f5_))
                      have q34 : ((ji24) : Int) ≤ ((y270.length : Int) : Int) := of_decide_eq_true Zc; obtain ⟨i034, hi034, _, hsz34, _⟩ := info_parts info2; have hroom34 : y270.length ≤ co35 := (Kd.R_reads' HO272.out).2.1; have hC34 : Kd.C (Kd.int .i64) _ Ao35 y270.length y270 := (Kd.R_reads' HO272.out).2.2; have q034 : (0 : Int) ≤ ((ji24) : Int) := of_decide_eq_true Zc; have hcut34 := cut_from (P := Try.prog) 28 2 .i64 Try.underlying28 hi034 1 hsz34 Ao35 y270.length co35 (ji24) q034 q34; have hr34 := Kd.C_drop (m := ((ji24) : Int).toNat) (c := co35) hC34 (by omega) hroom34; obtain ⟨A34, hA34⟩ : ∃ A1, A1 = (if co35 = ((ji24) : Int).toNat then Ao35 else (Ao35 : Option Addr).map (·.add (((ji24) : Int).toNat * 1))) := ⟨_, rfl⟩; obtain ⟨c34, hc34⟩ : ∃ c1, c1 = co35 - ((ji24) : Int).toNat := ⟨_, rfl⟩; have hy34 : y273.length = y270.length - ((ji24) : Int).toNat := (by rw [Ny273.out, List.length_drop] <;> omega); rw [show (y270).drop ((ji24) : Int).toNat = y273 from Ny273.out.symm] at hr34; replace hr34 : Kd.C (Kd.int .i64) _ A34 y273.length y273 := (by rw [hA34]; exact hr34); rw [← hy34, ← hA34, ← hc34] at hcut34; have HR276 := am_ hr34; have HC276 := am_ (show y273.length ≤ c34 from (by rw [hy34, hc34]; exact Nat.sub_le_sub_right hroom34 _)); clear hr34 hC34 hroom34 hi034 hsz34 hc34; have KY34 := am_ hy34; have KA34 := am_ hA34; clear hy34 hA34; have KL34 := am_ (show ((ji24) : Int).toNat ≤ y270.length from (by omega)); replace q34 := eq_true q34; have q36 : (x7_2 : Int) ≤ ((y270.length : Int) : Int) := of_decide_eq_true Zc; obtain ⟨i036, hi036, _, hsz36, _⟩ := info_parts info2; have hroom36 : y270.length ≤ co35 := (Kd.R_reads' HO272.out).2.1; have hC36 : Kd.C (Kd.int .i64) _ Ao35 y270.length y270 := (Kd.R_reads' HO272.out).2.2; have q036 : (0 : Int) ≤ (x7_2 : Int) := of_decide_eq_true Zc; have hcut36 := cut_from (P := Try.prog) 28 2 .i64 Try.underlying28 hi036 1 hsz36 Ao35 y270.length co35 x7_2 q036 q36; have hr36 := Kd.C_drop (m := (x7_2 : Int).toNat) (c := co35) hC36 (by omega) hroom36; obtain ⟨A36, hA36⟩ : ∃ A1, A1 = (if co35 = (x7_2 : Int).toNat then Ao35 else (Ao35 : Option Addr).map (·.add ((x7_2 : Int).toNat * 1))) := ⟨_, rfl⟩; obtain ⟨c36, hc36⟩ : ∃ c1, c1 = co35 - (x7_2 : Int).toNat := ⟨_, rfl⟩; have hy36 : y277.length = y270.length - (x7_2 : Int).toNat := (by rw [Ny277.out, List.length_drop] <;> omega); rw [show (y270).drop (x7_2 : Int).toNat = y277 from Ny277.out.symm] at hr36; replace hr36 : Kd.C (Kd.int .i64) _ A36 y277.length y277 := (by rw [hA36]; exact hr36); rw [← hy36, ← hA36, ← hc36] at hcut36; have HR280 := am_ hr36; have HC280 := am_ (show y277.length ≤ c36 from (by rw [hy36, hc36]; exact Nat.sub_le_sub_right hroom36 _)); clear hr36 hC36 hroom36 hi036 hsz36 hc36; have KY36 := am_ hy36; have KA36 := am_ hA36; clear hy36 hA36; have KL36 := am_ (show (x7_2 : Int).toNat ≤ y270.length from (by omega)); replace q36 := eq_true q36; obtain ⟨go38, co38, eo38, gb38, gl38, cl38, HG38⟩ := Kd.R_form HO272.out (by have hj_ : 0 ≤ (x7_2 : Int) := of_decide_eq_true Zc; have hl_ : (ji24 : Int) ≤ (y270.length : Int) := of_decide_eq_true Zc; have hh_ : (x7_2 : Int) ≤ (y270.length : Int) := of_decide_eq_true Zc; rw [← hji24] at hl_; unfold wrap64 at hl_; omega)
                      (first | cases eo38 | (injection eo38 with ea_ en_ ec_; (first | subst ea_ | (injection ea_ with ea_; subst ea_)); subst ec_; clear en_))
                      have GB38 := am_ gb38; have GG38 := am_ HG38; clear gb38 gl38 HG38; refine start_ (n := 8) (S := fun w' => True) (ds := []) (bT 8 0) Zm rfl rfl trivial (fun hHeld => ?_); refine with_tabW impl_FireOrder.tab12 impl_FireOrder.bits12 (fun HT_ HW_ => ?_); generalize w32.drew = w33 at HO_4 HO272 BK262 HB GG38 HR276 HR280 hHeld ⊢; refine pureZ HT_ 0 (some 42) (bT 8 1) ?_; refine pureZ HT_ 1 (some 43) (bT 8 2) ?_; refine pureZ HT_ 2 (some 44) (bT 8 3) ?_; refine pureZ HT_ 3 (some 45) (bT 8 4) ?_; refine pureZ HT_ 4 (some 46) (bT 8 5) ?_; refine pureZ HT_ 5 (some 47) (bT 8 6) ?_; refine pureZ HT_ 6 (some 48) (bT 8 7) ?_; refine one_ (i := 7) (N := some 49) (bT 8 8) rfl rfl (one_of HT_.out Zm) (by decide) (fun K hK => ?_); have hj_ : 0 ≤ (x7_2 : Int) := of_decide_eq_true Zc; have hl_ : (ji24 : Int) ≤ (y270.length : Int) := of_decide_eq_true Zc; have hh_ : (x7_2 : Int) ≤ (y270.length : Int) := of_decide_eq_true Zc; have hb_ := (Kd.R_reads' HO272.out).2.2.2.1; have h0_ : (0 : Int) ≤ (ji24 : Int) := of_decide_eq_true Zc; have hk_ : (ji24 : Int).toNat = (x7_2 : Int).toNat + 1 := (by have hw_ : (ji24 : Int) = x7_2 + 1 := (by have h00_ := h0_; rw [← hji24] at h00_ ⊢; unfold wrap64 at h00_ ⊢; omega); rw [hw_]; omega); refine R_copyup_step (w0 := w) w.heap.size (by rfl) (.tmp 45) (.tmp 48) 28 2 rfl Try.underlying28 Zm (g := go38) (n := y270.length) (c := co35) (k := (x7_2 : Int).toNat) rfl rfl ?hA ?hB ?hm1 ?hm2 (Zr HO272) ?hk (Zh GE262) (below_size (Zh GE262)) ?_
                      (case hA => have ha_ := KA34.out; rw [hk_] at ha_; exact ha_)
                      (case hB => exact KA36.out)
                      (case hm1 => have ha_ := KY34.out; omega)
                      (case hm2 => have ha_ := KY36.out; omega)
                      (case hk => omega)
                      intro w37 ho hb hg; clear hj_ hl_ hh_ hb_ hk_ h0_; rw [← Ny281.out] at ho; have hn_ : y270.length = y281.length := (Kd.R_reads' ho).1; rw [hn_] at ho ⊢; clear hn_; replace HO_4 := am_ (Kd.R_after (v := (.slice (some ⟨go38, 0, none⟩) y270.length co35)) (v1 := .slice (some ⟨go38, 0, none⟩) y281.length co35) (ok := (fun _ => True)) (Zr HO_4) hg (.inl rfl)); replace BK262 := am_ (blk_grown (g := gb262) (b0Z BK262) hg (Kd.R_ne HO272.out BK262.out (by decide))); replace HO272 := am_ (ho); replace HB := am_ (hb); clear ho hb hg; refine hK.out _ _ trivial (fun hHeld => ?_); clear hK K; refine normZ 49 ?_; refine done_ (done_of HT_.out Zm) ?_; have p30 : 0 ≤ (x7_2 : Int) := of_decide_eq_true Zc; have q30 : (x7_2 : Int) < ((y281.length : Int) : Int) := of_decide_eq_true Zc; obtain ⟨hx30_0, hf30_0⟩ := Kd.R_celln 0 HO272.out (x7_2 : Int) p30 q30; replace p30 := eq_true p30; replace q30 := eq_true q30; obtain ⟨hy39_, hz39_⟩ := Kd.R_celln 0 HO272.out (x7_2 : Int) (of_decide_eq_true Zc) (of_decide_eq_true Zc); have HP39 := Kd.R_putg HO272.out (x7_2 : Int) x15_1
                      try go_wp2_with (first | ((with_reducible refine gate_store (t := 2) (p := 53) rfl ?_); refine store_event (t := 2) (p := 53) (v := ?vo_w40) (w1 := (w37.setCell ⟨go38, (x7_2 : Int).toNat, none⟩ (.int .i64 x15_1))) ?hg ?ho ?hn ?hr ?_; (case ho => rfl); (case hg => rfl); (case hn => rfl); (case hr => first | (go_simp; done) | (go_simp; rfl)); intro w40 hw; have hg : w37.grownBy w40 (some go38) := (by rw [hw]; exact HP39.2); have hp_ : Kd.R (Kd.int .i64) 2 w40 w.heap.size (fun k_ => some k_ ≠ (.slice (some ad268) x4_1.length co10 : Value).ownBlock) (.slice (some ⟨go38, 0, none⟩) y281.length co35) y284 := (by rw [hw, Ny284.out]; exact HP39.1); clear HP39; replace HO_4 := am_ (Kd.R_after (v := (.slice (some ⟨go38, 0, none⟩) y281.length co35)) (v1 := (.slice (some ⟨go38, 0, none⟩) y281.length co35)) (ok := (fun _ => True)) (Zr HO_4) hg (.inl rfl)); replace BK262 := am_ (blk_grown (g := gb262) (b0Z BK262) hg (Kd.R_ne HO272.out BK262.out (by decide))); replace HO272 := am_ (hp_); replace HB := am_ ((by rw [hw]; exact below_set (HB.out) GB38.out : Below w.heap.size w w40)); clear hg hw hp_))
                      (try simp only [← hl4_1])
                      go_roundg k2
                      case measure => have := HK1.out; have := HK2.out; omega
                      case rel => exact ⟨(x4_1), (y284), (wrap64 (x15_1 + 1)), Za, (by (try simp only [hl4_1]); exact H'), ⟨Zs⟩, ⟨by (try simp only [hl4_1]); (with_reducible repeat (first | apply Kd.R_alloc | apply Kd.R_drewN | apply Kd.R_drew)); exact Kd.R_mono HO_4.out (fun _ hk => hk.2)⟩, ⟨(Zag HO272)⟩, ⟨(Zah BK262)⟩, ⟨(Zh GE262)⟩⟩
                     ·rw [if_neg c29] at H
                      exact absurd H (by simp)
                    ·rw [if_neg c28] at H
                     exact absurd H (by simp)
                   ·rw [if_neg c27] at H
                    exact absurd H (by simp)
                  ·rw [if_neg c26] at H
                   exact absurd H (by simp)
                 ·rw [if_neg c25] at H
                  exact absurd H (by simp)
                ·rw [if_neg c23] at H
                 exact absurd H (by simp)
              ·rw [if_neg c20] at H
               exact absurd H (by simp)
             ·rw [if_neg c19] at H
              exact absurd H (by simp)
            ·rw [if_neg c18] at H
             exact absurd H (by simp)
           ·rw [if_neg c17] at H
            exact absurd H (by simp)
          ·rw [if_neg c16] at H
           exact absurd H (by simp)
         ·rw [if_neg c15] at H
          exact absurd H (by simp)
        ·rw [if_neg c13] at H
         have c13b0 : decide (0 < x7_2) = false := decide_eq_false c13; clear c13
         by_cases c41 : x5_1.length < 17592186044416
         ·rw [if_pos c41] at H
          have LMc41 := am_ c41; clear c41; obtain ⟨y285, hy285⟩ : ∃ y_ : List Int, y_ = (x5_1 ++ [0]) := ⟨_, rfl⟩
          (first | (rw [← hy285] at H; with_reducible replace H := bindZ H) | rw [← hy285] at H | skip)
          have Ny285 := am_ hy285; clear hy285; obtain ⟨ji42, hji42⟩ : ∃ j_ : Int, (wrap64 (x7_2 + 1)) = j_ := ⟨_, rfl⟩
          replace H : (if 0 ≤ (ji42) then (if (ji42) ≤ (y285.length : Int) then (if 0 ≤ x7_2 then (if x7_2 ≤ (y285.length : Int) then ((some (cpyup y285 (x7_2 : Int).toNat : List Int)).bind fun y296 => (if x7_2 < (y296.length : Int) then (impl_FireOrder.l0 k2 x4_1 (y296.set (x7_2 : Int).toNat x15_1) (x4_1.length : Int) (wrap64 (x15_1 + 1))) else (none))) else (none)) else (none)) else (none)) else (none)) = some (r1, r2) := by first | (rw [hji42] at H; exact H) | (simp only [hji42] at H ⊢; exact H)
          have hji42w : (IntKind.i64.wrap (x7_2 + 1)) = ji42 := (i64_w _).trans hji42
          by_cases c43 : 0 ≤ (ji42)
          ·rw [if_pos c43] at H
           have c43b0 := eq_true c43; have c43b1 := decide_eq_true c43; clear c43
           by_cases c44 : (ji42) ≤ (y285.length : Int)
           ·rw [if_pos c44] at H
            have c44b0 := eq_true c44; have c44b1 := decide_eq_true c44; clear c44; obtain ⟨y288, hy288⟩ : ∃ y_ : List Int, y_ = (y285.drop ((ji42) : Int).toNat) := ⟨_, rfl⟩
            (first | (rw [← hy288] at H; with_reducible replace H := bindZ H) | rw [← hy288] at H | skip)
            have Ny288 := am_ hy288; clear hy288
            by_cases c45 : 0 ≤ x7_2
            ·rw [if_pos c45] at H
             have c45b0 := eq_true c45; have c45b1 := decide_eq_true c45; clear c45
             by_cases c46 : x7_2 ≤ (y285.length : Int)
             ·rw [if_pos c46] at H
              have c46b0 := eq_true c46; have c46b1 := decide_eq_true c46; clear c46; obtain ⟨y292, hy292⟩ : ∃ y_ : List Int, y_ = (y285.drop (x7_2 : Int).toNat) := ⟨_, rfl⟩
              (first | (rw [← hy292] at H; with_reducible replace H := bindZ H) | rw [← hy292] at H | skip)
              have Ny292 := am_ hy292; clear hy292; obtain ⟨y296, hy296⟩ : ∃ y_ : List Int, y_ = (cpyup y285 (x7_2 : Int).toNat) := ⟨_, rfl⟩
              (first | (rw [← hy296] at H; with_reducible replace H := bindZ H) | rw [← hy296] at H | skip)
              have Ny296 := am_ hy296; clear hy296
              by_cases c47 : x7_2 < (y296.length : Int)
              ·rw [if_pos c47] at H
               have c47b0 := decide_eq_true c47; clear c47; obtain ⟨y299, hy299⟩ : ∃ y_ : List Int, y_ = (y296.set (x7_2 : Int).toNat x15_1) := ⟨_, rfl⟩
               (first | (rw [← hy299] at H; with_reducible replace H := bindZ H) | rw [← hy299] at H | skip)
               have Ny299 := am_ hy299; clear hy299; have H' := am_ H; clear H
               try go_wp2
               replace HO_4 := am_ (Kd.R_drew HO_4.out); replace HO_5 := am_ (Kd.R_drew HO_5.out); replace BK262 := am_ (blk_drew BK262.out); replace HB := am_ (below_drew1 HB.out); refine start_ (n := 17) (S := fun w' => True) (ds := []) (bT 17 0) Zm rfl rfl trivial (fun hHeld => ?_); refine with_tabW impl_FireOrder.tab9 impl_FireOrder.bits9 (fun HT_ HW_ => ?_); generalize wr.drew = w49 at HO_4 HO_5 BK262 HB hHeld ⊢; refine pureZ HT_ 0 (some 20) (bT 17 1) ?_; refine pureZ HT_ 1 (some 21) (bT 17 2) ?_; refine pureZ HT_ 2 (some 22) (bT 17 3) ?_; refine pureU HT_ 3 (some 23) (bT 17 4) ?_; refine pureU HT_ 4 (some 24) (bT 17 5) ?_; refine pureU HT_ 5 (some 25) (bT 17 6) ?_; refine pureU HT_ 6 (some 26) (bT 17 7) ?_; refine pureU HT_ 7 (some 27) (bT 17 8) ?_; refine pureU HT_ 8 (some 28) (bT 17 9) ?_; refine pureU HT_ 9 (some 29) (bT 17 10) ?_; refine pureU HT_ 10 (some 30) (bT 17 11) ?_; refine pureU HT_ 11 (some 31) (bT 17 12) ?_; refine pureU HT_ 12 (some 32) (bT 17 13) ?_; refine pureU HT_ 13 (some 33) (bT 17 14) ?_; refine pureU HT_ 14 (some 34) (bT 17 15) ?_; refine pureU HT_ 15 (some 35) (bT 17 16) ?_; refine pureZ HT_ 16 (some 36) (bT 17 17) ?_; refine done_ (done_of HT_.out Zm) ?_
               try go_wp2_with (first | ((with_reducible refine gate_builtin (b := .append) (xs := #[.tmp 39, .tmp 40]) rfl ?_); at_builtin; refine Kd.R_append (Kd.int .i64) (w0 := w) w.heap.size rfl (.tmp 39) (.tmp 40) 28 2 (.int .i64 0) 8 rfl Try.underlying28 info2 rfl (by decide) (by omega) (.slice Ao12 x5_1.length co12) x5_1 0 [.int .i64 0] (fun k_ => some k_ ≠ (.slice Ao10 x4_1.length co10 : Value).ownBlock) (fun _ => False) rfl rfl ?aP (fun _ hk => hk.elim) ?aF ?aO ?aB ?aS ?aL ?_; (case aP => exact rfl); (case aB => exact (Zh GE262)); (case aF => exact (fun k_ hk => Kd.fresh' (Kd.R_lt (Zr HO_4)) k_ hk)); (case aO => exact (Zr HO_5)); (case aS => exact (below_size (Zh GE262))); (case aL => have := LMc41.out; omega); intro v286 w50 ho hb hg hat; rw [← Ny285.out] at ho; replace HO_4 := am_ (Kd.R_after (ok := (fun _ => True)) (Zai HO_4) hg hat); replace BK262 := am_ (blk_grown (g := gb262) (b0Z BK262) hg (Kd.R_ne HO_5.out BK262.out (by decide))); replace HB := am_ (hb); replace HO287 := am_ (ho); clear HO_5; clear ho hb hg hat))
               replace HO_4 := am_ (Kd.R_drew HO_4.out); replace HO287 := am_ (Kd.R_drew HO287.out); replace BK262 := am_ (blk_drew BK262.out); replace HB := am_ (below_drew1 HB.out); obtain ⟨Ao53, co53, eo53⟩ := Kd.R_slice HO287.out
               (first | subst eo53 | (injection eo53 with f1_ f2_ f3_; have f4_ := f1_.symm; have f5_ := f3_.symm; clear f1_ f2_ f3_; subst f4_; subst f5_))
               have q52 : ((ji42) : Int) ≤ ((y285.length : Int) : Int) := of_decide_eq_true Zc; obtain ⟨i052, hi052, _, hsz52, _⟩ := info_parts info2; have hroom52 : y285.length ≤ co53 := (Kd.R_reads' HO287.out).2.1; have hC52 : Kd.C (Kd.int .i64) _ Ao53 y285.length y285 := (Kd.R_reads' HO287.out).2.2; have q052 : (0 : Int) ≤ ((ji42) : Int) := of_decide_eq_true Zc; have hcut52 := cut_from (P := Try.prog) 28 2 .i64 Try.underlying28 hi052 1 hsz52 Ao53 y285.length co53 (ji42) q052 q52; have hr52 := Kd.C_drop (m := ((ji42) : Int).toNat) (c := co53) hC52 (by omega) hroom52; obtain ⟨A52, hA52⟩ : ∃ A1, A1 = (if co53 = ((ji42) : Int).toNat then Ao53 else (Ao53 : Option Addr).map (·.add (((ji42) : Int).toNat * 1))) := ⟨_, rfl⟩; obtain ⟨c52, hc52⟩ : ∃ c1, c1 = co53 - ((ji42) : Int).toNat := ⟨_, rfl⟩; have hy52 : y288.length = y285.length - ((ji42) : Int).toNat := (by rw [Ny288.out, List.length_drop] <;> omega); rw [show (y285).drop ((ji42) : Int).toNat = y288 from Ny288.out.symm] at hr52; replace hr52 : Kd.C (Kd.int .i64) _ A52 y288.length y288 := (by rw [hA52]; exact hr52); rw [← hy52, ← hA52, ← hc52] at hcut52; have HR291 := am_ hr52; have HC291 := am_ (show y288.length ≤ c52 from (by rw [hy52, hc52]; exact Nat.sub_le_sub_right hroom52 _)); clear hr52 hC52 hroom52 hi052 hsz52 hc52; have KY52 := am_ hy52; have KA52 := am_ hA52; clear hy52 hA52; have KL52 := am_ (show ((ji42) : Int).toNat ≤ y285.length from (by omega)); replace q52 := eq_true q52; have q54 : (x7_2 : Int) ≤ ((y285.length : Int) : Int) := of_decide_eq_true Zc; obtain ⟨i054, hi054, _, hsz54, _⟩ := info_parts info2; have hroom54 : y285.length ≤ co53 := (Kd.R_reads' HO287.out).2.1; have hC54 : Kd.C (Kd.int .i64) _ Ao53 y285.length y285 := (Kd.R_reads' HO287.out).2.2; have q054 : (0 : Int) ≤ (x7_2 : Int) := of_decide_eq_true Zc; have hcut54 := cut_from (P := Try.prog) 28 2 .i64 Try.underlying28 hi054 1 hsz54 Ao53 y285.length co53 x7_2 q054 q54; have hr54 := Kd.C_drop (m := (x7_2 : Int).toNat) (c := co53) hC54 (by omega) hroom54; obtain ⟨A54, hA54⟩ : ∃ A1, A1 = (if co53 = (x7_2 : Int).toNat then Ao53 else (Ao53 : Option Addr).map (·.add ((x7_2 : Int).toNat * 1))) := ⟨_, rfl⟩; obtain ⟨c54, hc54⟩ : ∃ c1, c1 = co53 - (x7_2 : Int).toNat := ⟨_, rfl⟩; have hy54 : y292.length = y285.length - (x7_2 : Int).toNat := (by rw [Ny292.out, List.length_drop] <;> omega); rw [show (y285).drop (x7_2 : Int).toNat = y292 from Ny292.out.symm] at hr54; replace hr54 : Kd.C (Kd.int .i64) _ A54 y292.length y292 := (by rw [hA54]; exact hr54); rw [← hy54, ← hA54, ← hc54] at hcut54; have HR295 := am_ hr54; have HC295 := am_ (show y292.length ≤ c54 from (by rw [hy54, hc54]; exact Nat.sub_le_sub_right hroom54 _)); clear hr54 hC54 hroom54 hi054 hsz54 hc54; have KY54 := am_ hy54; have KA54 := am_ hA54; clear hy54 hA54; have KL54 := am_ (show (x7_2 : Int).toNat ≤ y285.length from (by omega)); replace q54 := eq_true q54; obtain ⟨go56, co56, eo56, gb56, gl56, cl56, HG56⟩ := Kd.R_form HO287.out (by have hj_ : 0 ≤ (x7_2 : Int) := of_decide_eq_true Zc; have hl_ : (ji42 : Int) ≤ (y285.length : Int) := of_decide_eq_true Zc; have hh_ : (x7_2 : Int) ≤ (y285.length : Int) := of_decide_eq_true Zc; rw [← hji42] at hl_; unfold wrap64 at hl_; omega)
               (first | cases eo56 | (injection eo56 with ea_ en_ ec_; (first | subst ea_ | (injection ea_ with ea_; subst ea_)); subst ec_; clear en_))
               have GB56 := am_ gb56; have GG56 := am_ HG56; clear gb56 gl56 HG56; refine start_ (n := 8) (S := fun w' => True) (ds := []) (bT 8 0) Zm rfl rfl trivial (fun hHeld => ?_); refine with_tabW impl_FireOrder.tab12 impl_FireOrder.bits12 (fun HT_ HW_ => ?_); generalize w50.drew = w51 at HO_4 HO287 BK262 HB GG56 HR291 HR295 hHeld ⊢; refine pureZ HT_ 0 (some 42) (bT 8 1) ?_; refine pureZ HT_ 1 (some 43) (bT 8 2) ?_; refine pureZ HT_ 2 (some 44) (bT 8 3) ?_; refine pureZ HT_ 3 (some 45) (bT 8 4) ?_; refine pureZ HT_ 4 (some 46) (bT 8 5) ?_; refine pureZ HT_ 5 (some 47) (bT 8 6) ?_; refine pureZ HT_ 6 (some 48) (bT 8 7) ?_; refine one_ (i := 7) (N := some 49) (bT 8 8) rfl rfl (one_of HT_.out Zm) (by decide) (fun K hK => ?_); have hj_ : 0 ≤ (x7_2 : Int) := of_decide_eq_true Zc; have hl_ : (ji42 : Int) ≤ (y285.length : Int) := of_decide_eq_true Zc; have hh_ : (x7_2 : Int) ≤ (y285.length : Int) := of_decide_eq_true Zc; have hb_ := (Kd.R_reads' HO287.out).2.2.2.1; have h0_ : (0 : Int) ≤ (ji42 : Int) := of_decide_eq_true Zc; have hk_ : (ji42 : Int).toNat = (x7_2 : Int).toNat + 1 := (by have hw_ : (ji42 : Int) = x7_2 + 1 := (by have h00_ := h0_; rw [← hji42] at h00_ ⊢; unfold wrap64 at h00_ ⊢; omega); rw [hw_]; omega); refine R_copyup_step (w0 := w) w.heap.size (by rfl) (.tmp 45) (.tmp 48) 28 2 rfl Try.underlying28 Zm (g := go56) (n := y285.length) (c := co53) (k := (x7_2 : Int).toNat) rfl rfl ?hA ?hB ?hm1 ?hm2 (Zr HO287) ?hk (Zh GE262) (below_size (Zh GE262)) ?_
               (case hA => have ha_ := KA52.out; rw [hk_] at ha_; exact ha_)
               (case hB => exact KA54.out)
               (case hm1 => have ha_ := KY52.out; omega)
               (case hm2 => have ha_ := KY54.out; omega)
               (case hk => omega)
               intro w55 ho hb hg; clear hj_ hl_ hh_ hb_ hk_ h0_; rw [← Ny296.out] at ho; have hn_ : y285.length = y296.length := (Kd.R_reads' ho).1; rw [hn_] at ho ⊢; clear hn_; replace HO_4 := am_ (Kd.R_after (v := (.slice (some ⟨go56, 0, none⟩) y285.length co53)) (v1 := .slice (some ⟨go56, 0, none⟩) y296.length co53) (ok := (fun _ => True)) (Zr HO_4) hg (.inl rfl)); replace BK262 := am_ (blk_grown (g := gb262) (b0Z BK262) hg (Kd.R_ne HO287.out BK262.out (by decide))); replace HO287 := am_ (ho); replace HB := am_ (hb); clear ho hb hg; refine hK.out _ _ trivial (fun hHeld => ?_); clear hK K; refine normZ 49 ?_; refine done_ (done_of HT_.out Zm) ?_; have p48 : 0 ≤ (x7_2 : Int) := of_decide_eq_true Zc; have q48 : (x7_2 : Int) < ((y296.length : Int) : Int) := of_decide_eq_true Zc; obtain ⟨hx48_0, hf48_0⟩ := Kd.R_celln 0 HO287.out (x7_2 : Int) p48 q48; replace p48 := eq_true p48; replace q48 := eq_true q48; obtain ⟨hy57_, hz57_⟩ := Kd.R_celln 0 HO287.out (x7_2 : Int) (of_decide_eq_true Zc) (of_decide_eq_true Zc); have HP57 := Kd.R_putg HO287.out (x7_2 : Int) x15_1
               try go_wp2_with (first | ((with_reducible refine gate_store (t := 2) (p := 53) rfl ?_); refine store_event (t := 2) (p := 53) (v := ?vo_w58) (w1 := (w55.setCell ⟨go56, (x7_2 : Int).toNat, none⟩ (.int .i64 x15_1))) ?hg ?ho ?hn ?hr ?_; (case ho => rfl); (case hg => rfl); (case hn => rfl); (case hr => first | (go_simp; done) | (go_simp; rfl)); intro w58 hw; have hg : w55.grownBy w58 (some go56) := (by rw [hw]; exact HP57.2); have hp_ : Kd.R (Kd.int .i64) 2 w58 w.heap.size (fun k_ => some k_ ≠ (.slice Ao10 x4_1.length co10 : Value).ownBlock) (.slice (some ⟨go56, 0, none⟩) y296.length co53) y299 := (by rw [hw, Ny299.out]; exact HP57.1); clear HP57; replace HO_4 := am_ (Kd.R_after (v := (.slice (some ⟨go56, 0, none⟩) y296.length co53)) (v1 := (.slice (some ⟨go56, 0, none⟩) y296.length co53)) (ok := (fun _ => True)) (Zr HO_4) hg (.inl rfl)); replace BK262 := am_ (blk_grown (g := gb262) (b0Z BK262) hg (Kd.R_ne HO287.out BK262.out (by decide))); replace HO287 := am_ (hp_); replace HB := am_ ((by rw [hw]; exact below_set (HB.out) GB56.out : Below w.heap.size w w58)); clear hg hw hp_))
               (try simp only [← hl4_1])
               go_roundg k2
               case measure => have := HK1.out; have := HK2.out; omega
               case rel => exact ⟨(x4_1), (y299), (wrap64 (x15_1 + 1)), Za, (by (try simp only [hl4_1]); exact H'), ⟨Zs⟩, ⟨by (try simp only [hl4_1]); (with_reducible repeat (first | apply Kd.R_alloc | apply Kd.R_drewN | apply Kd.R_drew)); exact Kd.R_mono HO_4.out (fun _ hk => hk.2)⟩, ⟨(Zag HO287)⟩, ⟨(Zah BK262)⟩, ⟨(Zh GE262)⟩⟩
              ·rw [if_neg c47] at H
               exact absurd H (by simp)
             ·rw [if_neg c46] at H
              exact absurd H (by simp)
            ·rw [if_neg c45] at H
             exact absurd H (by simp)
           ·rw [if_neg c44] at H
            exact absurd H (by simp)
          ·rw [if_neg c43] at H
           exact absurd H (by simp)
         ·rw [if_neg c41] at H
          exact absurd H (by simp)
     ·rw [if_neg c11] at H
      have c11b0 := decide_eq_false c11; clear c11; simp only [Option.some.injEq, Prod.mk.injEq] at H; obtain ⟨rfl, rfl⟩ := H
      go_wp2
      go_ret2
      exact ⟨_, Zl, (Zz HO_5), (Zh GE262)⟩
  ·have H := HS_.out
   clear HS_; replace c3 := Bool.eq_false_iff.mpr c3; subst c3; rw [if_neg (show ¬ (false = true) by decide)] at H; simp only [Option.some.injEq, Prod.mk.injEq] at H; obtain ⟨rfl, rfl⟩ := H
   go_wp2_with (first | fail)
   go_ret2
   exact ⟨_, Zl, Zab, (Zh GE262)⟩
def laws_big.f (l0 : List Int) : Option (Bool) := some (decide ((l0.length : Int) > 4096))
set_option maxHeartbeats 8000000 in
set_option maxRecDepth 100000 in
theorem laws_big.calls (A0 : Option Addr) (c0 : Nat) (l0 : List Int) (r : Bool) (w : World) (hr0 : Kd.C (Kd.int .u8) w A0 l0.length l0) (hc0 : l0.length ≤ c0) (h : laws_big.f l0 = some r) :
  Calls Try.prog 21 #[.slice A0 l0.length c0] w fun e w' => e = .returned (.bool r) ∧ Drawn0 w w' := by
 have HR0 := am_ hr0; have HC0 := am_ hc0; clear hr0 hc0; have H : (some (decide ((l0.length : Int) > 4096))) = some r := h; clear h; obtain rfl := Option.some.inj H
 go_enter Try.func21, Try.ntmps21
 go_wp2
 go_ret
 exact ⟨Za, Zb⟩
def spec_FireTimes.f (k : Nat) (l0_0 : List (S104)) (l0_1 : List (S61)) (l0_2 : List (S58)) : Option (List Int × Int) := (spec_IsShow.f k l0_0 l0_1 l0_2).bind fun t301 => (if t301 = true then ((spec_l08Times.f k l0_0 l0_1 l0_2).bind fun t302 => (some (t302, 0))) else (some (([] : List Int), 1)))
set_option maxHeartbeats 8000000 in
set_option maxRecDepth 100000 in
theorem spec_FireTimes.calls (k : Nat) (A0_0 : Option Addr) (c0_0 : Nat) (l0_0 : List (S104)) (A0_1 : Option Addr) (c0_1 : Nat) (l0_1 : List (S61)) (A0_2 : Option Addr) (c0_2 : Nat) (l0_2 : List (S58)) (r1 : List Int) (r2 : Int) (w : World) (hr0_0 : Kd.C k104 w A0_0 l0_0.length l0_0) (hc0_0 : l0_0.length ≤ c0_0) (hr0_1 : Kd.C k61 w A0_1 l0_1.length l0_1) (hc0_1 : l0_1.length ≤ c0_1) (hr0_2 : Kd.C k58 w A0_2 l0_2.length l0_2) (hc0_2 : l0_2.length ≤ c0_2) (h : spec_FireTimes.f k l0_0 l0_1 l0_2 = some (r1, r2)) :
  Calls Try.prog 26 #[.agg #[.slice A0_0 l0_0.length c0_0, .slice A0_1 l0_1.length c0_1, .slice A0_2 l0_2.length c0_2]] w fun e w' => ∃ v0_ : Value, e = .returned (.tuple #[v0_, .int .i64 r2]) ∧ Kd.R (Kd.int .i64) 2 w' w.heap.size (fun _ => True) v0_ r1 ∧ Below w.heap.size w w' := by
 have hu35 := Try.underlying35; have HR0_0 := am_ hr0_0; have HC0_0 := am_ hc0_0; clear hr0_0 hc0_0; have HR0_1 := am_ hr0_1; have HC0_1 := am_ hc0_1; clear hr0_1 hc0_1; have HR0_2 := am_ hr0_2; have HC0_2 := am_ hc0_2; clear hr0_2 hc0_2; have HB := am_ (Below.refl w.heap.size w); have H : ((spec_IsShow.f k l0_0 l0_1 l0_2).bind fun t301 => (if t301 = true then ((spec_l08Times.f k l0_0 l0_1 l0_2).bind fun t302 => (some (t302, 0))) else (some (([] : List Int), 1)))) = some (r1, r2) := h; clear h; replace H := Option.bind_eq_some_iff.mp H; obtain ⟨t301, A20, H⟩ := H; have A2 := am_ A20; clear A20; have HS_ := am_ H; clear H
 go_enter Try.func26, Try.ntmps26
 go_wp2_with (first | ((with_reducible refine gate_dst (N := 1) rfl ?_); refine boxZ 1 #[.slice A0_0 l0_0.length c0_0, .slice A0_1 l0_1.length c0_1, .slice A0_2 l0_2.length c0_2] 35 ?_; intro gb300 hg w5 hbox hb; replace BK300 := am_ (hbox); replace GW300 := am_ ((Ze : w.heap.size ≤ gb300)); replace GE300 := GW300; replace HB := (bsZ Zf hb); clear hb hbox hg; refine ci3 BK300 ?_; intros) | ((with_reducible refine gate_callee (f := 43) rfl ?_); refine gZ 5 Try.func43 #[.agg #[.slice A0_0 l0_0.length c0_0, .slice A0_1 l0_1.length c0_1, .slice A0_2 l0_2.length c0_2]] ?_; (with_reducible refine (spec_IsShow.calls k _ _ l0_0 _ _ l0_1 _ _ l0_2 t301 _ ?_ ?_ ?_ ?_ ?_ ?_ A2.out).mono ?_); exact (Zi HR0_0); exact HC0_0.out; exact (Zi HR0_1); exact HC0_1.out; exact (Zi HR0_2); exact HC0_2.out; rintro e w7 ⟨rfl, hb⟩; refine ⟨_, rfl, ?_⟩; replace BK300 := (bkZ BK300 hb); replace HB := (bsZ (Zh GE300) hb); clear hb; refine ?roundEnd))
 case roundEnd =>
  by_cases c3 : t301 = true
  ·have H := HS_.out
   clear HS_; subst c3; rw [if_pos rfl] at H; replace H := Option.bind_eq_some_iff.mp H; obtain ⟨t302, A40, H⟩ := H; have A4 := am_ A40; clear A40; simp only [Option.some.injEq, Prod.mk.injEq] at H; obtain ⟨rfl, rfl⟩ := H; refine ci3 BK300 ?_; intros
   go_wp2_with (first | ((with_reducible refine gate_callee (f := 45) rfl ?_); refine gZ 8 Try.func45 #[.agg #[.slice A0_0 l0_0.length c0_0, .slice A0_1 l0_1.length c0_1, .slice A0_2 l0_2.length c0_2]] ?_; (with_reducible refine (spec_l08Times.calls k _ _ l0_0 _ _ l0_1 _ _ l0_2 t302 _ ?_ ?_ ?_ ?_ ?_ ?_ A4.out).mono ?_); exact (Zi HR0_0); exact HC0_0.out; exact (Zi HR0_1); exact HC0_1.out; exact (Zi HR0_2); exact HC0_2.out; rintro e w9 ⟨v303, rfl, ho0, hb⟩; refine ⟨_, rfl, ?_⟩; replace HO304 := am_ (Kd.R_lower ho0 (below_size (Zh GE300))); replace BK300 := (bkZ BK300 hb); replace HB := (bsZ (Zh GE300) hb); clear hb ho0))
   go_ret2
   exact ⟨_, Zl, (Zr HO304), (Zh GE300)⟩
  ·have H := HS_.out
   clear HS_; replace c3 := Bool.eq_false_iff.mpr c3; subst c3; rw [if_neg (show ¬ (false = true) by decide)] at H; simp only [Option.some.injEq, Prod.mk.injEq] at H; obtain ⟨rfl, rfl⟩ := H
   go_wp2_with (first | fail)
   go_ret2
   exact ⟨_, Zl, Zab, (Zh GE300)⟩
def IsS116 (w0 W : World) (g : Nat) (f0 : List Int) (f1 : Int) (f2 : Int) : Prop := ∃ A0 c0, W.heap[g]? = some (.cells #[.slice A0 f0.length c0, .int .i64 f1, .int .i64 f2] 116 (0, 0)) ∧ w0.heap.size ≤ g ∧ Kd.C (Kd.int .u8) w0 A0 f0.length f0
theorem IsS116.grown {w0 W : World} {g : Nat} {f0 : List Int} {f1 : Int} {f2 : Int} {W1 : World} {row : Option Nat} (h : IsS116 w0 W g f0 f1 f2) (hw : W.grownBy W1 row) (hne : some g ≠ row) : IsS116 w0 W1 g f0 f1 f2 := by
 obtain ⟨A0, c0, hb, hg, hr0⟩ := h; exact ⟨A0, c0, blk_grown hb hw hne, hg, hr0⟩
theorem IsS116.kept {w0 W : World} {g : Nat} {f0 : List Int} {f1 : Int} {f2 : Int} {W1 : World} {S : Nat → Prop} (h : IsS116 w0 W g f0 f1 f2) (hk : Kept W W1 S) (hne : ¬ S g) : IsS116 w0 W1 g f0 f1 f2 := by
 obtain ⟨A0, c0, hb, hg, hr0⟩ := h; exact ⟨A0, c0, blk_kept hb hk hne, hg, hr0⟩
theorem IsS116.below {w0 W : World} {g : Nat} {f0 : List Int} {f1 : Int} {f2 : Int} {W1 : World} (h : IsS116 w0 W g f0 f1 f2) (hw : Below W.heap.size W W1) : IsS116 w0 W1 g f0 f1 f2 := h.grown (grown_of_below hw none) (by simp)
theorem IsS116.alloc {w0 W : World} {g : Nat} {f0 : List Int} {f1 : Int} {f2 : Int} (h : IsS116 w0 W g f0 f1 f2) (o : Obj) : IsS116 w0 (W.alloc o) g f0 f1 f2 := h.below (below_alloc (Below.refl _ _) o)
theorem IsS116.drewN {w0 W : World} {g : Nat} {f0 : List Int} {f1 : Int} {f2 : Int} (h : IsS116 w0 W g f0 f1 f2) (m : Nat) : IsS116 w0 (W.drewN m) g f0 f1 f2 := h
theorem IsS116.drew {w0 W : World} {g : Nat} {f0 : List Int} {f1 : Int} {f2 : Int} (h : IsS116 w0 W g f0 f1 f2) : IsS116 w0 W.drew g f0 f1 f2 := h
theorem IsS116.at_ {w0 W : World} {g : Nat} {f0 : List Int} {f1 : Int} {f2 : Int} {w' : World} {m : Nat} (hq : W.drewN m = w') (h : IsS116 w0 W g f0 f1 f2) : IsS116 w0 w' g f0 f1 f2 := by subst hq; exact IsS116.drewN h m
theorem IsS116.apart {w0 W : World} {g : Nat} {f0 : List Int} {f1 : Int} {f2 : Int} {α : Type} {d : Kd α} {e : Nat} {base : Nat} {ok : Nat → Prop} {v : Value} {xs : List α} (h : IsS116 w0 W g f0 f1 f2) (ho : d.R e W base ok v xs) (ht : ∀ q, q ∈ e :: d.E → q ≠ 116) : d.R e W base (fun k => ok k ∧ k ≠ g) v xs := by
 obtain ⟨A0, c0, hb, hg, hr0⟩ := h; exact Kd.R_types ho hb ht
theorem IsS116.own_ne {w0 W : World} {g : Nat} {f0 : List Int} {f1 : Int} {f2 : Int} {α : Type} {d : Kd α} {e : Nat} {base : Nat} {ok : Nat → Prop} {v : Value} {xs : List α} (h : IsS116 w0 W g f0 f1 f2) (ho : d.R e W base ok v xs) (ht : e ≠ 116) : some g ≠ v.ownBlock := by
 obtain ⟨A0, c0, hb, hg, hr0⟩ := h; exact Kd.R_ne ho hb ht
theorem IsS116.lt {w0 W : World} {g : Nat} {f0 : List Int} {f1 : Int} {f2 : Int} (h : IsS116 w0 W g f0 f1 f2) : g < W.heap.size := by
 obtain ⟨A0, c0, hb, hg, hr0⟩ := h; exact blk_lt hb
theorem IsS116.ge {w0 W : World} {g : Nat} {f0 : List Int} {f1 : Int} {f2 : Int} (h : IsS116 w0 W g f0 f1 f2) : w0.heap.size ≤ g := by
 obtain ⟨A0, c0, hb, hg, hr0⟩ := h; exact hg
theorem IsS116.ne_blk {w0 W : World} {g : Nat} {f0 : List Int} {f1 : Int} {f2 : Int} {a : Nat} {cs : Array Value} {t : TypeId} {fr : Nat × Nat} (h : IsS116 w0 W g f0 f1 f2) (hb2 : W.heap[a]? = some (.cells cs t fr)) (ht : t ≠ 116) : g ≠ a := by
 obtain ⟨A0, c0, hb, hg, hr0⟩ := h; rintro rfl; rw [hb] at hb2; injection hb2 with hb2; injection hb2 with _ ht2; exact ht ht2.symm
theorem IsS116.far {w0 W : World} {g : Nat} {f0 : List Int} {f1 : Int} {f2 : Int} {p : Addr} (h : IsS116 w0 W g f0 f1 f2) (hne : g ≠ p.block) (u : Value) : IsS116 w0 (W.setCell p u) g f0 f1 f2 := by
 obtain ⟨A0, c0, hb, hg, hr0⟩ := h; exact ⟨A0, c0, blk_far hb hne u, hg, hr0⟩
theorem cellS116_0 {W : World} {g : Nat} {A0 : Option Addr} {c0 : Nat} {f0 : List Int} {f1 : Int} {f2 : Int} (h : W.heap[g]? = some (.cells #[.slice A0 f0.length c0, .int .i64 f1, .int .i64 f2] 116 (0, 0))) : W.cell? ⟨g, 0, none⟩ = some (.slice A0 f0.length c0) := (blk_cell h 0).trans rfl
theorem cellS116_1 {W : World} {g : Nat} {A0 : Option Addr} {c0 : Nat} {f0 : List Int} {f1 : Int} {f2 : Int} (h : W.heap[g]? = some (.cells #[.slice A0 f0.length c0, .int .i64 f1, .int .i64 f2] 116 (0, 0))) : W.cell? ⟨g, 1, none⟩ = some (.int .i64 f1) := (blk_cell h 1).trans rfl
theorem IsS116.set_1 {w0 W : World} {g : Nat} {f0 : List Int} {f1 : Int} {f2 : Int} (h : IsS116 w0 W g f0 f1 f2) (x : Int) : IsS116 w0 (W.setCell ⟨g, 1, none⟩ (.int .i64 x)) g f0 x f2 := by
 obtain ⟨A0, c0, hb, hg, hr0⟩ := h; exact ⟨A0, c0, by simpa using blk_set hb 1 (.int .i64 x), hg, hr0⟩
theorem cellS116_2 {W : World} {g : Nat} {A0 : Option Addr} {c0 : Nat} {f0 : List Int} {f1 : Int} {f2 : Int} (h : W.heap[g]? = some (.cells #[.slice A0 f0.length c0, .int .i64 f1, .int .i64 f2] 116 (0, 0))) : W.cell? ⟨g, 2, none⟩ = some (.int .i64 f2) := (blk_cell h 2).trans rfl
theorem IsS116.set_2 {w0 W : World} {g : Nat} {f0 : List Int} {f1 : Int} {f2 : Int} (h : IsS116 w0 W g f0 f1 f2) (x : Int) : IsS116 w0 (W.setCell ⟨g, 2, none⟩ (.int .i64 x)) g f0 f1 x := by
 obtain ⟨A0, c0, hb, hg, hr0⟩ := h; exact ⟨A0, c0, by simpa using blk_set hb 2 (.int .i64 x), hg, hr0⟩
def spec_l01From.l0 : Nat → List Int → Int → List Int → Int → Int → Option (List Int × Int × Int)
 | 0, _, _, _, _, _ => none
 | k + 1, x0, x4, x306000, x306001, x306002 => if x4 < (x0.length : Int) then (if x4 < 64 then (if 0 ≤ x4 then (spec_l01From.l0 k x0 (wrap64 (x4 + 1)) x306000 x306001 (Int.tmod (wrap64 ((wrap64 (x306002 * 83)) + (wrap64 (rd x0 x4)))) 2147483647)) else (none)) else (some (x306000, x306001, x306002))) else (some (x306000, x306001, x306002))
def spec_l01From.f (k : Nat) (l0 : List Int) : Option (List Int × Int × Int) := spec_l01From.l0 k l0 0 l0 0 61043
def spec_l01From.T5 : Bool × List (List Nat × List Nat) := (true, [([], []), ([], []), ([1], [1]), ([2], [2]), ([3], [3]), ([4], [4]), ([], []), ([], []), ([6, 7], [6, 7]), ([8], [8]), ([9], [9]), ([5, 10], [5, 10]), ([11], [11]), ([0, 0, 1, 2, 3, 4, 5, 6, 7, 8, 9, 10, 11, 12], [0]), ([13, 0, 1, 2, 3, 4, 5, 6, 7, 8, 9, 10, 11, 12], [13]), ([14, 12, 0, 1, 2, 3, 4, 5, 6, 7, 8, 9, 10, 11, 12], [12, 14])])
def spec_l01From.B5 : List Nat := [0, 0, 2, 6, 14, 30, 0, 0, 192, 448, 960, 2046, 4094, 8191, 16383, 32767]
theorem spec_l01From.tab5 : rtab .any (opsOf Try.f60 5) = spec_l01From.T5 := by kernel_rfl
theorem spec_l01From.bits5 : waitsOk spec_l01From.T5.2 spec_l01From.B5 = true := by kernel_rfl
set_option maxHeartbeats 8000000 in
set_option maxRecDepth 100000 in
theorem spec_l01From.calls (k : Nat) (A0 : Option Addr) (c0 : Nat) (l0 : List Int) (r1 : List Int) (r2 : Int) (r3 : Int) (w0 w : World) (hB : Below w0.heap.size w0 w) (hr0 : Kd.C (Kd.int .u8) w0 A0 l0.length l0) (hc0 : l0.length ≤ c0) (h : spec_l01From.f k l0 = some (r1, r2, r3)) :
  Calls Try.prog 60 #[.slice A0 l0.length c0] w fun e w' => ∃ g_ : Nat, e = .returned (.pointer (some ⟨g_, 0, none⟩)) ∧ IsS116 w0 w' g_ r1 r2 r3 ∧ Below w0.heap.size w0 w' ∧ Below w.heap.size w w' := by
 have hu116 := Try.underlying116; have HR0 := am_ hr0; have HC0 := am_ hc0; clear hr0 hc0; have HBW := am_ (Below.refl w.heap.size w); have HW0 := am_ hB.size; have HB := am_ hB; clear hB; have H : (spec_l01From.l0 k l0 0 l0 0 61043) = some (r1, r2, r3) := h; clear h; have H' := am_ H; clear H
 go_enter Try.func60, Try.ntmps60
 go_wp2_with (first | ((with_reducible refine gate_dst (N := 7) rfl ?_); refine boxZ 7 #[.slice A0 l0.length c0, .int .i64 0, .int .i64 61043] 116 ?_; intro gb305 hg w2 hbox hb; replace HB := (bsZ Zf hb); replace BK305 := am_ (hbox); replace GW305 := am_ ((by rw [hg]; exact (below_size (by repeat (first | (with_reducible first | exact HBW.out | apply below_alloc | apply pw_below_drewN | apply below_drew1) | exact HBW.out))) : w.heap.size ≤ gb305)); replace GE305 := am_ ((Nat.le_trans HW0.out (by rw [hg]; exact (below_size (by repeat (first | (with_reducible first | exact HBW.out | apply below_alloc | apply pw_below_drewN | apply below_drew1) | exact HBW.out))) : w.heap.size ≤ gb305) : w0.heap.size ≤ gb305)); replace HBW := (bsZ HBW.out hb); clear hb hbox hg))
 go_loopg [4] k (fun kq v4 w' => ∃ (x4_1 : Int) (x306002_1 : Int), v4 = .int .i64 x4_1 ∧ Aside0 (spec_l01From.l0 kq l0 x4_1 l0 0 x306002_1 = some (r1, r2, r3)) ∧ Aside0 (kq ≤ k) ∧ Aside0 (w'.heap[gb305]? = some (.cells #[(.slice A0 l0.length c0), .int .i64 0, .int .i64 x306002_1] 116 (0, 0))) ∧ Aside0 (Below w0.heap.size w0 w') ∧ Aside0 (Below w.heap.size w w'))
 case atStart => exact ⟨(0), (61043), Za, H', ⟨Nat.le_refl _⟩, ⟨(Zq BK305)⟩, ⟨(Zh GE305)⟩, ⟨(Zaj GW305)⟩⟩
 case round =>
  clear H'
  try clear p2
  obtain ⟨x4_1, x306002_1, rfl, HA, HK1, BK305, HB, HBW⟩ := hrel
  cases gk with
  | zero => exact absurd HA.out (by simp [spec_l01From.l0])
  | succ k1 =>
   have H := HA.out; clear HA; simp only [spec_l01From.l0] at H
   by_cases c3 : x4_1 < (l0.length : Int)
   ·rw [if_pos c3] at H
    have c3b0 := decide_eq_true c3; clear c3
    by_cases c4 : x4_1 < 64
    ·rw [if_pos c4] at H
     have c4b0 := decide_eq_true c4; clear c4
     by_cases c5 : 0 ≤ x4_1
     ·rw [if_pos c5] at H
      have c5b0 := decide_eq_true c5; clear c5; have H' := am_ H; clear H
      try go_wp2
      replace BK305 := am_ (blk_drew BK305.out); replace HB := am_ (below_drew1 HB.out); replace HBW := am_ (below_drew1 HBW.out); have p306 : 0 ≤ (x4_1 : Int) := of_decide_eq_true Zc; have q306 : x4_1 < (l0.length : Int) := of_decide_eq_true Zc; obtain ⟨ad306, e306, hx306_0⟩ := Kd.at_int HR0.out x4_1 p306 q306; have hw306_0 := hx306_0
      cases e306
      replace hx306_0 := pw_cell_below HB.out hx306_0; replace p306 := eq_true p306; replace q306 := eq_true q306; refine start_ (n := 16) (S := fun w' => w'.cell? ⟨gb305, 0, none⟩ = some (.slice (some ad306) l0.length c0) ∧ w'.cell? ⟨gb305, 1, none⟩ = some (.int .i64 0) ∧ w'.cell? ⟨gb305, 2, none⟩ = some (.int .i64 x306002_1) ∧ w'.cell? (ad306.add (x4_1).toNat) = some (.int .u8 (rd l0 x4_1))) (ds := [15]) (bT 16 0) Zm rfl rfl ⟨(blk_cell BK305.out 0).trans rfl, (blk_cell BK305.out 1).trans rfl, (blk_cell BK305.out 2).trans rfl, ((HB.out.cell (World.block_lt_of_cell? w0 _ hw306_0)).trans hw306_0)⟩ (fun hHeld => ?_); refine with_tabW spec_l01From.tab5 spec_l01From.bits5 (fun HT_ HW_ => ?_); generalize wr.drew = w6 at BK305 HB HBW hx306_0 hHeld ⊢; refine pureZ HT_ 0 (some 18) (bT 16 1) ?_; refine pureZ HT_ 1 (some 19) (bT 16 2) ?_; refine pureZ HT_ 2 (some 20) (bT 16 3) ?_; refine pureZ HT_ 3 (some 21) (bT 16 4) ?_; refine pureZ HT_ 6 (some 24) (bB 16 79) ?_; refine pureZ HT_ 7 (some 25) (bB 16 207) ?_; refine pureZ HT_ 8 (some 26) (bB 16 463) ?_; refine takeZ4 HT_ HW_ 4 (some 22) (bB 16 479) hHeld ?_; refine pureZ HT_ 5 (some 23) (bT 16 9) ?_; refine takeZ4 HT_ HW_ 9 (some 27) (bT 16 10) hHeld ?_; refine pureZ HT_ 10 (some 28) (bT 16 11) ?_; refine pureZ HT_ 11 (some 29) (bT 16 12) ?_; refine pureZ HT_ 12 (some 30) (bT 16 13) ?_; refine pureZ HT_ 13 (some 31) (bT 16 14) ?_; refine pureZ HT_ 14 (some 32) (bT 16 15) ?_; refine last_ (i := 15) (N := none) (bT 16 16) rfl rfl (one_of HT_.out Zm) (by decide) (fun K hK => ?_); have hs7 : w6.cell? ⟨gb305, 2, none⟩ = some (.int .i64 x306002_1) := (blk_cell BK305.out 2).trans rfl; have hfs7 := blk_frozen BK305.out 2; refine skip_ (w1 := ?_) (by rfl) rfl ?_ ?_; rotate_left
      ·go_simp
       rfl
      refine hK.out _ _ ?_; clear hK K; refine done_ (done_of HT_.out Zm) ?_
      try go_wp2
      go_roundg k1
      case measure => have := HK1.out; omega
      case rel => exact ⟨(wrap64 (x4_1 + 1)), (Int.tmod (wrap64 ((wrap64 (x306002_1 * 83)) + (wrap64 (rd l0 x4_1)))) 2147483647), Za, H', ⟨Zd⟩, ⟨by (with_reducible repeat (first | refine blk_drewN ?_ _ | refine blk_drew ?_ | refine blk_alloc ?_ _)); refine blk_put (cs := #[.slice (some ad306) l0.length c0, .int .i64 0, .int .i64 x306002_1]) ?_ 2 _ rfl; (with_reducible repeat (first | refine blk_drewN ?_ _ | refine blk_drew ?_ | refine blk_alloc ?_ _)); exact BK305.out⟩, ⟨(Zh GE305)⟩, ⟨(Zaj GW305)⟩⟩
     ·rw [if_neg c5] at H
      exact absurd H (by simp)
    ·rw [if_neg c4] at H
     have c4b0 := decide_eq_false c4; clear c4; simp only [Option.some.injEq, Prod.mk.injEq] at H; obtain ⟨rfl, rfl, rfl⟩ := H
     go_wp2
     go_ret
     exact ⟨_, rfl, (show IsS116 w0 _ gb305 l0 0 x306002_1 from ⟨_, _, (Zq BK305), GE305.out, HR0.out⟩), (Zh GE305), (Zaj GW305)⟩
   ·rw [if_neg c3] at H
    have c3b0 := decide_eq_false c3; clear c3; simp only [Option.some.injEq, Prod.mk.injEq] at H; obtain ⟨rfl, rfl, rfl⟩ := H
    go_wp2
    go_ret
    exact ⟨_, rfl, (show IsS116 w0 _ gb305 l0 0 x306002_1 from ⟨_, _, (Zq BK305), GE305.out, HR0.out⟩), (Zh GE305), (Zaj GW305)⟩
def spec_l01Next.f (s0_0 : List Int) (s0_1 : Int) (s0_2 : Int) (a1 : Int) : Option (Int × Int × Int) := if a1 ≤ 1 then (some (0, s0_1, s0_2)) else (if s0_1 < (s0_0.length : Int) then (if 0 ≤ s0_1 then (if a1 ≤ 256 then (if (Int.tmod (wrap64 (s0_1 + 1)) 2) = 0 then (if 0 ≤ (wrap64 ((wrap64 (s0_1 + 1)) - 1)) then (if (wrap64 ((wrap64 (s0_1 + 1)) - 1)) < (s0_0.length : Int) then (if a1 = 0 then (none) else (some (Int.tmod (wrap64 (rd s0_0 (wrap64 ((wrap64 (s0_1 + 1)) - 1)))) a1, wrap64 (s0_1 + 1), Int.tmod (wrap64 ((wrap64 (s0_2 * 48271)) + 29)) 2147483647))) else (none)) else (none)) else (if a1 = 0 then (none) else (some (Int.tmod (wrap64 ((wrap64 (Int.tdiv (Int.tmod (wrap64 ((wrap64 (s0_2 * 48271)) + 29)) 2147483647) 31)) + (wrap64 (rd s0_0 s0_1)))) a1, wrap64 (s0_1 + 1), Int.tmod (wrap64 ((wrap64 (s0_2 * 48271)) + 29)) 2147483647)))) else (if a1 = 0 then (none) else (some (Int.tmod (wrap64 ((wrap64 (Int.tdiv (Int.tmod (wrap64 ((wrap64 (s0_2 * 48271)) + 29)) 2147483647) 31)) + (wrap64 (rd s0_0 s0_1)))) a1, wrap64 (s0_1 + 1), Int.tmod (wrap64 ((wrap64 (s0_2 * 48271)) + 29)) 2147483647)))) else (none)) else (if a1 = 0 then (none) else (some (Int.tmod (wrap64 (Int.tdiv (Int.tmod (wrap64 ((wrap64 (s0_2 * 48271)) + 29)) 2147483647) 31)) a1, s0_1, Int.tmod (wrap64 ((wrap64 (s0_2 * 48271)) + 29)) 2147483647))))
set_option maxHeartbeats 8000000 in
set_option maxRecDepth 100000 in
theorem spec_l01Next.calls (g : Nat) (s0_0 : List Int) (s0_1 : Int) (s0_2 : Int) (a1 : Int) (r1 : Int) (r2 : Int) (r3 : Int) (w0 w : World) (hI : IsS116 w0 w g s0_0 s0_1 s0_2) (hB : Below w0.heap.size w0 w) (h : spec_l01Next.f s0_0 s0_1 s0_2 a1 = some (r1, r2, r3)) :
  Calls Try.prog 62 #[.pointer (some ⟨g, 0, none⟩), .int .i64 a1] w fun e w' => e = .returned (.int .i64 r1) ∧ IsS116 w0 w' g s0_0 r2 r3 ∧ Below w0.heap.size w0 w' ∧ KeepBut w w' g none := by
 have HI0 := am_ hI; have HK := am_ (KeepBut.refl w g none); have HL := am_ hB.size; clear hI; have HW0 := am_ hB.size; have HB := am_ hB; clear hB; have H : (if a1 ≤ 1 then (some (0, s0_1, s0_2)) else (if s0_1 < (s0_0.length : Int) then (if 0 ≤ s0_1 then (if a1 ≤ 256 then (if (Int.tmod (wrap64 (s0_1 + 1)) 2) = 0 then (if 0 ≤ (wrap64 ((wrap64 (s0_1 + 1)) - 1)) then (if (wrap64 ((wrap64 (s0_1 + 1)) - 1)) < (s0_0.length : Int) then (if a1 = 0 then (none) else (some (Int.tmod (wrap64 (rd s0_0 (wrap64 ((wrap64 (s0_1 + 1)) - 1)))) a1, wrap64 (s0_1 + 1), Int.tmod (wrap64 ((wrap64 (s0_2 * 48271)) + 29)) 2147483647))) else (none)) else (none)) else (if a1 = 0 then (none) else (some (Int.tmod (wrap64 ((wrap64 (Int.tdiv (Int.tmod (wrap64 ((wrap64 (s0_2 * 48271)) + 29)) 2147483647) 31)) + (wrap64 (rd s0_0 s0_1)))) a1, wrap64 (s0_1 + 1), Int.tmod (wrap64 ((wrap64 (s0_2 * 48271)) + 29)) 2147483647)))) else (if a1 = 0 then (none) else (some (Int.tmod (wrap64 ((wrap64 (Int.tdiv (Int.tmod (wrap64 ((wrap64 (s0_2 * 48271)) + 29)) 2147483647) 31)) + (wrap64 (rd s0_0 s0_1)))) a1, wrap64 (s0_1 + 1), Int.tmod (wrap64 ((wrap64 (s0_2 * 48271)) + 29)) 2147483647)))) else (none)) else (if a1 = 0 then (none) else (some (Int.tmod (wrap64 (Int.tdiv (Int.tmod (wrap64 ((wrap64 (s0_2 * 48271)) + 29)) 2147483647) 31)) a1, s0_1, Int.tmod (wrap64 ((wrap64 (s0_2 * 48271)) + 29)) 2147483647))))) = some (r1, r2, r3) := h; clear h
 by_cases c3 : a1 ≤ 1
 ·rw [if_pos c3] at H
  have c3b0 := decide_eq_true c3; clear c3; simp only [Option.some.injEq, Prod.mk.injEq] at H; obtain ⟨rfl, rfl, rfl⟩ := H
  go_enter Try.func62, Try.ntmps62
  go_wp2
  repeat (go_quiet (fail); try go_wp2)
  go_ret
  exact ⟨Zl, Zak, Zal, Zam⟩
 ·rw [if_neg c3] at H
  have c3b0 := decide_eq_false c3; clear c3
  by_cases c4 : s0_1 < (s0_0.length : Int)
  ·rw [if_pos c4] at H
   have c4b0 := decide_eq_true c4; clear c4
   by_cases c5 : 0 ≤ s0_1
   ·rw [if_pos c5] at H
    have c5b0 := decide_eq_true c5; clear c5
    by_cases c6 : a1 ≤ 256
    ·rw [if_pos c6] at H
     have c6b0 := decide_eq_true c6; clear c6
     by_cases c7 : (Int.tmod (wrap64 (s0_1 + 1)) 2) = 0
     ·rw [if_pos c7] at H
      have c7b0 := beq_iff_eq.mpr c7; have c7b1 := bne_eq_false_iff_eq.mpr c7; clear c7; obtain ⟨ji8, hji8⟩ : ∃ j_ : Int, (wrap64 ((wrap64 (s0_1 + 1)) - 1)) = j_ := ⟨_, rfl⟩
      replace H : (if 0 ≤ (ji8) then (if (ji8) < (s0_0.length : Int) then (if a1 = 0 then (none) else (some (Int.tmod (wrap64 (rd s0_0 (ji8))) a1, wrap64 (s0_1 + 1), Int.tmod (wrap64 ((wrap64 (s0_2 * 48271)) + 29)) 2147483647))) else (none)) else (none)) = some (r1, r2, r3) := by first | (rw [hji8] at H; exact H) | (simp only [hji8] at H ⊢; exact H)
      have hji8w : (IntKind.i64.wrap ((wrap64 (s0_1 + 1)) - 1)) = ji8 := (i64_w _).trans hji8
      by_cases c9 : 0 ≤ (ji8)
      ·rw [if_pos c9] at H
       have c9b0 := decide_eq_true c9; clear c9
       by_cases c10 : (ji8) < (s0_0.length : Int)
       ·rw [if_pos c10] at H
        have c10b0 := decide_eq_true c10; clear c10
        by_cases c11 : a1 = 0
        ·rw [if_pos c11] at H
         exact absurd H (by simp)
        ·rw [if_neg c11] at H
         have c11b0 := beq_eq_false_iff_ne.mpr c11; have c11b1 := bne_iff_ne.mpr c11; simp only [Option.some.injEq, Prod.mk.injEq] at H; obtain ⟨rfl, rfl, rfl⟩ := H; obtain ⟨ASz12_0, cSz12_0, HGz12, hgz12, HSz12_0⟩ := HI0.out; have hcz12_0 := cellS116_0 HGz12; have hcz12_1 := cellS116_1 HGz12; have hcz12_2 := cellS116_2 HGz12; have hfz12_1 := blk_frozen HGz12 1; have hfz12_2 := blk_frozen HGz12 2; clear HGz12 hgz12; have p307 : 0 ≤ (s0_1 : Int) := of_decide_eq_true Zc; have q307 : s0_1 < (s0_0.length : Int) := of_decide_eq_true Zc; obtain ⟨ad307, e307, hx307_0⟩ := Kd.at_int HSz12_0 s0_1 p307 q307
         cases e307
         have hn307_0 : ad307.block ≠ g := Nat.ne_of_lt (Nat.lt_of_lt_of_le (Zan hx307_0) (IsS116.ge HI0.out)); replace hx307_0 := pw_cell_below HB.out hx307_0; replace hx307_0 := (cell_far (p := ⟨g, 2, none⟩) Zao (.int .i64 (Int.tmod (wrap64 ((wrap64 (s0_2 * 48271)) + 29)) 2147483647))).trans hx307_0
         (try have hy307_0 := fun (n_ : Nat) => (show (((w.drewN n_).setCell ⟨g, 2, none⟩ (.int .i64 (Int.tmod (wrap64 ((wrap64 (s0_2 * 48271)) + 29)) 2147483647)))).cell? _ = some _ from hx307_0))
         clear hn307_0; replace p307 := eq_true p307; replace q307 := eq_true q307; have p308 : 0 ≤ ((ji8) : Int) := of_decide_eq_true Zc; have q308 : (ji8) < (s0_0.length : Int) := of_decide_eq_true Zc; obtain ⟨ad308, e308, hx308_0⟩ := Kd.at_int HSz12_0 (ji8) p308 q308; obtain rfl : ad307 = ad308 := (by injection e308); have hn308_0 : ad307.block ≠ g := Nat.ne_of_lt (Nat.lt_of_lt_of_le (Zan hx308_0) (IsS116.ge HI0.out)); have hn308_1 : ad307.block ≠ g := Nat.ne_of_lt (Nat.lt_of_lt_of_le (Zan hx308_0) (IsS116.ge HI0.out)); replace hx308_0 := pw_cell_below HB.out hx308_0; replace hx308_0 := (cell_far (p := ⟨g, 2, none⟩) (by first | (rw [add_block]; exact hn308_0) | (show (Addr.add _ _).block ≠ _; rw [add_block]; exact hn308_0) | exact hn308_0) (.int .i64 (Int.tmod (wrap64 ((wrap64 (s0_2 * 48271)) + 29)) 2147483647))).trans hx308_0; replace hx308_0 := (cell_far (p := ⟨g, 1, none⟩) (by first | (rw [add_block]; exact hn308_1) | (show (Addr.add _ _).block ≠ _; rw [add_block]; exact hn308_1) | exact hn308_1) (.int .i64 (wrap64 (s0_1 + 1)))).trans hx308_0
         (try have hy308_0 := fun (n_ : Nat) => (show ((((w.drewN n_).setCell ⟨g, 2, none⟩ (.int .i64 (Int.tmod (wrap64 ((wrap64 (s0_2 * 48271)) + 29)) 2147483647))).setCell ⟨g, 1, none⟩ (.int .i64 (wrap64 (s0_1 + 1))))).cell? _ = some _ from hx308_0))
         (try have hz308_0 := fun (n_ : Nat) => (show (((w.setCell ⟨g, 2, none⟩ (.int .i64 (Int.tmod (wrap64 ((wrap64 (s0_2 * 48271)) + 29)) 2147483647))).drewN n_).setCell ⟨g, 1, none⟩ (.int .i64 (wrap64 (s0_1 + 1)))).cell? _ = some _ from hx308_0))
         clear hn308_0; clear hn308_1; replace p308 := eq_true p308; replace q308 := eq_true q308
         go_enter Try.func62, Try.ntmps62
         go_wp2
         repeat (go_quiet (fail); try go_wp2)
         go_ret
         exact ⟨by first | rfl | (simp [errW_none, errW_some] <;> rfl) | (simp only [← hji8]; first | rfl | (simp [errW_none, errW_some] <;> rfl)) | (simp [*, errW_none, errW_some] <;> rfl), Zak, Zal, Zam⟩
       ·rw [if_neg c10] at H
        exact absurd H (by simp)
      ·rw [if_neg c9] at H
       exact absurd H (by simp)
     ·rw [if_neg c7] at H
      have c7b0 := beq_eq_false_iff_ne.mpr c7; have c7b1 := bne_iff_ne.mpr c7
      by_cases c13 : a1 = 0
      ·rw [if_pos c13] at H
       exact absurd H (by simp)
      ·rw [if_neg c13] at H
       have c13b0 := beq_eq_false_iff_ne.mpr c13; have c13b1 := bne_iff_ne.mpr c13; simp only [Option.some.injEq, Prod.mk.injEq] at H; obtain ⟨rfl, rfl, rfl⟩ := H; obtain ⟨ASz14_0, cSz14_0, HGz14, hgz14, HSz14_0⟩ := HI0.out; have hcz14_0 := cellS116_0 HGz14; have hcz14_1 := cellS116_1 HGz14; have hcz14_2 := cellS116_2 HGz14; have hfz14_1 := blk_frozen HGz14 1; have hfz14_2 := blk_frozen HGz14 2; clear HGz14 hgz14; have p307 : 0 ≤ (s0_1 : Int) := of_decide_eq_true Zc; have q307 : s0_1 < (s0_0.length : Int) := of_decide_eq_true Zc; obtain ⟨ad307, e307, hx307_0⟩ := Kd.at_int HSz14_0 s0_1 p307 q307
       cases e307
       have hn307_0 : ad307.block ≠ g := Nat.ne_of_lt (Nat.lt_of_lt_of_le (Zan hx307_0) (IsS116.ge HI0.out)); replace hx307_0 := pw_cell_below HB.out hx307_0; replace hx307_0 := (cell_far (p := ⟨g, 2, none⟩) Zao (.int .i64 (Int.tmod (wrap64 ((wrap64 (s0_2 * 48271)) + 29)) 2147483647))).trans hx307_0
       (try have hy307_0 := fun (n_ : Nat) => (show (((w.drewN n_).setCell ⟨g, 2, none⟩ (.int .i64 (Int.tmod (wrap64 ((wrap64 (s0_2 * 48271)) + 29)) 2147483647)))).cell? _ = some _ from hx307_0))
       clear hn307_0; replace p307 := eq_true p307; replace q307 := eq_true q307
       go_enter Try.func62, Try.ntmps62
       go_wp2
       repeat (go_quiet (fail); try go_wp2)
       go_ret
       exact ⟨Zl, Zak, Zal, Zam⟩
    ·rw [if_neg c6] at H
     have c6b0 := decide_eq_false c6; clear c6
     by_cases c15 : a1 = 0
     ·rw [if_pos c15] at H
      exact absurd H (by simp)
     ·rw [if_neg c15] at H
      have c15b0 := beq_eq_false_iff_ne.mpr c15; have c15b1 := bne_iff_ne.mpr c15; simp only [Option.some.injEq, Prod.mk.injEq] at H; obtain ⟨rfl, rfl, rfl⟩ := H; obtain ⟨ASz16_0, cSz16_0, HGz16, hgz16, HSz16_0⟩ := HI0.out; have hcz16_0 := cellS116_0 HGz16; have hcz16_1 := cellS116_1 HGz16; have hcz16_2 := cellS116_2 HGz16; have hfz16_1 := blk_frozen HGz16 1; have hfz16_2 := blk_frozen HGz16 2; clear HGz16 hgz16; have p307 : 0 ≤ (s0_1 : Int) := of_decide_eq_true Zc; have q307 : s0_1 < (s0_0.length : Int) := of_decide_eq_true Zc; obtain ⟨ad307, e307, hx307_0⟩ := Kd.at_int HSz16_0 s0_1 p307 q307
      cases e307
      have hn307_0 : ad307.block ≠ g := Nat.ne_of_lt (Nat.lt_of_lt_of_le (Zan hx307_0) (IsS116.ge HI0.out)); replace hx307_0 := pw_cell_below HB.out hx307_0; replace hx307_0 := (cell_far (p := ⟨g, 2, none⟩) Zao (.int .i64 (Int.tmod (wrap64 ((wrap64 (s0_2 * 48271)) + 29)) 2147483647))).trans hx307_0
      (try have hy307_0 := fun (n_ : Nat) => (show (((w.drewN n_).setCell ⟨g, 2, none⟩ (.int .i64 (Int.tmod (wrap64 ((wrap64 (s0_2 * 48271)) + 29)) 2147483647)))).cell? _ = some _ from hx307_0))
      clear hn307_0; replace p307 := eq_true p307; replace q307 := eq_true q307
      go_enter Try.func62, Try.ntmps62
      go_wp2
      repeat (go_quiet (fail); try go_wp2)
      go_ret
      exact ⟨Zl, Zak, Zal, Zam⟩
   ·rw [if_neg c5] at H
    exact absurd H (by simp)
  ·rw [if_neg c4] at H
   have c4b0 := decide_eq_false c4; clear c4
   by_cases c17 : a1 = 0
   ·rw [if_pos c17] at H
    exact absurd H (by simp)
   ·rw [if_neg c17] at H
    have c17b0 := beq_eq_false_iff_ne.mpr c17; have c17b1 := bne_iff_ne.mpr c17; simp only [Option.some.injEq, Prod.mk.injEq] at H; obtain ⟨rfl, rfl, rfl⟩ := H; obtain ⟨ASz18_0, cSz18_0, HGz18, hgz18, HSz18_0⟩ := HI0.out; have hcz18_0 := cellS116_0 HGz18; have hcz18_1 := cellS116_1 HGz18; have hcz18_2 := cellS116_2 HGz18; have hfz18_1 := blk_frozen HGz18 1; have hfz18_2 := blk_frozen HGz18 2; clear HGz18 hgz18
    go_enter Try.func62, Try.ntmps62
    go_wp2
    repeat (go_quiet (fail); try go_wp2)
    go_ret
    exact ⟨Zl, Zak, Zal, Zam⟩
def spec_l07Good.l0 : Nat → List (S104) → Int → List Int → Int → Int → Option ((List (S104)) × Int × Int)
 | 0, _, _, _, _, _ => none
 | k + 1, x3, x4, x1000, x1001, x1002 => if x4 > 0 then ((spec_l01Next.f x1000 x1001 x1002 4).bind fun bt315 => ((spec_l01Next.f x1000 bt315.2.1 bt315.2.2 600).bind fun bt318 => (if x3.length < 8796093022208 then (spec_l07Good.l0 k (x3 ++ [(⟨wrap64 (2 + bt315.1), wrap64 (400 + bt318.1)⟩ : S104)]) (wrap64 (x4 - 1)) x1000 bt318.2.1 bt318.2.2) else (none)))) else (some (x3, x1001, x1002))
def spec_l07Good.f (k : Nat) (s0_0 : List Int) (s0_1 : Int) (s0_2 : Int) : Option ((List (S104)) × Int × Int) := (spec_l01Next.f s0_0 s0_1 s0_2 6).bind fun bt312 => (spec_l07Good.l0 k (([] : List (S104))) (wrap64 (1 + bt312.1)) s0_0 bt312.2.1 bt312.2.2)
set_option maxHeartbeats 8000000 in
set_option maxRecDepth 100000 in
theorem spec_l07Good.calls (k : Nat) (g : Nat) (s0_0 : List Int) (s0_1 : Int) (s0_2 : Int) (r1 : List (S104)) (r2 : Int) (r3 : Int) (w0 w : World) (hI : IsS116 w0 w g s0_0 s0_1 s0_2) (hB : Below w0.heap.size w0 w) (h : spec_l07Good.f k s0_0 s0_1 s0_2 = some (r1, r2, r3)) :
  Calls Try.prog 108 #[.pointer (some ⟨g, 0, none⟩)] w fun e w' => ∃ v0_ : Value, e = .returned (v0_) ∧ Kd.R k104 104 w' w.heap.size (fun _ => True) v0_ r1 ∧ IsS116 w0 w' g s0_0 r2 r3 ∧ Below w0.heap.size w0 w' ∧ KeepBut w w' g none := by
 have hu104 := Try.underlying104; have HI0 := am_ hI; have HK := am_ (KeepBut.refl w g none); have HL := am_ hB.size; clear hI; have HW0 := am_ hB.size; have HB := am_ hB; clear hB; have H : ((spec_l01Next.f s0_0 s0_1 s0_2 6).bind fun bt312 => (spec_l07Good.l0 k (([] : List (S104))) (wrap64 (1 + bt312.1)) s0_0 bt312.2.1 bt312.2.2)) = some (r1, r2, r3) := h; clear h; obtain ⟨y309, hy309⟩ : ∃ y_ : List (S104), y_ = (([] : List (S104))) := ⟨_, rfl⟩
 replace H : ((spec_l01Next.f s0_0 s0_1 s0_2 6).bind fun bt312 => (spec_l07Good.l0 k y309 (wrap64 (1 + bt312.1)) s0_0 bt312.2.1 bt312.2.2)) = some (r1, r2, r3) := by (try rw [hy309]); first | with_reducible exact H | with_reducible exact (Option.bind_some _ _).symm.trans H | exact H
 have Ny309 := am_ hy309; clear hy309; replace H := Option.bind_eq_some_iff.mp H; obtain ⟨⟨t312, t313, t314⟩, A20, H⟩ := H
 dsimp only at H
 have A2 := am_ A20; clear A20; have H' := am_ H; clear H
 go_enter Try.func108, Try.ntmps108
 go_wp2_with (first | ((with_reducible refine gate_dst (N := 5) rfl ?_); refine Kd.R_lit k104 _ 104 ?hg (N := 5) ?hd (xs := ([] : List (S104))) (inner := []) (ok := fun _ => True) (okp := fun _ => True) ?hr ?hp (fun _ hk => hk) trivial (Below.refl _ _) (Nat.le_refl _) (by simp) ?_; (case hd => rfl); (case hg => rfl); (case hr => first | (go_simp; done) | (go_simp; rfl)); (case hp => exact (Reps.none _ _)); intro v310 w3 ho4 hb hg_ hnew_; clear hg_ hnew_; (first | rw [← Ny309.out] at ho4 | (simp only [Int.reduceToNat] at ho4; rw [← Ny309.out] at ho4)); replace HO311 := am_ (Kd.R_lower ho4 (keep_size (w := w) (g := g) (row := none) Zam)); replace HK := am_ (KeepBut.trans Zam (KeepBut.of_below hb g none) (.inl rfl)); replace HB := (bsZ Zal hb); replace HI0 := am_ (IsS116.below Zak hb); clear hb ho4) | ((with_reducible refine gate_callee (f := 62) rfl ?_); refine gZ 7 Try.func62 #[.pointer (some ⟨g, 0, none⟩), .int .i64 6] ?_; (with_reducible refine (spec_l01Next.calls g s0_0 s0_1 s0_2 6 t312 t313 t314 w0 _ ?_ ?_ A2.out).mono ?_); exact Zak; exact Zal; rintro e w5 ⟨rfl, hi, hb, hk⟩; refine ⟨_, rfl, ?_⟩; replace HO311 := (hoZ (IsS116.apart (show IsS116 w0 _ g s0_0 s0_1 s0_2 from Zak) (Zr HO311) (by decide)) hk); replace HK := am_ (KeepBut.trans Zam hk (.inl rfl)); replace HB := am_ (hb); replace HI0 := am_ (hi); clear hb hk hi))
 go_loopg [3, 4] k (fun kq v3 v4 w' => ∃ (x3_1 : List (S104)) (x4_1 : Int) (x1001_1 : Int) (x1002_1 : Int), v4 = .int .i64 x4_1 ∧ Aside0 (spec_l07Good.l0 kq x3_1 x4_1 s0_0 x1001_1 x1002_1 = some (r1, r2, r3)) ∧ Aside0 (kq ≤ k) ∧ Aside0 (Kd.R k104 104 w' w.heap.size (fun _ => True) v3 x3_1) ∧ Aside0 (IsS116 w0 w' g s0_0 x1001_1 x1002_1) ∧ Aside0 (KeepBut w w' g none) ∧ Aside0 (Below w0.heap.size w0 w'))
 case atStart => exact ⟨(y309), (wrap64 (1 + t312)), (t313), (t314), Za, H', ⟨Nat.le_refl _⟩, ⟨(Zr HO311)⟩, ⟨Zak⟩, ⟨Zam⟩, ⟨Zal⟩⟩
 case round =>
  clear H'
  try clear c1
  try clear p2
  obtain ⟨x3_1, x4_1, x1001_1, x1002_1, rfl, HA, HK1, HO_3, HI0, HK, HB⟩ := hrel
  cases gk with
  | zero => exact absurd HA.out (by simp [spec_l07Good.l0])
  | succ k1 =>
   have H := HA.out; clear HA; simp only [spec_l07Good.l0] at H
   by_cases c6 : x4_1 > 0
   ·rw [if_pos c6] at H
    have c6b0 : decide (0 < x4_1) = true := decide_eq_true c6; clear c6; replace H := Option.bind_eq_some_iff.mp H; obtain ⟨⟨t315, t316, t317⟩, A70, H⟩ := H
    dsimp only at H
    have A7 := am_ A70; clear A70; replace H := Option.bind_eq_some_iff.mp H; obtain ⟨⟨t318, t319, t320⟩, A80, H⟩ := H
    dsimp only at H
    have A8 := am_ A80; clear A80
    by_cases c9 : x3_1.length < 8796093022208
    ·rw [if_pos c9] at H
     have LMc9 := am_ c9; clear c9; obtain ⟨y321, hy321⟩ : ∃ y_ : List (S104), y_ = (x3_1 ++ [(⟨wrap64 (2 + t315), wrap64 (400 + t318)⟩ : S104)]) := ⟨_, rfl⟩
     (first | (rw [← hy321] at H; with_reducible replace H := bindZ H) | rw [← hy321] at H | skip)
     have Ny321 := am_ hy321; clear hy321; have H' := am_ H; clear H
     go_wp2_with (first | ((with_reducible refine gate_callee (f := 62) rfl ?_); refine gZ 15 Try.func62 #[.pointer (some ⟨g, 0, none⟩), .int .i64 4] ?_; (with_reducible refine (spec_l01Next.calls g s0_0 x1001_1 x1002_1 4 t315 t316 t317 w0 _ ?_ ?_ A7.out).mono ?_); exact Zak; exact Zal; rintro e w10 ⟨rfl, hi, hb, hk⟩; refine ⟨_, rfl, ?_⟩; replace HO_3 := (hoZ (IsS116.apart (show IsS116 w0 _ g s0_0 x1001_1 x1002_1 from Zak) (Zr HO_3) (by decide)) hk); replace HK := am_ (KeepBut.trans Zam hk (.inl rfl)); replace HB := am_ (hb); replace HI0 := am_ (hi); clear hb hk hi) | ((with_reducible refine gate_callee (f := 62) rfl ?_); refine gZ 18 Try.func62 #[.pointer (some ⟨g, 0, none⟩), .int .i64 600] ?_; (with_reducible refine (spec_l01Next.calls g s0_0 t316 t317 600 t318 t319 t320 w0 _ ?_ ?_ A8.out).mono ?_); exact Zak; exact Zal; rintro e w11 ⟨rfl, hi, hb, hk⟩; refine ⟨_, rfl, ?_⟩; replace HO_3 := (hoZ (IsS116.apart (show IsS116 w0 _ g s0_0 t316 t317 from Zak) (Zr HO_3) (by decide)) hk); replace HK := am_ (KeepBut.trans Zam hk (.inl rfl)); replace HB := am_ (hb); replace HI0 := am_ (hi); clear hb hk hi) | ((with_reducible refine gate_builtin (b := .append) (xs := #[.tmp 13, .tmp 21]) rfl ?_); at_builtin; refine Kd.R_append k104 w.heap.size rfl (.tmp 13) (.tmp 21) 31 104 (.agg #[(.int .i64 0), (.int .i64 0)]) 16 rfl Try.underlying31 info104 rfl (by decide) (by omega) u3 x3_1 (⟨wrap64 (2 + t315), wrap64 (400 + t318)⟩ : S104) [.int .i64 (wrap64 (2 + t315)), .int .i64 (wrap64 (400 + t318))] (fun _ => True) (fun _ => False) rfl rfl ?aP (fun _ hk => hk.elim) ?aF ?aO (Below.refl _ _) ?aS ?aL ?_; (case aP => exact k104_mkM _ _ _ (⟨wrap64 (2 + t315), wrap64 (400 + t318)⟩ : S104)); (case aF => exact (fun _ _ => trivial)); (case aO => exact (Zr HO_3)); (case aS => exact (keep_size (w := w) (g := g) (row := none) Zam)); (case aL => have := LMc9.out; omega); intro v322 w12 ho hb hg hat; rw [← Ny321.out] at ho; replace HB := am_ (below_weaken Zal HL.out hb); replace HI0 := am_ (IsS116.grown Zak hg (IsS116.own_ne HI0.out HO_3.out (by decide))); replace HK := am_ (KeepBut.trans Zam (KeepBut.of_grown hg g) (Kd.R_base2 HO_3.out)); replace HO323 := am_ (ho); clear HO_3; clear ho hb hg hat))
     go_roundg k1
     case measure => have := HK1.out; omega
     case rel => exact ⟨(y321), (wrap64 (x4_1 - 1)), (t319), (t320), Za, H', ⟨Zd⟩, ⟨(Zr HO323)⟩, ⟨Zak⟩, ⟨Zam⟩, ⟨Zal⟩⟩
    ·rw [if_neg c9] at H
     exact absurd H (by simp)
   ·rw [if_neg c6] at H
    have c6b0 : decide (0 < x4_1) = false := decide_eq_false c6; clear c6; simp only [Option.some.injEq, Prod.mk.injEq] at H; obtain ⟨rfl, rfl, rfl⟩ := H
    go_wp2
    go_ret
    exact ⟨_, Zl, (Zr HO_3), Zak, Zal, Zam⟩
def spec_l03Names.f  : Option (List ByteArray) := some (([(⟨#[97, 115, 116, 101, 114]⟩ : ByteArray), (⟨#[99, 111, 109, 101, 116]⟩ : ByteArray), (⟨#[100, 97, 104, 108, 105, 97]⟩ : ByteArray), (⟨#[112, 97, 108, 109]⟩ : ByteArray), (⟨#[112, 101, 111, 110, 121]⟩ : ByteArray), (⟨#[119, 105, 108, 108, 111, 119]⟩ : ByteArray)] : List ByteArray))
set_option maxHeartbeats 8000000 in
set_option maxRecDepth 100000 in
theorem spec_l03Names.calls  (r : List ByteArray) (w : World) (h : spec_l03Names.f  = some r) :
  Calls Try.prog 109 #[] w fun e w' => ∃ v0_ : Value, e = .returned (v0_) ∧ Kd.R Kd.string 9 w' w.heap.size (fun _ => True) v0_ r ∧ Below w.heap.size w w' := by
 have HB := am_ (Below.refl w.heap.size w); have H : (some (([(⟨#[97, 115, 116, 101, 114]⟩ : ByteArray), (⟨#[99, 111, 109, 101, 116]⟩ : ByteArray), (⟨#[100, 97, 104, 108, 105, 97]⟩ : ByteArray), (⟨#[112, 97, 108, 109]⟩ : ByteArray), (⟨#[112, 101, 111, 110, 121]⟩ : ByteArray), (⟨#[119, 105, 108, 108, 111, 119]⟩ : ByteArray)] : List ByteArray))) = some r := h; clear h; obtain ⟨y324, hy324⟩ : ∃ y_ : List ByteArray, y_ = (([(⟨#[97, 115, 116, 101, 114]⟩ : ByteArray), (⟨#[99, 111, 109, 101, 116]⟩ : ByteArray), (⟨#[100, 97, 104, 108, 105, 97]⟩ : ByteArray), (⟨#[112, 97, 108, 109]⟩ : ByteArray), (⟨#[112, 101, 111, 110, 121]⟩ : ByteArray), (⟨#[119, 105, 108, 108, 111, 119]⟩ : ByteArray)] : List ByteArray)) := ⟨_, rfl⟩
 (first | (rw [← hy324] at H; with_reducible replace H := bindZ H) | rw [← hy324] at H | skip)
 have Ny324 := am_ hy324; clear hy324; obtain rfl := Option.some.inj H
 go_enter Try.func109, Try.ntmps109
 go_wp2_with (first | ((with_reducible refine gate_dst (N := 1) rfl ?_); refine Kd.R_lit Kd.string _ 9 ?hg (N := 1) ?hd (xs := ([(⟨#[97, 115, 116, 101, 114]⟩ : ByteArray), (⟨#[99, 111, 109, 101, 116]⟩ : ByteArray), (⟨#[100, 97, 104, 108, 105, 97]⟩ : ByteArray), (⟨#[112, 97, 108, 109]⟩ : ByteArray), (⟨#[112, 101, 111, 110, 121]⟩ : ByteArray), (⟨#[119, 105, 108, 108, 111, 119]⟩ : ByteArray)] : List ByteArray)) (inner := [.string (⟨#[97, 115, 116, 101, 114]⟩ : ByteArray), .string (⟨#[99, 111, 109, 101, 116]⟩ : ByteArray), .string (⟨#[100, 97, 104, 108, 105, 97]⟩ : ByteArray), .string (⟨#[112, 97, 108, 109]⟩ : ByteArray), .string (⟨#[112, 101, 111, 110, 121]⟩ : ByteArray), .string (⟨#[119, 105, 108, 108, 111, 119]⟩ : ByteArray)]) (ok := fun _ => True) (okp := fun _ => True) ?hr ?hp (fun _ hk => hk) trivial (Below.refl _ _) (Nat.le_refl _) (by simp) ?_; (case hd => rfl); (case hg => rfl); (case hr => first | (go_simp; done) | (go_simp; rfl)); (case hp => exact (Reps.one (show Kd.M Kd.string _ _ _ (⟨#[97, 115, 116, 101, 114]⟩ : ByteArray) [.string (⟨#[97, 115, 116, 101, 114]⟩ : ByteArray)] from rfl) (Reps.one (show Kd.M Kd.string _ _ _ (⟨#[99, 111, 109, 101, 116]⟩ : ByteArray) [.string (⟨#[99, 111, 109, 101, 116]⟩ : ByteArray)] from rfl) (Reps.one (show Kd.M Kd.string _ _ _ (⟨#[100, 97, 104, 108, 105, 97]⟩ : ByteArray) [.string (⟨#[100, 97, 104, 108, 105, 97]⟩ : ByteArray)] from rfl) (Reps.one (show Kd.M Kd.string _ _ _ (⟨#[112, 97, 108, 109]⟩ : ByteArray) [.string (⟨#[112, 97, 108, 109]⟩ : ByteArray)] from rfl) (Reps.one (show Kd.M Kd.string _ _ _ (⟨#[112, 101, 111, 110, 121]⟩ : ByteArray) [.string (⟨#[112, 101, 111, 110, 121]⟩ : ByteArray)] from rfl) (Reps.one (show Kd.M Kd.string _ _ _ (⟨#[119, 105, 108, 108, 111, 119]⟩ : ByteArray) [.string (⟨#[119, 105, 108, 108, 111, 119]⟩ : ByteArray)] from rfl) (Reps.none _ _)))))))); intro v325 w1 ho2 hb hg_ hnew_; clear hg_ hnew_; (first | rw [← Ny324.out] at ho2 | (simp only [Int.reduceToNat] at ho2; rw [← Ny324.out] at ho2)); replace HO326 := am_ (Kd.R_lower ho2 (below_size Zf)); replace HB := (bsZ Zf hb); clear hb ho2))
 go_ret
 exact ⟨_, Zl, (Zr HO326), Zf⟩
def spec_l01Pick.f (s0_0 : List Int) (s0_1 : Int) (s0_2 : Int) (l1 : List Int) : Option (Int × Int × Int) := (spec_l01Next.f s0_0 s0_1 s0_2 (l1.length : Int)).bind fun bt327 => (if 0 ≤ bt327.1 then (if bt327.1 < (l1.length : Int) then (some (rd l1 bt327.1, bt327.2.1, bt327.2.2)) else (none)) else (none))
set_option maxHeartbeats 8000000 in
set_option maxRecDepth 100000 in
theorem spec_l01Pick.calls (g : Nat) (s0_0 : List Int) (s0_1 : Int) (s0_2 : Int) (A1 : Option Addr) (c1 : Nat) (l1 : List Int) (r1 : Int) (r2 : Int) (r3 : Int) (w0 w : World) (hI : IsS116 w0 w g s0_0 s0_1 s0_2) (hB : Below w0.heap.size w0 w) (hr1 : Kd.C (Kd.int .i64) w A1 l1.length l1) (hc1 : l1.length ≤ c1) (hf1 : ∀ ad, A1 = some ad → 0 < l1.length → ad.block ≠ g) (h : spec_l01Pick.f s0_0 s0_1 s0_2 l1 = some (r1, r2, r3)) :
  Calls Try.prog 79 #[.pointer (some ⟨g, 0, none⟩), .slice A1 l1.length c1] w fun e w' => e = .returned (.int .i64 r1) ∧ IsS116 w0 w' g s0_0 r2 r3 ∧ Below w0.heap.size w0 w' ∧ KeepBut w w' g none := by
 have HR1 := am_ hr1; have HC1 := am_ hc1; clear hr1 hc1; have HI0 := am_ hI; have HK := am_ (KeepBut.refl w g none); have HL := am_ hB.size; clear hI; have HW0 := am_ hB.size; have HB := am_ hB; clear hB; have H : ((spec_l01Next.f s0_0 s0_1 s0_2 (l1.length : Int)).bind fun bt327 => (if 0 ≤ bt327.1 then (if bt327.1 < (l1.length : Int) then (some (rd l1 bt327.1, bt327.2.1, bt327.2.2)) else (none)) else (none))) = some (r1, r2, r3) := h; clear h; replace H := Option.bind_eq_some_iff.mp H; obtain ⟨⟨t327, t328, t329⟩, A30, H⟩ := H
 dsimp only at H
 have A3 := am_ A30; clear A30
 by_cases c4 : 0 ≤ t327
 ·rw [if_pos c4] at H
  have c4b0 := decide_eq_true c4; clear c4
  by_cases c5 : t327 < (l1.length : Int)
  ·rw [if_pos c5] at H
   have c5b0 := decide_eq_true c5; clear c5; simp only [Option.some.injEq, Prod.mk.injEq] at H; obtain ⟨rfl, rfl, rfl⟩ := H
   go_enter Try.func79, Try.ntmps79
   go_wp2_with (first | ((with_reducible refine gate_callee (f := 62) rfl ?_); refine gZ 9 Try.func62 #[.pointer (some ⟨g, 0, none⟩), .int .i64 (l1.length : Int)] ?_; (with_reducible refine (spec_l01Next.calls g s0_0 s0_1 s0_2 (l1.length : Int) t327 t328 t329 w0 _ ?_ ?_ A3.out).mono ?_); exact Zak; exact Zal; rintro e w6 ⟨rfl, hi, hb, hk⟩; refine ⟨_, rfl, ?_⟩; replace HK := am_ (KeepBut.trans Zam hk (.inl rfl)); replace HB := am_ (hb); replace HI0 := am_ (hi); clear hb hk hi; have p330 : 0 ≤ (t327 : Int) := of_decide_eq_true Zc; have q330 : t327 < (l1.length : Int) := of_decide_eq_true Zc; obtain ⟨ad330, e330, hx330_0⟩ := Kd.at_int HR1.out t327 p330 q330; cases e330; replace hx330_0 := keep_cell HK.out hx330_0 (by first | (rw [add_block]; exact hf1 _ rfl (by omega)) | exact hf1 _ rfl (by omega) | exact hf1 ad330 rfl (by omega)); replace p330 := eq_true p330; replace q330 := eq_true q330))
   go_ret
   exact ⟨Zl, Zak, Zal, Zam⟩
  ·rw [if_neg c5] at H
   exact absurd H (by simp)
 ·rw [if_neg c4] at H
  exact absurd H (by simp)
def spec_l03Good.f (s0_0 : List Int) (s0_1 : Int) (s0_2 : Int) (a1 : ByteArray) : Option (ByteArray × Int × Int × Int × Int × Int × Int × Int × Int × Int × Int) := (spec_l01Next.f s0_0 s0_1 s0_2 4).bind fun bt332 => ((spec_l01Next.f s0_0 bt332.2.1 bt332.2.2 281).bind fun bt335 => ((spec_l01Pick.f s0_0 bt335.2.1 bt335.2.2 (([50, 75, 100, 150, wrap64 (20 + bt335.1)] : List Int))).bind fun bt341 => ((spec_l01Next.f s0_0 bt341.2.1 bt341.2.2 5000).bind fun bt344 => ((spec_l01Next.f s0_0 bt344.2.1 bt344.2.2 300).bind fun bt347 => ((spec_l01Next.f s0_0 bt347.2.1 bt347.2.2 2000).bind fun bt350 => ((spec_l01Next.f s0_0 bt350.2.1 bt350.2.2 4).bind fun bt353 => (if bt332.1 = 1 then ((spec_l01Next.f s0_0 bt353.2.1 bt353.2.2 8).bind fun bt357 => ((spec_l01Next.f s0_0 bt357.2.1 bt357.2.2 2000).bind fun bt360 => (if bt332.1 = 2 then (some (a1, bt332.1, bt341.1, 0, 0, wrap64 (1 + bt357.1), wrap64 (500 + bt360.1), wrap64 (50 + bt350.1), bt353.1, bt360.2.1, bt360.2.2)) else (some (a1, bt332.1, bt341.1, wrap64 (1000 + bt344.1), bt347.1, wrap64 (1 + bt357.1), wrap64 (500 + bt360.1), wrap64 (50 + bt350.1), bt353.1, bt360.2.1, bt360.2.2))))) else (if bt332.1 = 2 then (some (a1, bt332.1, bt341.1, 0, 0, 1, 0, wrap64 (50 + bt350.1), bt353.1, bt353.2.1, bt353.2.2)) else (some (a1, bt332.1, bt341.1, wrap64 (1000 + bt344.1), bt347.1, 1, 0, wrap64 (50 + bt350.1), bt353.1, bt353.2.1, bt353.2.2))))))))))
theorem spec_l03Good.gen {P : Program} {ops : Array Oper} {Q : Exit → Act → World → Prop} {rest : List Oper} {a : Act} {W : World} (h : ∀ w1, w1 = W → wpList P ops Q rest a w1) : wpList P ops Q rest a W := h W rfl
theorem spec_l03Good.exs {w : World} {g t i : Nat} {u : Value} {E : Array Value → Prop} (h : ∃ cs, w.heap[g]? = some (.cells cs t (0, 0)) ∧ E (cs.setIfInBounds i u)) : ∃ cs, (w.setCell ⟨g, i, none⟩ u).heap[g]? = some (.cells cs t (0, 0)) ∧ E cs := h.elim fun _ h => ⟨_, blk_set h.1 i u, h.2⟩
set_option maxHeartbeats 40000000 in
set_option maxRecDepth 100000 in
theorem spec_l03Good.calls (g : Nat) (s0_0 : List Int) (s0_1 : Int) (s0_2 : Int) (a1 : ByteArray) (r1 : ByteArray) (r2 : Int) (r3 : Int) (r4 : Int) (r5 : Int) (r6 : Int) (r7 : Int) (r8 : Int) (r9 : Int) (r10 : Int) (r11 : Int) (w0 w : World) (hI : IsS116 w0 w g s0_0 s0_1 s0_2) (hB : Below w0.heap.size w0 w) (h : spec_l03Good.f s0_0 s0_1 s0_2 a1 = some (r1, r2, r3, r4, r5, r6, r7, r8, r9, r10, r11)) :
  Calls Try.prog 110 #[.pointer (some ⟨g, 0, none⟩), .string a1] w fun e w' => e = .returned (.agg #[.string r1, .int .i64 r2, .int .i64 r3, .int .i64 r4, .int .i64 r5, .int .i64 r6, .int .i64 r7, .int .i64 r8, .int .i64 r9]) ∧ IsS116 w0 w' g s0_0 r10 r11 ∧ Below w0.heap.size w0 w' ∧ KeepBut w w' g none := by
 have hu61 := Try.underlying61; have HI0 := am_ hI; have HK := am_ (KeepBut.refl w g none); have HL := am_ hB.size; clear hI; have HW0 := am_ hB.size; have HB := am_ hB; clear hB; have H : ((spec_l01Next.f s0_0 s0_1 s0_2 4).bind fun bt332 => ((spec_l01Next.f s0_0 bt332.2.1 bt332.2.2 281).bind fun bt335 => ((spec_l01Pick.f s0_0 bt335.2.1 bt335.2.2 (([50, 75, 100, 150, wrap64 (20 + bt335.1)] : List Int))).bind fun bt341 => ((spec_l01Next.f s0_0 bt341.2.1 bt341.2.2 5000).bind fun bt344 => ((spec_l01Next.f s0_0 bt344.2.1 bt344.2.2 300).bind fun bt347 => ((spec_l01Next.f s0_0 bt347.2.1 bt347.2.2 2000).bind fun bt350 => ((spec_l01Next.f s0_0 bt350.2.1 bt350.2.2 4).bind fun bt353 => (if bt332.1 = 1 then ((spec_l01Next.f s0_0 bt353.2.1 bt353.2.2 8).bind fun bt357 => ((spec_l01Next.f s0_0 bt357.2.1 bt357.2.2 2000).bind fun bt360 => (if bt332.1 = 2 then (some (a1, bt332.1, bt341.1, 0, 0, wrap64 (1 + bt357.1), wrap64 (500 + bt360.1), wrap64 (50 + bt350.1), bt353.1, bt360.2.1, bt360.2.2)) else (some (a1, bt332.1, bt341.1, wrap64 (1000 + bt344.1), bt347.1, wrap64 (1 + bt357.1), wrap64 (500 + bt360.1), wrap64 (50 + bt350.1), bt353.1, bt360.2.1, bt360.2.2))))) else (if bt332.1 = 2 then (some (a1, bt332.1, bt341.1, 0, 0, 1, 0, wrap64 (50 + bt350.1), bt353.1, bt353.2.1, bt353.2.2)) else (some (a1, bt332.1, bt341.1, wrap64 (1000 + bt344.1), bt347.1, 1, 0, wrap64 (50 + bt350.1), bt353.1, bt353.2.1, bt353.2.2))))))))))) = some (r1, r2, r3, r4, r5, r6, r7, r8, r9, r10, r11) := h; clear h; replace H := Option.bind_eq_some_iff.mp H; obtain ⟨⟨t332, t333, t334⟩, A30, H⟩ := H
 dsimp only at H
 have A3 := am_ A30; clear A30; replace H := Option.bind_eq_some_iff.mp H; obtain ⟨⟨t335, t336, t337⟩, A40, H⟩ := H
 dsimp only at H
 have A4 := am_ A40; clear A40; obtain ⟨y338, hy338⟩ : ∃ y_ : List Int, y_ = (([50, 75, 100, 150, wrap64 (20 + t335)] : List Int)) := ⟨_, rfl⟩
 (first | (rw [← hy338] at H; with_reducible replace H := bindZ H) | rw [← hy338] at H | skip)
 have Ny338 := am_ hy338; clear hy338; replace H := Option.bind_eq_some_iff.mp H; obtain ⟨⟨t341, t342, t343⟩, A50, H⟩ := H
 dsimp only at H
 have A5 := am_ A50; clear A50; replace H := Option.bind_eq_some_iff.mp H; obtain ⟨⟨t344, t345, t346⟩, A60, H⟩ := H
 dsimp only at H
 have A6 := am_ A60; clear A60; replace H := Option.bind_eq_some_iff.mp H; obtain ⟨⟨t347, t348, t349⟩, A70, H⟩ := H
 dsimp only at H
 have A7 := am_ A70; clear A70; replace H := Option.bind_eq_some_iff.mp H; obtain ⟨⟨t350, t351, t352⟩, A80, H⟩ := H
 dsimp only at H
 have A8 := am_ A80; clear A80; replace H := Option.bind_eq_some_iff.mp H; obtain ⟨⟨t353, t354, t355⟩, A90, H⟩ := H
 dsimp only at H
 have A9 := am_ A90; clear A90; have HS_ := am_ H; clear H
 go_enter Try.func110, Try.ntmps110
 go_wp2_with (first | ((with_reducible refine gate_dst (N := 4) rfl ?_); refine boxZ 4 #[.string (⟨#[]⟩ : ByteArray), .int .i64 0, .int .i64 0, .int .i64 0, .int .i64 0, .int .i64 0, .int .i64 0, .int .i64 0, .int .i64 0] 61 ?_; intro gb331 hg w14 hbox hb; replace HB := (bsZ Zal hb); replace BK331 := am_ (hbox); replace GW331 := am_ ((Zap : w.heap.size ≤ gb331)); replace GE331 := am_ ((Nat.le_trans HW0.out (Zap : w.heap.size ≤ gb331) : w0.heap.size ≤ gb331)); replace HK := am_ (KeepBut.trans Zam (KeepBut.of_below hb g none) (.inl rfl)); replace NB0_331 := am_ ((Zaq : g ≠ gb331)); replace NB331_0 := am_ ((Zar : gb331 ≠ g)); replace HI0 := am_ (IsS116.below Zak hb); clear hb hbox hg) | ((with_reducible refine gate_callee (f := 62) rfl ?_); refine gZ 8 Try.func62 #[.pointer (some ⟨g, 0, none⟩), .int .i64 4] ?_; (with_reducible refine (spec_l01Next.calls g s0_0 s0_1 s0_2 4 t332 t333 t334 w0 _ ?_ ?_ A3.out).mono ?_); exact (Zas NB0_331); exact (Zat GE331); rintro e w15 ⟨rfl, hi, hb, hk⟩; refine ⟨_, rfl, ?_⟩; replace BK331 := (kbZ BK331 hk NB331_0); replace HK := am_ (KeepBut.trans (Zau GW331) hk (.inl rfl)); replace HB := am_ (hb); replace HI0 := am_ (hi); clear hb hk hi) | ((with_reducible refine gate_callee (f := 62) rfl ?_); refine gZ 11 Try.func62 #[.pointer (some ⟨g, 0, none⟩), .int .i64 281] ?_; (with_reducible refine (spec_l01Next.calls g s0_0 t333 t334 281 t335 t336 t337 w0 _ ?_ ?_ A4.out).mono ?_); exact (Zas NB0_331); exact (Zat GE331); rintro e w16 ⟨rfl, hi, hb, hk⟩; refine ⟨_, rfl, ?_⟩; replace BK331 := (kbZ BK331 hk NB331_0); replace HK := am_ (KeepBut.trans (Zau GW331) hk (.inl rfl)); replace HB := am_ (hb); replace HI0 := am_ (hi); clear hb hk hi) | ((with_reducible refine gate_dst (N := 13) rfl ?_); refine Kd.R_lit (Kd.int .i64) _ 2 ?hg (N := 13) ?hd (xs := ([50, 75, 100, 150, wrap64 (20 + t335)] : List Int)) (inner := [.int .i64 50, .int .i64 75, .int .i64 100, .int .i64 150, .int .i64 (wrap64 (20 + t335))]) (ok := fun _ => True) (okp := fun _ => True) ?hr ?hp (fun _ hk => hk) trivial (Below.refl _ _) (Nat.le_refl _) (by simp) ?_; (case hd => rfl); (case hg => rfl); (case hr => first | (go_simp; done) | (go_simp; rfl)); (case hp => exact (Reps.one (show Kd.M (Kd.int .i64) _ _ _ 50 [.int .i64 50] from rfl) (Reps.one (show Kd.M (Kd.int .i64) _ _ _ 75 [.int .i64 75] from rfl) (Reps.one (show Kd.M (Kd.int .i64) _ _ _ 100 [.int .i64 100] from rfl) (Reps.one (show Kd.M (Kd.int .i64) _ _ _ 150 [.int .i64 150] from rfl) (Reps.one (show Kd.M (Kd.int .i64) _ _ _ (wrap64 (20 + t335)) [.int .i64 (wrap64 (20 + t335))] from rfl) (Reps.none _ _))))))); intro v339 w17 ho18 hb hg_ hnew_; clear hg_ hnew_; (first | rw [← Ny338.out] at ho18 | (simp only [Int.reduceToNat] at ho18; rw [← Ny338.out] at ho18)); replace HO340 := am_ (Kd.R_lower ho18 (keep_size (w := w) (g := g) (row := none) (Zau GW331))); replace BK331 := (bkZ BK331 hb); replace HK := am_ (KeepBut.trans (Zau GW331) (KeepBut.of_below hb g none) (.inl rfl)); replace HB := (bsZ (Zat GE331) hb); replace HI0 := am_ (IsS116.below (Zas NB0_331) hb); clear hb ho18; obtain ⟨Ao19, co19, eo19⟩ := Kd.R_slice HO340.out; subst eo19) | ((with_reducible refine gate_callee (f := 79) rfl ?_); refine gZ 14 Try.func79 #[.pointer (some ⟨g, 0, none⟩), .slice Ao19 y338.length co19] ?_; (with_reducible refine (spec_l01Pick.calls g s0_0 t336 t337 _ _ y338 t341 t342 t343 w0 _ ?_ ?_ ?_ ?_ ?_ A5.out).mono ?_); exact (Zas NB0_331); exact (Zat GE331); exact (Zaa HO340); exact (Kd.R_reads' HO340.out).2.1; exact far_slice (IsS116.own_ne HI0.out HO340.out (by decide)); rintro e w20 ⟨rfl, hi, hb, hk⟩; refine ⟨_, rfl, ?_⟩; replace BK331 := (kbZ BK331 hk NB331_0); replace HO340 := (hoZ (IsS116.apart (show IsS116 w0 _ g s0_0 t336 t337 from (Zas NB0_331)) (Zr HO340) (by decide)) hk); replace HK := am_ (KeepBut.trans (Zau GW331) hk (.inl rfl)); replace HB := am_ (hb); replace HI0 := am_ (hi); clear hb hk hi) | ((with_reducible refine gate_callee (f := 62) rfl ?_); refine gZ 16 Try.func62 #[.pointer (some ⟨g, 0, none⟩), .int .i64 5000] ?_; (with_reducible refine (spec_l01Next.calls g s0_0 t342 t343 5000 t344 t345 t346 w0 _ ?_ ?_ A6.out).mono ?_); exact (Zas NB0_331); exact (Zat GE331); rintro e w21 ⟨rfl, hi, hb, hk⟩; refine ⟨_, rfl, ?_⟩; replace BK331 := (kbZ BK331 hk NB331_0); replace HO340 := (hoZ (IsS116.apart (show IsS116 w0 _ g s0_0 t342 t343 from (Zas NB0_331)) (Zr HO340) (by decide)) hk); replace HK := am_ (KeepBut.trans (Zau GW331) hk (.inl rfl)); replace HB := am_ (hb); replace HI0 := am_ (hi); clear hb hk hi) | ((with_reducible refine gate_callee (f := 62) rfl ?_); refine gZ 19 Try.func62 #[.pointer (some ⟨g, 0, none⟩), .int .i64 300] ?_; (with_reducible refine (spec_l01Next.calls g s0_0 t345 t346 300 t347 t348 t349 w0 _ ?_ ?_ A7.out).mono ?_); exact (Zas NB0_331); exact (Zat GE331); rintro e w22 ⟨rfl, hi, hb, hk⟩; refine ⟨_, rfl, ?_⟩; replace BK331 := (kbZ BK331 hk NB331_0); replace HO340 := (hoZ (IsS116.apart (show IsS116 w0 _ g s0_0 t345 t346 from (Zas NB0_331)) (Zr HO340) (by decide)) hk); replace HK := am_ (KeepBut.trans (Zau GW331) hk (.inl rfl)); replace HB := am_ (hb); replace HI0 := am_ (hi); clear hb hk hi) | ((with_reducible refine gate_callee (f := 62) rfl ?_); refine gZ 21 Try.func62 #[.pointer (some ⟨g, 0, none⟩), .int .i64 2000] ?_; (with_reducible refine (spec_l01Next.calls g s0_0 t348 t349 2000 t350 t351 t352 w0 _ ?_ ?_ A8.out).mono ?_); exact (Zas NB0_331); exact (Zat GE331); rintro e w23 ⟨rfl, hi, hb, hk⟩; refine ⟨_, rfl, ?_⟩; replace BK331 := (kbZ BK331 hk NB331_0); replace HO340 := (hoZ (IsS116.apart (show IsS116 w0 _ g s0_0 t348 t349 from (Zas NB0_331)) (Zr HO340) (by decide)) hk); replace HK := am_ (KeepBut.trans (Zau GW331) hk (.inl rfl)); replace HB := am_ (hb); replace HI0 := am_ (hi); clear hb hk hi) | ((with_reducible refine gate_callee (f := 62) rfl ?_); refine gZ 24 Try.func62 #[.pointer (some ⟨g, 0, none⟩), .int .i64 4] ?_; (with_reducible refine (spec_l01Next.calls g s0_0 t351 t352 4 t353 t354 t355 w0 _ ?_ ?_ A9.out).mono ?_); exact (Zas NB0_331); exact (Zat GE331); rintro e w24 ⟨rfl, hi, hb, hk⟩; refine ⟨_, rfl, ?_⟩; replace BK331 := (kbZ BK331 hk NB331_0); replace HO340 := (hoZ (IsS116.apart (show IsS116 w0 _ g s0_0 t351 t352 from (Zas NB0_331)) (Zr HO340) (by decide)) hk); replace HK := am_ (KeepBut.trans (Zau GW331) hk (.inl rfl)); replace HB := am_ (hb); replace HI0 := am_ (hi); clear hb hk hi; refine ?roundEnd))
 case roundEnd =>
  by_cases c10 : t332 = 1
  ·have H := HS_.out
   clear HS_; rw [if_pos c10] at H; have c10b0 := beq_iff_eq.mpr c10; have c10b1 := bne_eq_false_iff_eq.mpr c10; clear c10; replace H := Option.bind_eq_some_iff.mp H; obtain ⟨⟨t357, t358, t359⟩, A110, H⟩ := H
   dsimp only at H
   have A11 := am_ A110; clear A110; replace H := Option.bind_eq_some_iff.mp H; obtain ⟨⟨t360, t361, t362⟩, A120, H⟩ := H
   dsimp only at H
   have A12 := am_ A120; clear A120; have HS_ := am_ H; clear H
   go_wp2_with (first | ((with_reducible refine gate_dst (N := 5) rfl ?_); refine boxZ 5 #[.string (⟨#[]⟩ : ByteArray), .int .i64 0, .int .i64 0, .int .i64 0, .int .i64 0, .int .i64 0, .int .i64 0, .int .i64 0, .int .i64 0] 61 ?_; intro gb356 hg w25 hbox hb; replace HO340 := (hbZ HO340 hb); replace HB := (bsZ (Zat GE331) hb); replace BK356 := am_ (hbox); replace GW356 := am_ (((Zav GW331) : w.heap.size ≤ gb356)); replace GE356 := am_ ((Nat.le_trans HW0.out ((Zav GW331) : w.heap.size ≤ gb356) : w0.heap.size ≤ gb356)); replace HK := am_ (KeepBut.trans (Zau GW331) (KeepBut.of_below hb g none) (.inl rfl)); replace NB331_356 := am_ ((by rw [hg]; exact Nat.ne_of_lt (blk_lt (g := gb331) (b0Z BK331)) : gb331 ≠ gb356)); replace NB356_331 := am_ ((by rw [hg]; exact Nat.ne_of_gt (blk_lt (g := gb331) (b0Z BK331)) : gb356 ≠ gb331)); replace BK331 := (bkZ BK331 hb); replace NB0_356 := am_ (((Zaw NB0_331) : g ≠ gb356)); replace NB356_0 := am_ (((Zax NB0_331) : gb356 ≠ g)); replace HI0 := am_ (IsS116.below (Zas NB0_331) hb); clear hb hbox hg; have hnb26 := NB356_331.out; have hnc26 := NB331_356.out; have hnb27 := NB356_0.out; have hnc27 := NB0_356.out; refine ci9 BK356 ?_; intros) | ((with_reducible refine gate_callee (f := 62) rfl ?_); refine gZ 30 Try.func62 #[.pointer (some ⟨g, 0, none⟩), .int .i64 8] ?_; (with_reducible refine (spec_l01Next.calls g s0_0 t354 t355 8 t357 t358 t359 w0 _ ?_ ?_ A11.out).mono ?_); exact (Zay NB0_331 NB0_356); exact (Zaz GE331 GE356); rintro e w29 ⟨rfl, hi, hb, hk⟩; refine ⟨_, rfl, ?_⟩; replace BK331 := am_ (KeepBut.blk hk (g' := gb331) (bfZ BK331 NB331_356) NB331_0.out (by simp)); replace HO340 := (hoZ (IsS116.apart (show IsS116 w0 _ g s0_0 t354 t355 from (Zay NB0_331 NB0_356)) (Zaf HO340 BK356) (by decide)) hk); replace BK356 := am_ (KeepBut.blk hk (g' := gb356) (o := .cells #[.string a1, .int .i64 t332, .int .i64 t341, .int .i64 (wrap64 (1000 + t344)), .int .i64 t347, .int .i64 1, .int .i64 0, .int .i64 (wrap64 (50 + t350)), .int .i64 t353] 61 (0, 0)) (bpZ BK356) NB356_0.out (by simp)); replace HK := am_ (KeepBut.trans (Zba GW331 GW356) hk (.inl rfl)); replace HB := am_ (hb); replace HI0 := am_ (hi); clear hb hk hi; refine ci9 BK356 ?_; intros) | ((with_reducible refine gate_callee (f := 62) rfl ?_); refine gZ 34 Try.func62 #[.pointer (some ⟨g, 0, none⟩), .int .i64 2000] ?_; (with_reducible refine (spec_l01Next.calls g s0_0 t358 t359 2000 t360 t361 t362 w0 _ ?_ ?_ A12.out).mono ?_); exact (Zay NB0_331 NB0_356); exact (Zaz GE331 GE356); rintro e w31 ⟨rfl, hi, hb, hk⟩; refine ⟨_, rfl, ?_⟩; replace BK331 := am_ (KeepBut.blk hk (g' := gb331) (bfZ BK331 NB331_356) NB331_0.out (by simp)); replace HO340 := (hoZ (IsS116.apart (show IsS116 w0 _ g s0_0 t358 t359 from (Zay NB0_331 NB0_356)) (Zaf HO340 BK356) (by decide)) hk); replace BK356 := am_ (KeepBut.blk hk (g' := gb356) (o := .cells #[.string a1, .int .i64 t332, .int .i64 t341, .int .i64 (wrap64 (1000 + t344)), .int .i64 t347, .int .i64 (wrap64 (1 + t357)), .int .i64 0, .int .i64 (wrap64 (50 + t350)), .int .i64 t353] 61 (0, 0)) (bpZ BK356) NB356_0.out (by simp)); replace HK := am_ (KeepBut.trans (Zba GW331 GW356) hk (.inl rfl)); replace HB := am_ (hb); replace HI0 := am_ (hi); clear hb hk hi; refine ci9 BK356 ?_; intros; have hnb33 := NB331_0.out; have hnc33 := NB0_331.out; refine ci9 BK331 ?_; intros; refine ?roundEnd))
   case roundEnd =>
    by_cases c13 : t332 = 2
    ·have H := HS_.out
     clear HS_; rw [if_pos c13] at H; have c13b0 := beq_iff_eq.mpr c13; have c13b1 := bne_eq_false_iff_eq.mpr c13; clear c13; simp only [Option.some.injEq, Prod.mk.injEq] at H; obtain ⟨rfl, rfl, rfl, rfl, rfl, rfl, rfl, rfl, rfl, rfl, rfl⟩ := H
     go_wp2_with (first | fail)
     refine bodyPost_ret (results_cell_row rfl _ _ gb331 61 #[.string a1, .int .i64 t332, .int .i64 t341, .int .i64 0, .int .i64 0, .int .i64 (wrap64 (1 + t357)), .int .i64 (wrap64 (500 + t360)), .int .i64 (wrap64 (50 + t350)), .int .i64 t353] (0, 0) _ rfl (bmZ BK331 NB331_356) Try.underlying61 rfl Zm) rfl ?_; exact ⟨Zl, (Zay NB0_331 NB0_356), (Zaz GE331 GE356), (Zba GW331 GW356)⟩
    ·have H := HS_.out
     clear HS_; rw [if_neg c13] at H; have c13b0 := beq_eq_false_iff_ne.mpr c13; have c13b1 := bne_iff_ne.mpr c13; simp only [Option.some.injEq, Prod.mk.injEq] at H; obtain ⟨rfl, rfl, rfl, rfl, rfl, rfl, rfl, rfl, rfl, rfl, rfl⟩ := H
     go_wp2_with (first | fail)
     refine bodyPost_ret (results_cell_row rfl _ _ gb331 61 #[.string a1, .int .i64 t332, .int .i64 t341, .int .i64 (wrap64 (1000 + t344)), .int .i64 t347, .int .i64 (wrap64 (1 + t357)), .int .i64 (wrap64 (500 + t360)), .int .i64 (wrap64 (50 + t350)), .int .i64 t353] (0, 0) _ rfl (bmZ BK331 NB331_356) Try.underlying61 rfl Zm) rfl ?_; exact ⟨Zl, (Zay NB0_331 NB0_356), (Zaz GE331 GE356), (Zba GW331 GW356)⟩
  ·have H := HS_.out
   clear HS_; rw [if_neg c10] at H; have c10b0 := beq_eq_false_iff_ne.mpr c10; have c10b1 := bne_iff_ne.mpr c10; have HS_ := am_ H; clear H
   by_cases c56 : t332 = 2
   ·have H := HS_.out
    clear HS_; rw [if_pos c56] at H; have c56b0 := beq_iff_eq.mpr c56; have c56b1 := bne_eq_false_iff_eq.mpr c56; clear c56; simp only [Option.some.injEq, Prod.mk.injEq] at H; obtain ⟨rfl, rfl, rfl, rfl, rfl, rfl, rfl, rfl, rfl, rfl, rfl⟩ := H
    go_wp2_with (first | ((with_reducible refine gate_dst (N := 5) rfl ?_); refine boxZ 5 #[.string (⟨#[]⟩ : ByteArray), .int .i64 0, .int .i64 0, .int .i64 0, .int .i64 0, .int .i64 0, .int .i64 0, .int .i64 0, .int .i64 0] 61 ?_; intro gb356 hg w68 hbox hb; replace HO340 := (hbZ HO340 hb); replace HB := (bsZ (Zat GE331) hb); replace BK356 := am_ (hbox); replace GW356 := am_ (((Zav GW331) : w.heap.size ≤ gb356)); replace GE356 := am_ ((Nat.le_trans HW0.out ((Zav GW331) : w.heap.size ≤ gb356) : w0.heap.size ≤ gb356)); replace HK := am_ (KeepBut.trans (Zau GW331) (KeepBut.of_below hb g none) (.inl rfl)); replace NB331_356 := am_ ((by rw [hg]; exact Nat.ne_of_lt (blk_lt (g := gb331) (b0Z BK331)) : gb331 ≠ gb356)); replace NB356_331 := am_ ((by rw [hg]; exact Nat.ne_of_gt (blk_lt (g := gb331) (b0Z BK331)) : gb356 ≠ gb331)); replace BK331 := (bkZ BK331 hb); replace NB0_356 := am_ (((Zaw NB0_331) : g ≠ gb356)); replace NB356_0 := am_ (((Zax NB0_331) : gb356 ≠ g)); replace HI0 := am_ (IsS116.below (Zas NB0_331) hb); clear hb hbox hg; have hnb69 := NB356_331.out; have hnc69 := NB331_356.out; have hnb70 := NB356_0.out; have hnc70 := NB0_356.out; refine ci9 BK356 ?_; intros; have hnb72 := NB331_0.out; have hnc72 := NB0_331.out; refine ci9 BK331 ?_; intros) | ((with_reducible refine gate_dst (N := 42) rfl ?_); refine spec_l03Good.gen (fun wq_ hq_ => ?_); obtain ⟨csq_, nq0_, eq_⟩ : ∃ cs, wq_.heap[gb356]? = some (.cells cs 61 (0, 0)) ∧ cs = #[.string a1, .int .i64 t332, .int .i64 t341, .int .i64 0, .int .i64 0, .int .i64 1, .int .i64 0, .int .i64 (wrap64 (50 + t350)), .int .i64 t353] := (by rw [hq_]; (repeat (with_reducible refine spec_l03Good.exs ?_)); exact ⟨_, BK356.out, Zbb⟩); subst eq_; have nq1_ : wq_.heap[gb331]? = some (.cells #[.string (⟨#[]⟩ : ByteArray), .int .i64 0, .int .i64 0, .int .i64 0, .int .i64 0, .int .i64 0, .int .i64 0, .int .i64 0, .int .i64 0] 61 (0, 0)) := (by rw [hq_]; (repeat (refine blk_far ?_ NB331_356.out _)); exact BK331.out); have HQ_ := am_ hq_; clear hq_; have hczq356_0 : wq_.cell? ⟨gb356, 0, none⟩ = some (.string a1) := (blk_cell nq0_ 0).trans rfl; have hfzq356_0 := blk_frozen nq0_ 0; have hczq356_1 : wq_.cell? ⟨gb356, 1, none⟩ = some (.int .i64 t332) := (blk_cell nq0_ 1).trans rfl; have hfzq356_1 := blk_frozen nq0_ 1; have hczq356_2 : wq_.cell? ⟨gb356, 2, none⟩ = some (.int .i64 t341) := (blk_cell nq0_ 2).trans rfl; have hfzq356_2 := blk_frozen nq0_ 2; have hczq356_3 : wq_.cell? ⟨gb356, 3, none⟩ = some (.int .i64 0) := (blk_cell nq0_ 3).trans rfl; have hfzq356_3 := blk_frozen nq0_ 3; have hczq356_4 : wq_.cell? ⟨gb356, 4, none⟩ = some (.int .i64 0) := (blk_cell nq0_ 4).trans rfl; have hfzq356_4 := blk_frozen nq0_ 4; have hczq356_5 : wq_.cell? ⟨gb356, 5, none⟩ = some (.int .i64 1) := (blk_cell nq0_ 5).trans rfl; have hfzq356_5 := blk_frozen nq0_ 5; have hczq356_6 : wq_.cell? ⟨gb356, 6, none⟩ = some (.int .i64 0) := (blk_cell nq0_ 6).trans rfl; have hfzq356_6 := blk_frozen nq0_ 6; have hczq356_7 : wq_.cell? ⟨gb356, 7, none⟩ = some (.int .i64 (wrap64 (50 + t350))) := (blk_cell nq0_ 7).trans rfl; have hfzq356_7 := blk_frozen nq0_ 7; have hczq356_8 : wq_.cell? ⟨gb356, 8, none⟩ = some (.int .i64 t353) := (blk_cell nq0_ 8).trans rfl; have hfzq356_8 := blk_frozen nq0_ 8; have hczq331_0 : wq_.cell? ⟨gb331, 0, none⟩ = some (.string (⟨#[]⟩ : ByteArray)) := (blk_cell nq1_ 0).trans rfl; have hfzq331_0 := blk_frozen nq1_ 0; have hczq331_1 : wq_.cell? ⟨gb331, 1, none⟩ = some (.int .i64 0) := (blk_cell nq1_ 1).trans rfl; have hfzq331_1 := blk_frozen nq1_ 1; have hczq331_2 : wq_.cell? ⟨gb331, 2, none⟩ = some (.int .i64 0) := (blk_cell nq1_ 2).trans rfl; have hfzq331_2 := blk_frozen nq1_ 2; have hczq331_3 : wq_.cell? ⟨gb331, 3, none⟩ = some (.int .i64 0) := (blk_cell nq1_ 3).trans rfl; have hfzq331_3 := blk_frozen nq1_ 3; have hczq331_4 : wq_.cell? ⟨gb331, 4, none⟩ = some (.int .i64 0) := (blk_cell nq1_ 4).trans rfl; have hfzq331_4 := blk_frozen nq1_ 4; have hczq331_5 : wq_.cell? ⟨gb331, 5, none⟩ = some (.int .i64 0) := (blk_cell nq1_ 5).trans rfl; have hfzq331_5 := blk_frozen nq1_ 5; have hczq331_6 : wq_.cell? ⟨gb331, 6, none⟩ = some (.int .i64 0) := (blk_cell nq1_ 6).trans rfl; have hfzq331_6 := blk_frozen nq1_ 6; have hczq331_7 : wq_.cell? ⟨gb331, 7, none⟩ = some (.int .i64 0) := (blk_cell nq1_ 7).trans rfl; have hfzq331_7 := blk_frozen nq1_ 7; have hczq331_8 : wq_.cell? ⟨gb331, 8, none⟩ = some (.int .i64 0) := (blk_cell nq1_ 8).trans rfl; have hfzq331_8 := blk_frozen nq1_ 8))
    have hq_ := HQ_.out; clear HQ_; subst hq_; refine bodyPost_ret (results_cell_row rfl _ _ gb331 61 #[.string a1, .int .i64 t332, .int .i64 t341, .int .i64 0, .int .i64 0, .int .i64 1, .int .i64 0, .int .i64 (wrap64 (50 + t350)), .int .i64 t353] (0, 0) _ rfl (bmZ BK331 NB331_356) Try.underlying61 rfl Zm) rfl ?_; exact ⟨Zl, (Zay NB0_331 NB0_356), (Zaz GE331 GE356), (Zba GW331 GW356)⟩
   ·have H := HS_.out
    clear HS_; rw [if_neg c56] at H; have c56b0 := beq_eq_false_iff_ne.mpr c56; have c56b1 := bne_iff_ne.mpr c56; simp only [Option.some.injEq, Prod.mk.injEq] at H; obtain ⟨rfl, rfl, rfl, rfl, rfl, rfl, rfl, rfl, rfl, rfl, rfl⟩ := H
    go_wp2_with (first | ((with_reducible refine gate_dst (N := 5) rfl ?_); refine boxZ 5 #[.string (⟨#[]⟩ : ByteArray), .int .i64 0, .int .i64 0, .int .i64 0, .int .i64 0, .int .i64 0, .int .i64 0, .int .i64 0, .int .i64 0] 61 ?_; intro gb356 hg w85 hbox hb; replace HO340 := (hbZ HO340 hb); replace HB := (bsZ (Zat GE331) hb); replace BK356 := am_ (hbox); replace GW356 := am_ (((Zav GW331) : w.heap.size ≤ gb356)); replace GE356 := am_ ((Nat.le_trans HW0.out ((Zav GW331) : w.heap.size ≤ gb356) : w0.heap.size ≤ gb356)); replace HK := am_ (KeepBut.trans (Zau GW331) (KeepBut.of_below hb g none) (.inl rfl)); replace NB331_356 := am_ ((by rw [hg]; exact Nat.ne_of_lt (blk_lt (g := gb331) (b0Z BK331)) : gb331 ≠ gb356)); replace NB356_331 := am_ ((by rw [hg]; exact Nat.ne_of_gt (blk_lt (g := gb331) (b0Z BK331)) : gb356 ≠ gb331)); replace BK331 := (bkZ BK331 hb); replace NB0_356 := am_ (((Zaw NB0_331) : g ≠ gb356)); replace NB356_0 := am_ (((Zax NB0_331) : gb356 ≠ g)); replace HI0 := am_ (IsS116.below (Zas NB0_331) hb); clear hb hbox hg; have hnb86 := NB356_331.out; have hnc86 := NB331_356.out; have hnb87 := NB356_0.out; have hnc87 := NB0_356.out; refine ci9 BK356 ?_; intros; have hnb89 := NB331_0.out; have hnc89 := NB0_331.out; refine ci9 BK331 ?_; intros) | ((with_reducible refine gate_dst (N := 42) rfl ?_); refine spec_l03Good.gen (fun wq_ hq_ => ?_); obtain ⟨csq_, nq0_, eq_⟩ : ∃ cs, wq_.heap[gb356]? = some (.cells cs 61 (0, 0)) ∧ cs = #[.string a1, .int .i64 t332, .int .i64 t341, .int .i64 (wrap64 (1000 + t344)), .int .i64 t347, .int .i64 1, .int .i64 0, .int .i64 (wrap64 (50 + t350)), .int .i64 t353] := (by rw [hq_]; (repeat (with_reducible refine spec_l03Good.exs ?_)); exact ⟨_, BK356.out, Zbb⟩); subst eq_; have nq1_ : wq_.heap[gb331]? = some (.cells #[.string (⟨#[]⟩ : ByteArray), .int .i64 0, .int .i64 0, .int .i64 0, .int .i64 0, .int .i64 0, .int .i64 0, .int .i64 0, .int .i64 0] 61 (0, 0)) := (by rw [hq_]; (repeat (refine blk_far ?_ NB331_356.out _)); exact BK331.out); have HQ_ := am_ hq_; clear hq_; have hczq356_0 : wq_.cell? ⟨gb356, 0, none⟩ = some (.string a1) := (blk_cell nq0_ 0).trans rfl; have hfzq356_0 := blk_frozen nq0_ 0; have hczq356_1 : wq_.cell? ⟨gb356, 1, none⟩ = some (.int .i64 t332) := (blk_cell nq0_ 1).trans rfl; have hfzq356_1 := blk_frozen nq0_ 1; have hczq356_2 : wq_.cell? ⟨gb356, 2, none⟩ = some (.int .i64 t341) := (blk_cell nq0_ 2).trans rfl; have hfzq356_2 := blk_frozen nq0_ 2; have hczq356_3 : wq_.cell? ⟨gb356, 3, none⟩ = some (.int .i64 (wrap64 (1000 + t344))) := (blk_cell nq0_ 3).trans rfl; have hfzq356_3 := blk_frozen nq0_ 3; have hczq356_4 : wq_.cell? ⟨gb356, 4, none⟩ = some (.int .i64 t347) := (blk_cell nq0_ 4).trans rfl; have hfzq356_4 := blk_frozen nq0_ 4; have hczq356_5 : wq_.cell? ⟨gb356, 5, none⟩ = some (.int .i64 1) := (blk_cell nq0_ 5).trans rfl; have hfzq356_5 := blk_frozen nq0_ 5; have hczq356_6 : wq_.cell? ⟨gb356, 6, none⟩ = some (.int .i64 0) := (blk_cell nq0_ 6).trans rfl; have hfzq356_6 := blk_frozen nq0_ 6; have hczq356_7 : wq_.cell? ⟨gb356, 7, none⟩ = some (.int .i64 (wrap64 (50 + t350))) := (blk_cell nq0_ 7).trans rfl; have hfzq356_7 := blk_frozen nq0_ 7; have hczq356_8 : wq_.cell? ⟨gb356, 8, none⟩ = some (.int .i64 t353) := (blk_cell nq0_ 8).trans rfl; have hfzq356_8 := blk_frozen nq0_ 8; have hczq331_0 : wq_.cell? ⟨gb331, 0, none⟩ = some (.string (⟨#[]⟩ : ByteArray)) := (blk_cell nq1_ 0).trans rfl; have hfzq331_0 := blk_frozen nq1_ 0; have hczq331_1 : wq_.cell? ⟨gb331, 1, none⟩ = some (.int .i64 0) := (blk_cell nq1_ 1).trans rfl; have hfzq331_1 := blk_frozen nq1_ 1; have hczq331_2 : wq_.cell? ⟨gb331, 2, none⟩ = some (.int .i64 0) := (blk_cell nq1_ 2).trans rfl; have hfzq331_2 := blk_frozen nq1_ 2; have hczq331_3 : wq_.cell? ⟨gb331, 3, none⟩ = some (.int .i64 0) := (blk_cell nq1_ 3).trans rfl; have hfzq331_3 := blk_frozen nq1_ 3; have hczq331_4 : wq_.cell? ⟨gb331, 4, none⟩ = some (.int .i64 0) := (blk_cell nq1_ 4).trans rfl; have hfzq331_4 := blk_frozen nq1_ 4; have hczq331_5 : wq_.cell? ⟨gb331, 5, none⟩ = some (.int .i64 0) := (blk_cell nq1_ 5).trans rfl; have hfzq331_5 := blk_frozen nq1_ 5; have hczq331_6 : wq_.cell? ⟨gb331, 6, none⟩ = some (.int .i64 0) := (blk_cell nq1_ 6).trans rfl; have hfzq331_6 := blk_frozen nq1_ 6; have hczq331_7 : wq_.cell? ⟨gb331, 7, none⟩ = some (.int .i64 0) := (blk_cell nq1_ 7).trans rfl; have hfzq331_7 := blk_frozen nq1_ 7; have hczq331_8 : wq_.cell? ⟨gb331, 8, none⟩ = some (.int .i64 0) := (blk_cell nq1_ 8).trans rfl; have hfzq331_8 := blk_frozen nq1_ 8))
    have hq_ := HQ_.out; clear HQ_; subst hq_; refine bodyPost_ret (results_cell_row rfl _ _ gb331 61 #[.string a1, .int .i64 t332, .int .i64 t341, .int .i64 (wrap64 (1000 + t344)), .int .i64 t347, .int .i64 1, .int .i64 0, .int .i64 (wrap64 (50 + t350)), .int .i64 t353] (0, 0) _ rfl (bmZ BK331 NB331_356) Try.underlying61 rfl Zm) rfl ?_; exact ⟨Zl, (Zay NB0_331 NB0_356), (Zaz GE331 GE356), (Zba GW331 GW356)⟩
end Go.Proofs.Ytmnnbmdfepogiaa.F
