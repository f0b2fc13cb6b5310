import Derived.Test.YthhijbdekboahaaJFnCueChanges5
import Derived.Below
import Derived.Deep.Draws
import Derived.Deep.AppendLies
import Derived.Maps.AppendAt
import Derived.OwnWalk
import Derived.Laws.BytesArg
import Derived.Laws.MakeOwn
import Derived.Laws.OwnMore
import Derived.Tactics
import Derived.Lib.ConvBytes
import Derived.Laws.Slices
import Derived.WalkKit
import Derived.KernelRfl
import Derived.RowKit3
import Derived.Deep.LoopGhost
import Derived.Deep.QuietTactic
import Derived.BigQuiet
import Derived.WideLaws
import Derived.Deep.DeepCutAuto
import Derived.Deep.CutBlock
import Derived.Deep.RegionHeld3
import Derived.Lib.AppendStr
import Derived.ArgAppend
import Derived.Laws.IdiomCopy
import Derived.RowKit
import Derived.OrdersHeld
import Derived.Laws.BitsLemmas
import Derived.Laws.StructEq
import Derived.Test.YthhijbdekboahaaProg
import Derived.Laws.Cover1
namespace Go.Proofs.Ythhijbdekboahaa.F
open Go.RowKit Go.Proofs.YthhijbdekboahaaW.PrintWords Go.Proofs.YthhijbdekboahaaW.PrintLast Go.Proofs.YthhijbdekboahaaW.PrintMore
attribute [local go_sem] max2_int min2_int max_two min_two max_three min_three max_four min_four
set_option linter.unusedVariables false
set_option linter.unusedSimpArgs false
def spec_CountUsed.l0 : Nat → List Int → Int → List (S104) → List (S62) → List (S39) → Option (List Int × Int)
 | 0, _, _, _, _, _ => none
 | k + 1, x4, x5, x853000, x853001, x853002 => if x5 < (x853002.length : Int) then (if 0 ≤ x5 then ((spec_l03Find.f k x853001 ((rd_T39 x853002 x5).f2)).bind fun t858 => (if 0 ≤ t858 then (if t858 < (x4.length : Int) then (spec_CountUsed.l0 k (x4.set (t858 : Int).toNat (wrap64 ((rd x4 t858) + 1))) (wrap64 (x5 + 1)) x853000 x853001 x853002) else (none)) else (none))) else (none)) else (some (x4, 0))
def spec_CountUsed.f (k : Nat) (l0_0 : List (S104)) (l0_1 : List (S62)) (l0_2 : List (S39)) : Option (List Int × Int) := (spec_IsShow.f k l0_0 l0_1 l0_2).bind fun t853 => (if t853 = true then (if 0 ≤ (l0_1.length : Int) then (if ((l0_1.length : Int) : Int).toNat ≤ 35184372088832 then (spec_CountUsed.l0 k (List.replicate ((l0_1.length : Int) : Int).toNat 0) 0 l0_0 l0_1 l0_2) else (none)) else (none)) else (some (([] : List Int), 1)))
def spec_CountUsed.T7 : Bool × List (List Nat × List Nat) := (true, [([], []), ([], []), ([1], [1]), ([], []), ([3], [3]), ([], []), ([4, 5], [4, 5]), ([6], [6]), ([7], [7]), ([2, 8], [2, 8]), ([0, 9], [0, 9]), ([10], [10]), ([11], [11]), ([0, 9, 0, 1, 2, 3, 4, 5, 6, 7, 8, 9, 10, 11, 12], [0, 9]), ([13, 12, 9, 0, 1, 2, 3, 4, 5, 6, 7, 8, 9, 10, 11, 12], [12, 13])])
def spec_CountUsed.B7 : List Nat := [0, 0, 2, 0, 8, 0, 56, 120, 248, 510, 1023, 2047, 4095, 8191, 16383]
theorem spec_CountUsed.tab7 : rtab .any (opsOf Try.f23 7) = spec_CountUsed.T7 := by kernel_rfl
theorem spec_CountUsed.bits7 : waitsOk spec_CountUsed.T7.2 spec_CountUsed.B7 = true := by kernel_rfl
set_option maxHeartbeats 8000000 in
set_option maxRecDepth 100000 in
theorem spec_CountUsed.calls (k : Nat) (A0_0 : Option Addr) (c0_0 : Nat) (l0_0 : List (S104)) (A0_1 : Option Addr) (c0_1 : Nat) (l0_1 : List (S62)) (A0_2 : Option Addr) (c0_2 : Nat) (l0_2 : List (S39)) (r1 : List Int) (r2 : Int) (w : World) (hr0_0 : Kd.C k104 w A0_0 l0_0.length l0_0) (hc0_0 : l0_0.length ≤ c0_0) (hr0_1 : Kd.C k62 w A0_1 l0_1.length l0_1) (hc0_1 : l0_1.length ≤ c0_1) (hr0_2 : Kd.C k39 w A0_2 l0_2.length l0_2) (hc0_2 : l0_2.length ≤ c0_2) (h : spec_CountUsed.f k l0_0 l0_1 l0_2 = some (r1, r2)) :
  Calls Try.prog 23 #[.agg #[.slice A0_0 l0_0.length c0_0, .slice A0_1 l0_1.length c0_1, .slice A0_2 l0_2.length c0_2]] w fun e w' => ∃ v0_ : Value, e = .returned (.tuple #[v0_, .int .i64 r2]) ∧ Kd.R (Kd.int .i64) 2 w' w.heap.size (fun _ => True) v0_ r1 ∧ Below w.heap.size w w' := by
 have hu28 := Try.underlying28; have HR0_0 := am_ hr0_0; have HC0_0 := am_ hc0_0; clear hr0_0 hc0_0; have HR0_1 := am_ hr0_1; have HC0_1 := am_ hc0_1; clear hr0_1 hc0_1; have HR0_2 := am_ hr0_2; have HC0_2 := am_ hc0_2; clear hr0_2 hc0_2; have HB := am_ (Below.refl w.heap.size w); have H : ((spec_IsShow.f k l0_0 l0_1 l0_2).bind fun t853 => (if t853 = true then (if 0 ≤ (l0_1.length : Int) then (if ((l0_1.length : Int) : Int).toNat ≤ 35184372088832 then (spec_CountUsed.l0 k (List.replicate ((l0_1.length : Int) : Int).toNat 0) 0 l0_0 l0_1 l0_2) else (none)) else (none)) else (some (([] : List Int), 1)))) = some (r1, r2) := h; clear h; replace H := Option.bind_eq_some_iff.mp H; obtain ⟨t853, A20, H⟩ := H; have A2 := am_ A20; clear A20; have HS_ := am_ H; clear H
 go_enter Try.func23, Try.ntmps23
 go_wp2_with (first | ((with_reducible refine gate_dst (N := 1) rfl ?_); refine boxZ 1 #[.slice A0_0 l0_0.length c0_0, .slice A0_1 l0_1.length c0_1, .slice A0_2 l0_2.length c0_2] 28 ?_; intro gb852 hg w6 hbox hb; replace BK852 := am_ (hbox); replace GW852 := am_ ((Zg : w.heap.size ≤ gb852)); replace GE852 := GW852; replace HB := (bsZ Zh hb); clear hb hbox hg; refine ci3 BK852 ?_; intros) | ((with_reducible refine gate_callee (f := 56) rfl ?_); refine gZ 7 Try.func56 #[.agg #[.slice A0_0 l0_0.length c0_0, .slice A0_1 l0_1.length c0_1, .slice A0_2 l0_2.length c0_2]] ?_; (with_reducible refine (spec_IsShow.calls k _ _ l0_0 _ _ l0_1 _ _ l0_2 t853 _ ?_ ?_ ?_ ?_ ?_ ?_ A2.out).mono ?_); exact (Zm HR0_0); exact HC0_0.out; exact (Zm HR0_1); exact HC0_1.out; exact (Zm HR0_2); exact HC0_2.out; rintro e w8 ⟨rfl, hb⟩; refine ⟨_, rfl, ?_⟩; replace BK852 := (bkZ BK852 hb); replace HB := (bsZ (Zj GE852) hb); clear hb; refine ?roundEnd))
 case roundEnd =>
  by_cases c3 : t853 = true
  ·have H := HS_.out
   clear HS_; subst c3
   have H1 : (if 0 ≤ (l0_1.length : Int) then (if ((l0_1.length : Int) : Int).toNat ≤ 35184372088832 then (spec_CountUsed.l0 k (List.replicate ((l0_1.length : Int) : Int).toNat 0) 0 l0_0 l0_1 l0_2) else (none)) else (none)) = some (r1, r2) := by rw [if_pos rfl] at H; exact H
   clear H; have H := H1; clear H1
   by_cases c4 : 0 ≤ (l0_1.length : Int)
   ·rw [if_pos c4] at H
    have c4b0 := eq_true c4; have c4b1 := decide_eq_true c4; clear c4
    by_cases c5 : ((l0_1.length : Int) : Int).toNat ≤ 35184372088832
    ·rw [if_pos c5] at H
     have c5b0 := eq_true c5; have c5b1 := decide_eq_true c5; clear c5; obtain ⟨y854, hy854⟩ : ∃ y_ : List Int, y_ = (List.replicate ((l0_1.length : Int) : Int).toNat 0) := ⟨_, rfl⟩
     (first | (rw [← hy854] at H; with_reducible replace H := bindZ H) | rw [← hy854] at H | skip)
     have Ny854 := am_ hy854; clear hy854; have H' := am_ H; clear H; refine ci3 BK852 ?_; intros
     go_wp2_with (first | ((with_reducible refine gate_dst (N := 12) rfl ?_); refine Kd.R_make (Kd.int .i64) _ 2 rfl (N := 12) rfl 33 _ _ rfl (l0_1.length : Int) rfl rfl Try.underlying33 (.int .i64 0) 8 info2 rfl (by decide) (by omega) 0 (ok := fun _ => True) (okp := fun _ => True) rfl (fun _ hk => hk) trivial (of_decide_eq_true Ze) (Nat.le_trans (Nat.mul_le_mul_right _ (of_decide_eq_true Ze : (l0_1.length : Int).toNat ≤ 35184372088832)) (by omega)) (Below.refl _ _) (Nat.le_refl _) ?_; intro v855 w10 ho11 hb hg_ hnew_; clear hg_ hnew_; (first | rw [← Ny854.out] at ho11 | (simp only [Int.reduceToNat] at ho11; rw [← Ny854.out] at ho11)); replace HO856 := am_ (Kd.R_lower ho11 (below_size (Zj GE852))); replace BK852 := (bkZ BK852 hb); replace HB := (bsZ (Zj GE852) hb); clear hb ho11))
     go_loopg [5] k (fun kq v5 w' => ∃ (x4_1 : List Int) (x5_1 : Int), v5 = .int .i64 x5_1 ∧ Aside0 (spec_CountUsed.l0 kq x4_1 x5_1 l0_0 l0_1 l0_2 = some (r1, r2)) ∧ Aside0 (kq ≤ k) ∧ Aside0 (Kd.R (Kd.int .i64) 2 w' w.heap.size (fun _ => True) v855 x4_1) ∧ Aside0 (w'.heap[gb852]? = some (.cells #[(.slice A0_0 l0_0.length c0_0), (.slice A0_1 l0_1.length c0_1), (.slice A0_2 l0_2.length c0_2)] 28 (0, 0))) ∧ Aside0 (Below w.heap.size w w'))
     case atStart => exact ⟨(y854), (0), Zc, H', ⟨Nat.le_refl _⟩, ⟨(Zt HO856)⟩, ⟨(Zq BK852)⟩, ⟨(Zj GE852)⟩⟩
     case round =>
      clear H'
      try clear c2
      try clear p2
      try clear c3
      try clear c4
      try clear c4b0
      try clear c4b1
      try clear c5
      try clear c5b0
      try clear c5b1
      obtain ⟨x4_1, x5_1, rfl, HA, HK1, HO_4, BK852, HB⟩ := hrel
      cases gk with
      | zero => exact absurd HA.out (by simp [spec_CountUsed.l0])
      | succ k1 =>
       have H := HA.out; clear HA; simp only [spec_CountUsed.l0] at H
       by_cases c12 : x5_1 < (l0_2.length : Int)
       ·rw [if_pos c12] at H
        have c12b0 := decide_eq_true c12; clear c12
        by_cases c13 : 0 ≤ x5_1
        ·rw [if_pos c13] at H
         have c13b0 := decide_eq_true c13; clear c13; replace H := Option.bind_eq_some_iff.mp H; obtain ⟨t858, A140, H⟩ := H; have A14 := am_ A140; clear A140
         by_cases c15 : 0 ≤ t858
         ·rw [if_pos c15] at H
          have c15b0 := decide_eq_true c15; clear c15
          by_cases c16 : t858 < (x4_1.length : Int)
          ·rw [if_pos c16] at H
           have c16b0 := decide_eq_true c16; clear c16; obtain ⟨y860, hy860⟩ : ∃ y_ : List Int, y_ = (x4_1.set (t858 : Int).toNat (wrap64 ((rd x4_1 t858) + 1))) := ⟨_, rfl⟩
           (first | (rw [← hy860] at H; with_reducible replace H := bindZ H) | rw [← hy860] at H | skip)
           have Ny860 := am_ hy860; clear hy860; have H' := am_ H; clear H; refine ci3 BK852 ?_; intros
           try go_wp2
           replace HO_4 := am_ (Kd.R_drew HO_4.out); replace BK852 := am_ (blk_drew BK852.out); replace HB := am_ (below_drew1 HB.out); have p857 : 0 ≤ (x5_1 : Int) := of_decide_eq_true Ze; have q857 : x5_1 < (l0_2.length : Int) := of_decide_eq_true Ze; obtain ⟨ad857, e857, hx857_0, hx857_1, hx857_2, hx857_3⟩ := at_T39 HR0_2.out x5_1 p857 q857; have hw857_3 := hx857_3; have hw857_2 := hx857_2; have hw857_1 := hx857_1; have hw857_0 := hx857_0
           cases e857
           replace hx857_0 := cbH HB hx857_0; replace hx857_1 := cbH HB hx857_1; replace hx857_2 := cbH HB hx857_2; replace hx857_3 := cbH HB hx857_3; replace p857 := eq_true p857; replace q857 := eq_true q857; obtain ⟨Aoz859, coz859, eoz859⟩ := Kd.R_slice HO_4.out; subst eoz859; have p859 : 0 ≤ (t858 : Int) := of_decide_eq_true Ze; have q859 : t858 < (x4_1.length : Int) := of_decide_eq_true Ze; obtain ⟨ad859, e859, hx859_0⟩ := Kd.at_int (Kd.R_reads' HO_4.out).2.2 t858 p859 q859
           cases e859
           replace p859 := eq_true p859; replace q859 := eq_true q859; refine start_ (n := 15) (S := fun w' => w'.cell? ⟨gb852, 0, none⟩ = some (.slice A0_0 l0_0.length c0_0) ∧ w'.cell? ⟨gb852, 1, none⟩ = some (.slice A0_1 l0_1.length c0_1) ∧ w'.cell? ⟨gb852, 2, none⟩ = some (.slice (some ad857) l0_2.length c0_2) ∧ w'.cell? (ad857.add ((x5_1).toNat * 4)) = some (.int .i64 ((rd_T39 l0_2 x5_1).f0)) ∧ w'.cell? ⟨(ad857.add ((x5_1).toNat * 4)).block, (ad857.add ((x5_1).toNat * 4)).off + 1, none⟩ = some (.int .i64 ((rd_T39 l0_2 x5_1).f1)) ∧ w'.cell? ⟨(ad857.add ((x5_1).toNat * 4)).block, (ad857.add ((x5_1).toNat * 4)).off + 2, none⟩ = some (.string ((rd_T39 l0_2 x5_1).f2)) ∧ w'.cell? ⟨(ad857.add ((x5_1).toNat * 4)).block, (ad857.add ((x5_1).toNat * 4)).off + 3, none⟩ = some (.int .i64 ((rd_T39 l0_2 x5_1).f3)) ∧ w'.cell? (ad859.add (t858).toNat) = some (.int .i64 (rd x4_1 t858))) (ds := [14]) (bT 15 0) Za rfl rfl ⟨(blk_cell BK852.out 0).trans rfl, (blk_cell BK852.out 1).trans rfl, (blk_cell BK852.out 2).trans rfl, (cbH HB hw857_0 :), (cbH HB hw857_1 :), (cbH HB hw857_2 :), (cbH HB hw857_3 :), hx859_0⟩ (fun hHeld => ?_); refine with_tabW spec_CountUsed.tab7 spec_CountUsed.bits7 (fun HT_ HW_ => ?_); generalize wr.drew = w19 at HO_4 BK852 HB hx857_0 hx857_1 hx857_2 hx857_3 hx859_0 hHeld ⊢; refine pureZ HT_ 0 (some 20) (bT 15 1) ?_; refine pureZ HT_ 1 (some 21) (bT 15 2) ?_; refine pureZ HT_ 3 (some 23) (bB 15 11) ?_; refine pureZ HT_ 5 (some 25) (bB 15 43) ?_; refine take_ (i := 2) (N := some 22) (v := ?_) (a' := ?_) (bB 15 47) rfl rfl (take_ofW HT_.out HW_.out Za) (fun _ _ _ h => h) (Or.inl ⟨by rfl, ?_⟩) hHeld ?_ ?_; rotate_left
           ·rintro w' ⟨s0, s1, s2, s3, s4, s5, s6, s7⟩
            (try simp only [add_plain] at s7)
            go_simp
            with_reducible rfl
           rotate_left
           ·exact Zput
           refine take_ (i := 4) (N := some 24) (v := ?_) (a' := ?_) (bT 15 6) rfl rfl (take_ofW HT_.out HW_.out Za) (fun _ _ _ h => h) (Or.inl ⟨by rfl, ?_⟩) hHeld ?_ ?_; rotate_left
           ·rintro w' ⟨s0, s1, s2, s3, s4, s5, s6, s7⟩
            (try simp only [add_plain] at s7)
            go_simp
            with_reducible rfl
           rotate_left
           ·exact Zput
           refine pureZ HT_ 6 (some 26) (bT 15 7) ?_; refine pureZ HT_ 7 (some 27) (bT 15 8) ?_; refine take_ (i := 8) (N := some 28) (v := ?_) (a' := ?_) (bT 15 9) rfl rfl (take_ofW HT_.out HW_.out Za) (fun _ _ _ h => h) (Or.inl ⟨by rfl, ?_⟩) hHeld ?_ ?_; rotate_left
           ·rintro w' ⟨s0, s1, s2, s3, s4, s5, s6, s7⟩
            (try simp only [add_plain] at s7)
            go_simp
            with_reducible rfl
           rotate_left
           ·exact Zput
           refine one_ (i := 9) (N := some 29) (bT 15 10) rfl rfl (one_of HT_.out Za) (by decide) (fun K hK => ?_); refine goes_ Try.func64 Za rfl #[.slice A0_1 l0_1.length c0_1, .string ((rd_T39 l0_2 x5_1).f2)] (by rfl) rfl rfl Zk ?_
           with_reducible refine (spec_l03Find.calls k1 _ _ l0_1 ((rd_T39 l0_2 x5_1).f2) t858 _ ?side1 ?side2 A14.out).mono ?_
           (case side1 => exact (Zm HR0_1))
           (case side2 => exact HC0_1.out)
           rintro e w' ⟨rfl, ⟨nd, rfl⟩⟩; refine ⟨_, rfl, ?_⟩; obtain ⟨Ao20, co20, eo20⟩ := Kd.R_slice HO_4.out
           (first | subst eo20 | (injection eo20 with f1_ f2_ f3_; have f4_ := f1_.symm; have f5_ := f3_.symm; clear f1_ f2_ f3_; subst f4_; subst f5_))
           have p17 : 0 ≤ (t858 : Int) := of_decide_eq_true Ze; have q17 : (t858 : Int) < ((x4_1.length : Int) : Int) := of_decide_eq_true Ze; obtain ⟨go17, co17, eo17, gb17, gl17, cl17, HG17⟩ := Kd.R_form HO_4.out (by omega)
           (first | cases eo17 | (injection eo17 with ea_ en_ ec_; (first | subst ea_ | (injection ea_ with ea_; subst ea_)); subst ec_; clear en_))
           have GB17 := am_ gb17; have GG17 := am_ HG17; clear gb17 gl17 HG17
           (first | simp only [add_plain] at hx859_0 | skip)
           obtain ⟨hx17_0, hf17_0⟩ := Kd.R_celln 0 HO_4.out (t858 : Int) p17 q17; replace p17 := eq_true p17; replace q17 := eq_true q17; have HP21 := Kd.R_putn HO_4.out (t858 : Int) (wrap64 ((rd x4_1 t858) + 1)); rw [← Ny860.out] at HP21; have HQ21 := am_ HP21; clear HP21; refine hK.out _ _ (by exact ⟨(blk_cell BK852.out 0).trans rfl, (blk_cell BK852.out 1).trans rfl, (blk_cell BK852.out 2).trans rfl, (cbH HB hw857_0 :), (cbH HB hw857_1 :), (cbH HB hw857_2 :), (cbH HB hw857_3 :), hHeld.2.2.2.2.2.2.2⟩) (fun hHeld => ?_); clear hK K; refine normZ 29 ?_; refine pureZ HT_ 10 (some 30) (bT 15 11) ?_; refine take_ (i := 11) (N := some 31) (v := ?_) (a' := ?_) (bT 15 12) rfl rfl (take_ofW HT_.out HW_.out Za) (fun _ _ _ h => h) (Or.inl ⟨by rfl, ?_⟩) hHeld ?_ ?_; rotate_left
           ·rintro w' ⟨s0, s1, s2, s3, s4, s5, s6, s7⟩
            (try simp only [add_plain] at s7)
            go_simp
            with_reducible rfl
           rotate_left
           ·exact Zput
           refine pureZ HT_ 12 (some 32) (bT 15 13) ?_; refine pureZ HT_ 13 (some 33) (bT 15 14) ?_; refine last_ (i := 14) (N := none) (bT 15 15) rfl rfl (one_of HT_.out Za) (by decide) (fun K hK => ?_); refine skip_ (w1 := ?_) (by rfl) rfl ?_ ?_; rotate_left
           ·go_simp
            rfl
           refine hK.out _ _ ?_; clear hK K; refine done_ (done_of HT_.out Za) ?_
           try go_wp2
           go_roundg k1
           case measure => have := HK1.out; omega
           case rel => exact ⟨(y860), (wrap64 (x5_1 + 1)), Zc, H', ⟨Zf⟩, ⟨by (with_reducible repeat (first | apply Kd.R_alloc | apply Kd.R_drewN | apply Kd.R_drew)); exact HQ21.out⟩, ⟨by (with_reducible repeat (first | refine blk_drewN ?_ _ | refine blk_drew ?_ | refine blk_alloc ?_ _)); refine blk_far ?_ (by have h_ := Kd.R_ne HO_4.out BK852.out (by decide); intro e_; exact h_ (by rw [e_]; rfl)) _; (with_reducible repeat (first | refine blk_drewN ?_ _ | refine blk_drew ?_ | refine blk_alloc ?_ _)); exact BK852.out⟩, ⟨(Zo GB17 GE852)⟩⟩
          ·rw [if_neg c16] at H
           exact absurd H (by simp)
         ·rw [if_neg c15] at H
          exact absurd H (by simp)
        ·rw [if_neg c13] at H
         exact absurd H (by simp)
       ·rw [if_neg c12] at H
        have c12b0 := decide_eq_false c12; clear c12; simp only [Option.some.injEq, Prod.mk.injEq] at H; obtain ⟨rfl, rfl⟩ := H; refine ci3 BK852 ?_; intros
        go_wp2
        go_ret2
        exact ⟨_, Zi, (Zt HO_4), (Zj GE852)⟩
    ·rw [if_neg c5] at H
     exact absurd H (by simp)
   ·rw [if_neg c4] at H
    exact absurd H (by simp)
  ·have H := HS_.out
   clear HS_; replace c3 := Bool.eq_false_iff.mpr c3; subst c3
   have H1 : (some (([] : List Int), 1)) = some (r1, r2) := by rw [if_neg (show ¬ (false = true) by decide)] at H; exact H
   clear H; have H := H1; clear H1; simp only [Option.some.injEq, Prod.mk.injEq] at H; obtain ⟨rfl, rfl⟩ := H
   go_wp2_with (first | fail)
   go_ret2
   exact ⟨_, Zi, Zab, (Zj GE852)⟩
theorem eqA104 (d : Nat) (w : World) (x0 y0 : Int) (x1 y1 : Int) :
  (Op.equalIn (d + 2) 104 (.agg #[.int .i64 x0, .int .i64 x1]) (.agg #[.int .i64 y0, .int .i64 y1])).run Try.prog w = .ok (x0 == y0 && (x1 == y1)) w := by
 refine eqA_of Try.underlying104 Za ?_; refine eqf_cons (by rfl) Zb Zb (by go_simp) ?_; exact eqf_last (by rfl) Zb Zb (by go_simp)
end Go.Proofs.Ythhijbdekboahaa.F
namespace Go.Proofs.Ythhijbdekboahaa.F
open Go.RowKit Go.Proofs.YthhijbdekboahaaW.PrintWords Go.Proofs.YthhijbdekboahaaW.PrintLast Go.Proofs.YthhijbdekboahaaW.PrintMore
attribute [local go_sem] max2_int min2_int max_two min_two max_three min_three max_four min_four
set_option linter.unusedVariables false
set_option linter.unusedSimpArgs false
attribute [local go_sem high] eqA104
def laws_likeBars.l0 : Nat → List (S104) → List (S104) → Int → Option (Bool)
 | 0, _, _, _ => none
 | k + 1, x0, x1, x5 => if x5 < (x0.length : Int) then (if 0 ≤ x5 then (if x5 < (x1.length : Int) then (if (!(((rd_T104 x0 x5).f0) == ((rd_T104 x1 x5).f0)) || (!(((rd_T104 x0 x5).f1) == ((rd_T104 x1 x5).f1)))) = true then (some false) else (laws_likeBars.l0 k x0 x1 (wrap64 (x5 + 1)))) else (none)) else (none)) else (some true)
def laws_likeBars.f (k : Nat) (l0 : List (S104)) (l1 : List (S104)) : Option (Bool) := if (l0.length : Int) = (l1.length : Int) then (laws_likeBars.l0 k l0 l1 0) else (some false)
set_option maxHeartbeats 8000000 in
set_option maxRecDepth 100000 in
theorem laws_likeBars.calls (k : Nat) (A0 : Option Addr) (c0 : Nat) (l0 : List (S104)) (A1 : Option Addr) (c1 : Nat) (l1 : List (S104)) (r : Bool) (w : World) (hr0 : Kd.C k104 w A0 l0.length l0) (hc0 : l0.length ≤ c0) (hr1 : Kd.C k104 w A1 l1.length l1) (hc1 : l1.length ≤ c1) (h : laws_likeBars.f k l0 l1 = some r) :
  Calls Try.prog 65 #[.slice A0 l0.length c0, .slice A1 l1.length c1] w fun e w' => e = .returned (.bool r) ∧ Drawn0 w w' := by
 have hu104 := Try.underlying104; have HR0 := am_ hr0; have HC0 := am_ hc0; clear hr0 hc0; have HR1 := am_ hr1; have HC1 := am_ hc1; clear hr1 hc1; have H : (if (l0.length : Int) = (l1.length : Int) then (laws_likeBars.l0 k l0 l1 0) else (some false)) = some r := h; clear h
 by_cases c3 : (l0.length : Int) = (l1.length : Int)
 ·rw [if_pos c3] at H
  have c3b0 := beq_iff_eq.mpr c3; have c3b1 := bne_eq_false_iff_eq.mpr c3
  have c3b2 : (l0.length == l1.length) = true := by first | simpa using c3 | (simp at c3 ⊢; omega)
  clear c3; have H' := am_ H; clear H
  go_enter Try.func65, Try.ntmps65
  go_wp2
  repeat (go_quiet (fail); try go_wp2)
  go_loopg [5] k (fun kq v5 w' => ∃ (x5_1 : Int), v5 = .int .i64 x5_1 ∧ Aside0 (laws_likeBars.l0 kq l0 l1 x5_1 = some r) ∧ Aside0 (kq ≤ k) ∧ Drawn0 w w')
  case atStart => exact ⟨(0), Zc, H', ⟨Nat.le_refl _⟩, Zd⟩
  case round =>
   clear H'
   try clear c1
   try clear p2
   try clear c3
   try clear c3b0
   try clear c3b1
   try clear c3b2
   obtain ⟨x5_1, rfl, HA, HK1, ⟨m1, rfl⟩⟩ := hrel
   cases gk with
   | zero => exact absurd HA.out (by simp [laws_likeBars.l0])
   | succ k1 =>
    have H := HA.out; clear HA; simp only [laws_likeBars.l0] at H
    by_cases c4 : x5_1 < (l0.length : Int)
    ·rw [if_pos c4] at H
     have c4b0 := decide_eq_true c4; clear c4
     by_cases c5 : 0 ≤ x5_1
     ·rw [if_pos c5] at H
      have c5b0 := decide_eq_true c5; clear c5
      by_cases c6 : x5_1 < (l1.length : Int)
      ·rw [if_pos c6] at H
       have c6b0 := decide_eq_true c6; clear c6
       by_cases c7 : (!(((rd_T104 l0 x5_1).f0) == ((rd_T104 l1 x5_1).f0)) || (!(((rd_T104 l0 x5_1).f1) == ((rd_T104 l1 x5_1).f1)))) = true
       ·rw [if_pos c7] at H
        have c7b0 : (!(((rd_T104 l0 x5_1).f0) == ((rd_T104 l1 x5_1).f0)) || (!(((rd_T104 l0 x5_1).f1) == ((rd_T104 l1 x5_1).f1)))) = true := c7; clear c7; obtain rfl := Option.some.inj H; have p861 : 0 ≤ (x5_1 : Int) := of_decide_eq_true Ze; have q861 : x5_1 < (l0.length : Int) := of_decide_eq_true Ze; obtain ⟨ad861, e861, hx861_0, hx861_1⟩ := at_T104 HR0.out x5_1 p861 q861
        cases e861
        replace p861 := eq_true p861; replace q861 := eq_true q861; have p862 : 0 ≤ (x5_1 : Int) := of_decide_eq_true Ze; have q862 : x5_1 < (l1.length : Int) := of_decide_eq_true Ze; obtain ⟨ad862, e862, hx862_0, hx862_1⟩ := at_T104 HR1.out x5_1 p862 q862
        cases e862
        replace p862 := eq_true p862; replace q862 := eq_true q862
        go_wp2
        repeat (go_quiet (fail); try go_wp2)
        go_ret
        exact ⟨Zc, Zd⟩
       ·rw [if_neg c7] at H
        have c7b0 : (!(((rd_T104 l0 x5_1).f0) == ((rd_T104 l1 x5_1).f0)) || (!(((rd_T104 l0 x5_1).f1) == ((rd_T104 l1 x5_1).f1)))) = false := by simpa using c7
        clear c7; have H' := am_ H; clear H; have p861 : 0 ≤ (x5_1 : Int) := of_decide_eq_true Ze; have q861 : x5_1 < (l0.length : Int) := of_decide_eq_true Ze; obtain ⟨ad861, e861, hx861_0, hx861_1⟩ := at_T104 HR0.out x5_1 p861 q861
        cases e861
        replace p861 := eq_true p861; replace q861 := eq_true q861; have p862 : 0 ≤ (x5_1 : Int) := of_decide_eq_true Ze; have q862 : x5_1 < (l1.length : Int) := of_decide_eq_true Ze; obtain ⟨ad862, e862, hx862_0, hx862_1⟩ := at_T104 HR1.out x5_1 p862 q862
        cases e862
        replace p862 := eq_true p862; replace q862 := eq_true q862
        go_wp2
        repeat (go_quiet (fail); try go_wp2)
        go_roundg k1
        case measure => have := HK1.out; omega
        case rel => exact ⟨(wrap64 (x5_1 + 1)), Zc, H', ⟨Zf⟩, Zd⟩
      ·rw [if_neg c6] at H
       exact absurd H (by simp)
     ·rw [if_neg c5] at H
      exact absurd H (by simp)
    ·rw [if_neg c4] at H
     have c4b0 := decide_eq_false c4; clear c4; obtain rfl := Option.some.inj H
     go_wp2
     repeat (go_quiet (fail); try go_wp2)
     go_ret
     exact ⟨Zc, Zd⟩
 ·rw [if_neg c3] at H
  have c3b0 := beq_eq_false_iff_ne.mpr c3; have c3b1 := bne_iff_ne.mpr c3
  have c3b2 : (l0.length == l1.length) = false := by first | simpa using c3 | (simp at c3 ⊢; omega)
  obtain rfl := Option.some.inj H
  go_enter Try.func65, Try.ntmps65
  go_wp2
  repeat (go_quiet (fail); try go_wp2)
  go_ret
  exact ⟨Zc, Zd⟩
end Go.Proofs.Ythhijbdekboahaa.F
namespace Go.Proofs.Ythhijbdekboahaa.F
open Go.RowKit Go.Proofs.YthhijbdekboahaaW.PrintWords Go.Proofs.YthhijbdekboahaaW.PrintLast Go.Proofs.YthhijbdekboahaaW.PrintMore
attribute [local go_sem] max2_int min2_int max_two min_two max_three min_three max_four min_four
set_option linter.unusedVariables false
set_option linter.unusedSimpArgs false
theorem eqA62 (d : Nat) (w : World) (x0 y0 : ByteArray) (x1 y1 : Int) (x2 y2 : Int) (x3 y3 : Int) (x4 y4 : Int) (x5 y5 : Int) (x6 y6 : Int) (x7 y7 : Int) (x8 y8 : Int) :
  (Op.equalIn (d + 2) 62 (.agg #[.string x0, .int .i64 x1, .int .i64 x2, .int .i64 x3, .int .i64 x4, .int .i64 x5, .int .i64 x6, .int .i64 x7, .int .i64 x8]) (.agg #[.string y0, .int .i64 y1, .int .i64 y2, .int .i64 y3, .int .i64 y4, .int .i64 y5, .int .i64 y6, .int .i64 y7, .int .i64 y8])).run Try.prog w = .ok (x0.toList == y0.toList && (x1 == y1 && (x2 == y2 && (x3 == y3 && (x4 == y4 && (x5 == y5 && (x6 == y6 && (x7 == y7 && (x8 == y8))))))))) w := by
 refine eqA_of Try.underlying62 Za ?_; refine eqf_cons (by rfl) Zb Zb (by go_simp) ?_; refine eqf_cons (by rfl) Zb Zb (by go_simp) ?_; refine eqf_cons (by rfl) Zb Zb (by go_simp) ?_; refine eqf_cons (by rfl) Zb Zb (by go_simp) ?_; refine eqf_cons (by rfl) Zb Zb (by go_simp) ?_; refine eqf_cons (by rfl) Zb Zb (by go_simp) ?_; refine eqf_cons (by rfl) Zb Zb (by go_simp) ?_; refine eqf_cons (by rfl) Zb Zb (by go_simp) ?_; exact eqf_last (by rfl) Zb Zb (by go_simp)
end Go.Proofs.Ythhijbdekboahaa.F
namespace Go.Proofs.Ythhijbdekboahaa.F
open Go.RowKit Go.Proofs.YthhijbdekboahaaW.PrintWords Go.Proofs.YthhijbdekboahaaW.PrintLast Go.Proofs.YthhijbdekboahaaW.PrintMore
attribute [local go_sem] max2_int min2_int max_two min_two max_three min_three max_four min_four
set_option linter.unusedVariables false
set_option linter.unusedSimpArgs false
attribute [local go_sem high] eqA62
def laws_likeArticles.l0 : Nat → List (S62) → List (S62) → Int → Option (Bool)
 | 0, _, _, _ => none
 | k + 1, x0, x1, x5 => if x5 < (x0.length : Int) then (if 0 ≤ x5 then (if x5 < (x1.length : Int) then (if (!((((rd_T62 x0 x5).f0).toList) == (((rd_T62 x1 x5).f0).toList)) || (!(((rd_T62 x0 x5).f1) == ((rd_T62 x1 x5).f1)) || (!(((rd_T62 x0 x5).f2) == ((rd_T62 x1 x5).f2)) || (!(((rd_T62 x0 x5).f3) == ((rd_T62 x1 x5).f3)) || (!(((rd_T62 x0 x5).f4) == ((rd_T62 x1 x5).f4)) || (!(((rd_T62 x0 x5).f5) == ((rd_T62 x1 x5).f5)) || (!(((rd_T62 x0 x5).f6) == ((rd_T62 x1 x5).f6)) || (!(((rd_T62 x0 x5).f7) == ((rd_T62 x1 x5).f7)) || (!(((rd_T62 x0 x5).f8) == ((rd_T62 x1 x5).f8))))))))))) = true then (some false) else (laws_likeArticles.l0 k x0 x1 (wrap64 (x5 + 1)))) else (none)) else (none)) else (some true)
def laws_likeArticles.f (k : Nat) (l0 : List (S62)) (l1 : List (S62)) : Option (Bool) := if (l0.length : Int) = (l1.length : Int) then (laws_likeArticles.l0 k l0 l1 0) else (some false)
set_option maxHeartbeats 8000000 in
set_option maxRecDepth 100000 in
theorem laws_likeArticles.calls (k : Nat) (A0 : Option Addr) (c0 : Nat) (l0 : List (S62)) (A1 : Option Addr) (c1 : Nat) (l1 : List (S62)) (r : Bool) (w : World) (hr0 : Kd.C k62 w A0 l0.length l0) (hc0 : l0.length ≤ c0) (hr1 : Kd.C k62 w A1 l1.length l1) (hc1 : l1.length ≤ c1) (h : laws_likeArticles.f k l0 l1 = some r) :
  Calls Try.prog 66 #[.slice A0 l0.length c0, .slice A1 l1.length c1] w fun e w' => e = .returned (.bool r) ∧ Drawn0 w w' := by
 have hu62 := Try.underlying62; have HR0 := am_ hr0; have HC0 := am_ hc0; clear hr0 hc0; have HR1 := am_ hr1; have HC1 := am_ hc1; clear hr1 hc1; have H : (if (l0.length : Int) = (l1.length : Int) then (laws_likeArticles.l0 k l0 l1 0) else (some false)) = some r := h; clear h
 by_cases c3 : (l0.length : Int) = (l1.length : Int)
 ·rw [if_pos c3] at H
  have c3b0 := beq_iff_eq.mpr c3; have c3b1 := bne_eq_false_iff_eq.mpr c3
  have c3b2 : (l0.length == l1.length) = true := by first | simpa using c3 | (simp at c3 ⊢; omega)
  clear c3; have H' := am_ H; clear H
  go_enter Try.func66, Try.ntmps66
  go_wp2
  repeat (go_quiet (fail); try go_wp2)
  go_loopg [5] k (fun kq v5 w' => ∃ (x5_1 : Int), v5 = .int .i64 x5_1 ∧ Aside0 (laws_likeArticles.l0 kq l0 l1 x5_1 = some r) ∧ Aside0 (kq ≤ k) ∧ Drawn0 w w')
  case atStart => exact ⟨(0), Zc, H', ⟨Nat.le_refl _⟩, Zd⟩
  case round =>
   clear H'
   try clear c1
   try clear p2
   try clear c3
   try clear c3b0
   try clear c3b1
   try clear c3b2
   obtain ⟨x5_1, rfl, HA, HK1, ⟨m1, rfl⟩⟩ := hrel
   cases gk with
   | zero => exact absurd HA.out (by simp [laws_likeArticles.l0])
   | succ k1 =>
    have H := HA.out; clear HA; simp only [laws_likeArticles.l0] at H
    by_cases c4 : x5_1 < (l0.length : Int)
    ·rw [if_pos c4] at H
     have c4b0 := decide_eq_true c4; clear c4
     by_cases c5 : 0 ≤ x5_1
     ·rw [if_pos c5] at H
      have c5b0 := decide_eq_true c5; clear c5
      by_cases c6 : x5_1 < (l1.length : Int)
      ·rw [if_pos c6] at H
       have c6b0 := decide_eq_true c6; clear c6
       by_cases c7 : (!((((rd_T62 l0 x5_1).f0).toList) == (((rd_T62 l1 x5_1).f0).toList)) || (!(((rd_T62 l0 x5_1).f1) == ((rd_T62 l1 x5_1).f1)) || (!(((rd_T62 l0 x5_1).f2) == ((rd_T62 l1 x5_1).f2)) || (!(((rd_T62 l0 x5_1).f3) == ((rd_T62 l1 x5_1).f3)) || (!(((rd_T62 l0 x5_1).f4) == ((rd_T62 l1 x5_1).f4)) || (!(((rd_T62 l0 x5_1).f5) == ((rd_T62 l1 x5_1).f5)) || (!(((rd_T62 l0 x5_1).f6) == ((rd_T62 l1 x5_1).f6)) || (!(((rd_T62 l0 x5_1).f7) == ((rd_T62 l1 x5_1).f7)) || (!(((rd_T62 l0 x5_1).f8) == ((rd_T62 l1 x5_1).f8))))))))))) = true
       ·rw [if_pos c7] at H
        have c7b0 : (!((((rd_T62 l0 x5_1).f0).toList) == (((rd_T62 l1 x5_1).f0).toList)) || (!(((rd_T62 l0 x5_1).f1) == ((rd_T62 l1 x5_1).f1)) || (!(((rd_T62 l0 x5_1).f2) == ((rd_T62 l1 x5_1).f2)) || (!(((rd_T62 l0 x5_1).f3) == ((rd_T62 l1 x5_1).f3)) || (!(((rd_T62 l0 x5_1).f4) == ((rd_T62 l1 x5_1).f4)) || (!(((rd_T62 l0 x5_1).f5) == ((rd_T62 l1 x5_1).f5)) || (!(((rd_T62 l0 x5_1).f6) == ((rd_T62 l1 x5_1).f6)) || (!(((rd_T62 l0 x5_1).f7) == ((rd_T62 l1 x5_1).f7)) || (!(((rd_T62 l0 x5_1).f8) == ((rd_T62 l1 x5_1).f8))))))))))) = true := c7; clear c7; obtain rfl := Option.some.inj H; have p863 : 0 ≤ (x5_1 : Int) := of_decide_eq_true Ze; have q863 : x5_1 < (l0.length : Int) := of_decide_eq_true Ze; obtain ⟨ad863, e863, hx863_0, hx863_1, hx863_2, hx863_3, hx863_4, hx863_5, hx863_6, hx863_7, hx863_8⟩ := at_T62 HR0.out x5_1 p863 q863
        cases e863
        replace p863 := eq_true p863; replace q863 := eq_true q863; have p864 : 0 ≤ (x5_1 : Int) := of_decide_eq_true Ze; have q864 : x5_1 < (l1.length : Int) := of_decide_eq_true Ze; obtain ⟨ad864, e864, hx864_0, hx864_1, hx864_2, hx864_3, hx864_4, hx864_5, hx864_6, hx864_7, hx864_8⟩ := at_T62 HR1.out x5_1 p864 q864
        cases e864
        replace p864 := eq_true p864; replace q864 := eq_true q864
        go_wp2
        repeat (go_quiet (fail); try go_wp2)
        go_ret
        exact ⟨Zc, Zd⟩
       ·rw [if_neg c7] at H
        have c7b0 : (!((((rd_T62 l0 x5_1).f0).toList) == (((rd_T62 l1 x5_1).f0).toList)) || (!(((rd_T62 l0 x5_1).f1) == ((rd_T62 l1 x5_1).f1)) || (!(((rd_T62 l0 x5_1).f2) == ((rd_T62 l1 x5_1).f2)) || (!(((rd_T62 l0 x5_1).f3) == ((rd_T62 l1 x5_1).f3)) || (!(((rd_T62 l0 x5_1).f4) == ((rd_T62 l1 x5_1).f4)) || (!(((rd_T62 l0 x5_1).f5) == ((rd_T62 l1 x5_1).f5)) || (!(((rd_T62 l0 x5_1).f6) == ((rd_T62 l1 x5_1).f6)) || (!(((rd_T62 l0 x5_1).f7) == ((rd_T62 l1 x5_1).f7)) || (!(((rd_T62 l0 x5_1).f8) == ((rd_T62 l1 x5_1).f8))))))))))) = false := by simpa using c7
        clear c7; have H' := am_ H; clear H; have p863 : 0 ≤ (x5_1 : Int) := of_decide_eq_true Ze; have q863 : x5_1 < (l0.length : Int) := of_decide_eq_true Ze; obtain ⟨ad863, e863, hx863_0, hx863_1, hx863_2, hx863_3, hx863_4, hx863_5, hx863_6, hx863_7, hx863_8⟩ := at_T62 HR0.out x5_1 p863 q863
        cases e863
        replace p863 := eq_true p863; replace q863 := eq_true q863; have p864 : 0 ≤ (x5_1 : Int) := of_decide_eq_true Ze; have q864 : x5_1 < (l1.length : Int) := of_decide_eq_true Ze; obtain ⟨ad864, e864, hx864_0, hx864_1, hx864_2, hx864_3, hx864_4, hx864_5, hx864_6, hx864_7, hx864_8⟩ := at_T62 HR1.out x5_1 p864 q864
        cases e864
        replace p864 := eq_true p864; replace q864 := eq_true q864
        go_wp2
        repeat (go_quiet (fail); try go_wp2)
        go_roundg k1
        case measure => have := HK1.out; omega
        case rel => exact ⟨(wrap64 (x5_1 + 1)), Zc, H', ⟨Zf⟩, Zd⟩
      ·rw [if_neg c6] at H
       exact absurd H (by simp)
     ·rw [if_neg c5] at H
      exact absurd H (by simp)
    ·rw [if_neg c4] at H
     have c4b0 := decide_eq_false c4; clear c4; obtain rfl := Option.some.inj H
     go_wp2
     repeat (go_quiet (fail); try go_wp2)
     go_ret
     exact ⟨Zc, Zd⟩
 ·rw [if_neg c3] at H
  have c3b0 := beq_eq_false_iff_ne.mpr c3; have c3b1 := bne_iff_ne.mpr c3
  have c3b2 : (l0.length == l1.length) = false := by first | simpa using c3 | (simp at c3 ⊢; omega)
  obtain rfl := Option.some.inj H
  go_enter Try.func66, Try.ntmps66
  go_wp2
  repeat (go_quiet (fail); try go_wp2)
  go_ret
  exact ⟨Zc, Zd⟩
end Go.Proofs.Ythhijbdekboahaa.F
namespace Go.Proofs.Ythhijbdekboahaa.F
open Go.RowKit Go.Proofs.YthhijbdekboahaaW.PrintWords Go.Proofs.YthhijbdekboahaaW.PrintLast Go.Proofs.YthhijbdekboahaaW.PrintMore
attribute [local go_sem] max2_int min2_int max_two min_two max_three min_three max_four min_four
set_option linter.unusedVariables false
set_option linter.unusedSimpArgs false
attribute [local go_sem high] eqA39
def laws_likeCues.l0 : Nat → List (S39) → List (S39) → Int → Option (Bool)
 | 0, _, _, _ => none
 | k + 1, x0, x1, x5 => if x5 < (x0.length : Int) then (if 0 ≤ x5 then (if x5 < (x1.length : Int) then (if (!(((rd_T39 x0 x5).f0) == ((rd_T39 x1 x5).f0)) || (!(((rd_T39 x0 x5).f1) == ((rd_T39 x1 x5).f1)) || (!((((rd_T39 x0 x5).f2).toList) == (((rd_T39 x1 x5).f2).toList)) || (!(((rd_T39 x0 x5).f3) == ((rd_T39 x1 x5).f3)))))) = true then (some false) else (laws_likeCues.l0 k x0 x1 (wrap64 (x5 + 1)))) else (none)) else (none)) else (some true)
def laws_likeCues.f (k : Nat) (l0 : List (S39)) (l1 : List (S39)) : Option (Bool) := if (l0.length : Int) = (l1.length : Int) then (laws_likeCues.l0 k l0 l1 0) else (some false)
set_option maxHeartbeats 8000000 in
set_option maxRecDepth 100000 in
theorem laws_likeCues.calls (k : Nat) (A0 : Option Addr) (c0 : Nat) (l0 : List (S39)) (A1 : Option Addr) (c1 : Nat) (l1 : List (S39)) (r : Bool) (w : World) (hr0 : Kd.C k39 w A0 l0.length l0) (hc0 : l0.length ≤ c0) (hr1 : Kd.C k39 w A1 l1.length l1) (hc1 : l1.length ≤ c1) (h : laws_likeCues.f k l0 l1 = some r) :
  Calls Try.prog 67 #[.slice A0 l0.length c0, .slice A1 l1.length c1] w fun e w' => e = .returned (.bool r) ∧ Drawn0 w w' := by
 have hu39 := Try.underlying39; have HR0 := am_ hr0; have HC0 := am_ hc0; clear hr0 hc0; have HR1 := am_ hr1; have HC1 := am_ hc1; clear hr1 hc1; have H : (if (l0.length : Int) = (l1.length : Int) then (laws_likeCues.l0 k l0 l1 0) else (some false)) = some r := h; clear h
 by_cases c3 : (l0.length : Int) = (l1.length : Int)
 ·rw [if_pos c3] at H
  have c3b0 := beq_iff_eq.mpr c3; have c3b1 := bne_eq_false_iff_eq.mpr c3
  have c3b2 : (l0.length == l1.length) = true := by first | simpa using c3 | (simp at c3 ⊢; omega)
  clear c3; have H' := am_ H; clear H
  go_enter Try.func67, Try.ntmps67
  go_wp2
  repeat (go_quiet (fail); try go_wp2)
  go_loopg [5] k (fun kq v5 w' => ∃ (x5_1 : Int), v5 = .int .i64 x5_1 ∧ Aside0 (laws_likeCues.l0 kq l0 l1 x5_1 = some r) ∧ Aside0 (kq ≤ k) ∧ Drawn0 w w')
  case atStart => exact ⟨(0), Zc, H', ⟨Nat.le_refl _⟩, Zd⟩
  case round =>
   clear H'
   try clear c1
   try clear p2
   try clear c3
   try clear c3b0
   try clear c3b1
   try clear c3b2
   obtain ⟨x5_1, rfl, HA, HK1, ⟨m1, rfl⟩⟩ := hrel
   cases gk with
   | zero => exact absurd HA.out (by simp [laws_likeCues.l0])
   | succ k1 =>
    have H := HA.out; clear HA; simp only [laws_likeCues.l0] at H
    by_cases c4 : x5_1 < (l0.length : Int)
    ·rw [if_pos c4] at H
     have c4b0 := decide_eq_true c4; clear c4
     by_cases c5 : 0 ≤ x5_1
     ·rw [if_pos c5] at H
      have c5b0 := decide_eq_true c5; clear c5
      by_cases c6 : x5_1 < (l1.length : Int)
      ·rw [if_pos c6] at H
       have c6b0 := decide_eq_true c6; clear c6
       by_cases c7 : (!(((rd_T39 l0 x5_1).f0) == ((rd_T39 l1 x5_1).f0)) || (!(((rd_T39 l0 x5_1).f1) == ((rd_T39 l1 x5_1).f1)) || (!((((rd_T39 l0 x5_1).f2).toList) == (((rd_T39 l1 x5_1).f2).toList)) || (!(((rd_T39 l0 x5_1).f3) == ((rd_T39 l1 x5_1).f3)))))) = true
       ·rw [if_pos c7] at H
        have c7b0 : (!(((rd_T39 l0 x5_1).f0) == ((rd_T39 l1 x5_1).f0)) || (!(((rd_T39 l0 x5_1).f1) == ((rd_T39 l1 x5_1).f1)) || (!((((rd_T39 l0 x5_1).f2).toList) == (((rd_T39 l1 x5_1).f2).toList)) || (!(((rd_T39 l0 x5_1).f3) == ((rd_T39 l1 x5_1).f3)))))) = true := c7; clear c7; obtain rfl := Option.some.inj H; have p865 : 0 ≤ (x5_1 : Int) := of_decide_eq_true Ze; have q865 : x5_1 < (l0.length : Int) := of_decide_eq_true Ze; obtain ⟨ad865, e865, hx865_0, hx865_1, hx865_2, hx865_3⟩ := at_T39 HR0.out x5_1 p865 q865
        cases e865
        replace p865 := eq_true p865; replace q865 := eq_true q865; have p866 : 0 ≤ (x5_1 : Int) := of_decide_eq_true Ze; have q866 : x5_1 < (l1.length : Int) := of_decide_eq_true Ze; obtain ⟨ad866, e866, hx866_0, hx866_1, hx866_2, hx866_3⟩ := at_T39 HR1.out x5_1 p866 q866
        cases e866
        replace p866 := eq_true p866; replace q866 := eq_true q866
        go_wp2
        repeat (go_quiet (fail); try go_wp2)
        go_ret
        exact ⟨Zc, Zd⟩
       ·rw [if_neg c7] at H
        have c7b0 : (!(((rd_T39 l0 x5_1).f0) == ((rd_T39 l1 x5_1).f0)) || (!(((rd_T39 l0 x5_1).f1) == ((rd_T39 l1 x5_1).f1)) || (!((((rd_T39 l0 x5_1).f2).toList) == (((rd_T39 l1 x5_1).f2).toList)) || (!(((rd_T39 l0 x5_1).f3) == ((rd_T39 l1 x5_1).f3)))))) = false := by simpa using c7
        clear c7; have H' := am_ H; clear H; have p865 : 0 ≤ (x5_1 : Int) := of_decide_eq_true Ze; have q865 : x5_1 < (l0.length : Int) := of_decide_eq_true Ze; obtain ⟨ad865, e865, hx865_0, hx865_1, hx865_2, hx865_3⟩ := at_T39 HR0.out x5_1 p865 q865
        cases e865
        replace p865 := eq_true p865; replace q865 := eq_true q865; have p866 : 0 ≤ (x5_1 : Int) := of_decide_eq_true Ze; have q866 : x5_1 < (l1.length : Int) := of_decide_eq_true Ze; obtain ⟨ad866, e866, hx866_0, hx866_1, hx866_2, hx866_3⟩ := at_T39 HR1.out x5_1 p866 q866
        cases e866
        replace p866 := eq_true p866; replace q866 := eq_true q866
        go_wp2
        repeat (go_quiet (fail); try go_wp2)
        go_roundg k1
        case measure => have := HK1.out; omega
        case rel => exact ⟨(wrap64 (x5_1 + 1)), Zc, H', ⟨Zf⟩, Zd⟩
      ·rw [if_neg c6] at H
       exact absurd H (by simp)
     ·rw [if_neg c5] at H
      exact absurd H (by simp)
    ·rw [if_neg c4] at H
     have c4b0 := decide_eq_false c4; clear c4; obtain rfl := Option.some.inj H
     go_wp2
     repeat (go_quiet (fail); try go_wp2)
     go_ret
     exact ⟨Zc, Zd⟩
 ·rw [if_neg c3] at H
  have c3b0 := beq_eq_false_iff_ne.mpr c3; have c3b1 := bne_iff_ne.mpr c3
  have c3b2 : (l0.length == l1.length) = false := by first | simpa using c3 | (simp at c3 ⊢; omega)
  obtain rfl := Option.some.inj H
  go_enter Try.func67, Try.ntmps67
  go_wp2
  repeat (go_quiet (fail); try go_wp2)
  go_ret
  exact ⟨Zc, Zd⟩
end Go.Proofs.Ythhijbdekboahaa.F
namespace Go.Proofs.Ythhijbdekboahaa.F
open Go.RowKit Go.Proofs.YthhijbdekboahaaW.PrintWords Go.Proofs.YthhijbdekboahaaW.PrintLast Go.Proofs.YthhijbdekboahaaW.PrintMore
attribute [local go_sem] max2_int min2_int max_two min_two max_three min_three max_four min_four
set_option linter.unusedVariables false
set_option linter.unusedSimpArgs false
def laws_likeShow.f (k : Nat) (l0_0 : List (S104)) (l0_1 : List (S62)) (l0_2 : List (S39)) (l1_0 : List (S104)) (l1_1 : List (S62)) (l1_2 : List (S39)) : Option (Bool) := (laws_likeBars.f k l0_0 l1_0).bind fun t869 => (if t869 = true then ((laws_likeArticles.f k l0_1 l1_1).bind fun t870 => (if t870 = true then ((laws_likeCues.f k l0_2 l1_2).bind fun t871 => (some t871)) else (some false))) else (some false))
set_option maxHeartbeats 8000000 in
set_option maxRecDepth 100000 in
theorem laws_likeShow.calls (k : Nat) (A0_0 : Option Addr) (c0_0 : Nat) (l0_0 : List (S104)) (A0_1 : Option Addr) (c0_1 : Nat) (l0_1 : List (S62)) (A0_2 : Option Addr) (c0_2 : Nat) (l0_2 : List (S39)) (A1_0 : Option Addr) (c1_0 : Nat) (l1_0 : List (S104)) (A1_1 : Option Addr) (c1_1 : Nat) (l1_1 : List (S62)) (A1_2 : Option Addr) (c1_2 : Nat) (l1_2 : List (S39)) (r : Bool) (w : World) (hr0_0 : Kd.C k104 w A0_0 l0_0.length l0_0) (hc0_0 : l0_0.length ≤ c0_0) (hr0_1 : Kd.C k62 w A0_1 l0_1.length l0_1) (hc0_1 : l0_1.length ≤ c0_1) (hr0_2 : Kd.C k39 w A0_2 l0_2.length l0_2) (hc0_2 : l0_2.length ≤ c0_2) (hr1_0 : Kd.C k104 w A1_0 l1_0.length l1_0) (hc1_0 : l1_0.length ≤ c1_0) (hr1_1 : Kd.C k62 w A1_1 l1_1.length l1_1) (hc1_1 : l1_1.length ≤ c1_1) (hr1_2 : Kd.C k39 w A1_2 l1_2.length l1_2) (hc1_2 : l1_2.length ≤ c1_2) (h : laws_likeShow.f k l0_0 l0_1 l0_2 l1_0 l1_1 l1_2 = some r) :
  Calls Try.prog 24 #[.agg #[.slice A0_0 l0_0.length c0_0, .slice A0_1 l0_1.length c0_1, .slice A0_2 l0_2.length c0_2], .agg #[.slice A1_0 l1_0.length c1_0, .slice A1_1 l1_1.length c1_1, .slice A1_2 l1_2.length c1_2]] w fun e w' => e = .returned (.bool r) ∧ Below w.heap.size w w' := by
 have hu28 := Try.underlying28; have HR0_0 := am_ hr0_0; have HC0_0 := am_ hc0_0; clear hr0_0 hc0_0; have HR0_1 := am_ hr0_1; have HC0_1 := am_ hc0_1; clear hr0_1 hc0_1; have HR0_2 := am_ hr0_2; have HC0_2 := am_ hc0_2; clear hr0_2 hc0_2; have HR1_0 := am_ hr1_0; have HC1_0 := am_ hc1_0; clear hr1_0 hc1_0; have HR1_1 := am_ hr1_1; have HC1_1 := am_ hc1_1; clear hr1_1 hc1_1; have HR1_2 := am_ hr1_2; have HC1_2 := am_ hc1_2; clear hr1_2 hc1_2; have HB := am_ (Below.refl w.heap.size w); have H : ((laws_likeBars.f k l0_0 l1_0).bind fun t869 => (if t869 = true then ((laws_likeArticles.f k l0_1 l1_1).bind fun t870 => (if t870 = true then ((laws_likeCues.f k l0_2 l1_2).bind fun t871 => (some t871)) else (some false))) else (some false))) = some r := h; clear h; replace H := Option.bind_eq_some_iff.mp H; obtain ⟨t869, A30, H⟩ := H; have A3 := am_ A30; clear A30; have HS_ := am_ H; clear H
 go_enter Try.func24, Try.ntmps24
 go_wp2_with (first | ((with_reducible refine gate_dst (N := 2) rfl ?_); refine boxZ 2 #[.slice A0_0 l0_0.length c0_0, .slice A0_1 l0_1.length c0_1, .slice A0_2 l0_2.length c0_2] 28 ?_; intro gb867 hg w8 hbox hb; replace BK867 := am_ (hbox); replace GW867 := am_ ((Zg : w.heap.size ≤ gb867)); replace GE867 := GW867; replace HB := (bsZ Zh hb); clear hb hbox hg) | ((with_reducible refine gate_dst (N := 3) rfl ?_); refine boxZ 3 #[.slice A1_0 l1_0.length c1_0, .slice A1_1 l1_1.length c1_1, .slice A1_2 l1_2.length c1_2] 28 ?_; intro gb868 hg w9 hbox hb; replace BK868 := am_ (hbox); replace GW868 := am_ (((Zl GE867) : w.heap.size ≤ gb868)); replace GE868 := GW868; replace HB := (bsZ (Zj GE867) hb); replace NB867_868 := am_ ((by rw [hg]; exact Nat.ne_of_lt (blk_lt (g := gb867) (b0Z BK867)) : gb867 ≠ gb868)); replace NB868_867 := am_ ((by rw [hg]; exact Nat.ne_of_gt (blk_lt (g := gb867) (b0Z BK867)) : gb868 ≠ gb867)); replace BK867 := (bkZ BK867 hb); clear hb hbox hg; have hnb10 := NB867_868.out; have hnc10 := NB868_867.out; refine ci3 BK867 ?_; intros; refine ci3 BK868 ?_; intros) | ((with_reducible refine gate_callee (f := 65) rfl ?_); refine gZ 9 Try.func65 #[.slice A0_0 l0_0.length c0_0, .slice A1_0 l1_0.length c1_0] ?_; (with_reducible refine (laws_likeBars.calls k _ _ l0_0 _ _ l1_0 t869 _ ?_ ?_ ?_ ?_ A3.out).mono ?_); exact (Zm HR0_0); exact HC0_0.out; exact (Zm HR1_0); exact HC1_0.out; rintro e w' ⟨rfl, ⟨nd, rfl⟩⟩; refine ⟨_, rfl, ?_⟩; refine ?roundEnd))
 case roundEnd =>
  by_cases c4 : t869 = true
  ·have H := HS_.out
   clear HS_; subst c4
   have H1 : ((laws_likeArticles.f k l0_1 l1_1).bind fun t870 => (if t870 = true then ((laws_likeCues.f k l0_2 l1_2).bind fun t871 => (some t871)) else (some false))) = some r := by rw [if_pos rfl] at H; exact H
   clear H; have H := H1; clear H1; replace H := Option.bind_eq_some_iff.mp H; obtain ⟨t870, A50, H⟩ := H; have A5 := am_ A50; clear A50; have HS_ := am_ H; clear H
   go_wp2_with (first | (go_at_call 66; (with_reducible refine (laws_likeArticles.calls k _ _ l0_1 _ _ l1_1 t870 _ ?_ ?_ ?_ ?_ A5.out).mono ?_); exact (Zn HR0_1 GE867 GE868); exact HC0_1.out; exact (Zn HR1_1 GE867 GE868); exact HC1_1.out; rintro e w' ⟨rfl, ⟨nd, rfl⟩⟩; refine ?roundEnd))
   case roundEnd =>
    by_cases c6 : t870 = true
    ·have H := HS_.out
     clear HS_; subst c6
     have H1 : ((laws_likeCues.f k l0_2 l1_2).bind fun t871 => (some t871)) = some r := by rw [if_pos rfl] at H; exact H
     clear H; have H := H1; clear H1; replace H := Option.bind_eq_some_iff.mp H; obtain ⟨t871, A70, H⟩ := H; have A7 := am_ A70; clear A70; obtain rfl := Option.some.inj H
     go_wp2_with (first | (go_at_call 67; (with_reducible refine (laws_likeCues.calls k _ _ l0_2 _ _ l1_2 t871 _ ?_ ?_ ?_ ?_ A7.out).mono ?_); exact (Zn HR0_2 GE867 GE868); exact HC0_2.out; exact (Zn HR1_2 GE867 GE868); exact HC1_2.out; rintro e w' ⟨rfl, ⟨nd, rfl⟩⟩))
     go_ret
     exact ⟨Zi, (Zo GE867 GE868)⟩
    ·have H := HS_.out
     clear HS_; replace c6 := Bool.eq_false_iff.mpr c6; subst c6
     have H1 : (some false) = some r := by rw [if_neg (show ¬ (false = true) by decide)] at H; exact H
     clear H; have H := H1; clear H1; obtain rfl := Option.some.inj H
     go_wp2_with (first | fail)
     go_ret
     exact ⟨Zi, (Zo GE867 GE868)⟩
  ·have H := HS_.out
   clear HS_; replace c4 := Bool.eq_false_iff.mpr c4; subst c4
   have H1 : (some false) = some r := by rw [if_neg (show ¬ (false = true) by decide)] at H; exact H
   clear H; have H := H1; clear H1; obtain rfl := Option.some.inj H
   go_wp2_with (first | fail)
   go_ret
   exact ⟨Zi, (Zo GE867 GE868)⟩
def laws_sum.l0 : Nat → List Int → Int → Int → Option (Int)
 | 0, _, _, _ => none
 | k + 1, x0, x3, x4 => if x4 < (x0.length : Int) then (if 0 ≤ x4 then (laws_sum.l0 k x0 (wrap64 (x3 + (rd x0 x4))) (wrap64 (x4 + 1))) else (none)) else (some x3)
def laws_sum.f (k : Nat) (l0 : List Int) : Option (Int) := laws_sum.l0 k l0 0 0
set_option maxHeartbeats 8000000 in
set_option maxRecDepth 100000 in
theorem laws_sum.calls (k : Nat) (A0 : Option Addr) (c0 : Nat) (l0 : List Int) (r : Int) (w : World) (hr0 : Kd.C (Kd.int .i64) w A0 l0.length l0) (hc0 : l0.length ≤ c0) (h : laws_sum.f k l0 = some r) :
  Calls Try.prog 26 #[.slice A0 l0.length c0] w fun e w' => e = .returned (.int .i64 r) ∧ Drawn0 w w' := by
 have HR0 := am_ hr0; have HC0 := am_ hc0; clear hr0 hc0; have H : (laws_sum.l0 k l0 0 0) = some r := h; clear h; have H' := am_ H; clear H
 go_enter Try.func26, Try.ntmps26
 go_wp2
 go_loopg [3, 4] k (fun kq v3 v4 w' => ∃ (x3_1 : Int) (x4_1 : Int), v3 = .int .i64 x3_1 ∧ v4 = .int .i64 x4_1 ∧ Aside0 (laws_sum.l0 kq l0 x3_1 x4_1 = some r) ∧ Aside0 (kq ≤ k) ∧ Drawn0 w w')
 case atStart => exact ⟨(0), (0), Zc, Zc, H', ⟨Nat.le_refl _⟩, Zd⟩
 case round =>
  clear H'; obtain ⟨x3_1, x4_1, rfl, rfl, HA, HK1, ⟨m1, rfl⟩⟩ := hrel
  cases gk with
  | zero => exact absurd HA.out (by simp [laws_sum.l0])
  | succ k1 =>
   have H := HA.out; clear HA; simp only [laws_sum.l0] at H
   by_cases c2 : x4_1 < (l0.length : Int)
   ·rw [if_pos c2] at H
    have c2b0 := decide_eq_true c2; clear c2
    by_cases c3 : 0 ≤ x4_1
    ·rw [if_pos c3] at H
     have c3b0 := decide_eq_true c3; clear c3; have H' := am_ H; clear H; have p872 : 0 ≤ (x4_1 : Int) := of_decide_eq_true Ze; have q872 : x4_1 < (l0.length : Int) := of_decide_eq_true Ze; obtain ⟨ad872, e872, hx872_0⟩ := Kd.at_int HR0.out x4_1 p872 q872
     cases e872
     replace p872 := eq_true p872; replace q872 := eq_true q872
     go_wp2
     go_roundg k1
     case measure => have := HK1.out; omega
     case rel => exact ⟨(wrap64 (x3_1 + (rd l0 x4_1))), (wrap64 (x4_1 + 1)), Zc, Zc, H', ⟨Zf⟩, Zd⟩
    ·rw [if_neg c3] at H
     exact absurd H (by simp)
   ·rw [if_neg c2] at H
    have c2b0 := decide_eq_false c2; clear c2; obtain rfl := Option.some.inj H
    go_wp2
    go_ret
    exact ⟨Zc, Zd⟩
end Go.Proofs.Ythhijbdekboahaa.F
namespace Go.Proofs.Ythhijbdekboahaa.F
open Go.RowKit Go.Proofs.YthhijbdekboahaaW.PrintWords Go.Proofs.YthhijbdekboahaaW.PrintLast Go.Proofs.YthhijbdekboahaaW.PrintMore
attribute [local go_sem] max2_int min2_int max_two min_two max_three min_three max_four min_four
set_option linter.unusedVariables false
set_option linter.unusedSimpArgs false
attribute [local go_sem high] eqA39
mutual
def laws_FnCueChanges.j0 : Nat → Int → Int → List Int → Int → Bool → List (S104) → List (S62) → List (S39) → Int → Int → ByteArray → Int → List (S104) → List (S62) → List (S39) → List (S104) → List (S62) → List (S39) → List (S104) → List (S62) → List (S39) → List (S104) → List (S62) → List (S39) → Option (Bool)
 | 0, _, _, _, _, _, _, _, _, _, _, _, _, _, _, _, _, _, _, _, _, _, _, _, _ => none
 | k + 1, x6, x12, x15, x16, x97, x888000, x888001, x888002, x889000, x889001, x889002, x889003, x900000, x900001, x900002, x911000, x911001, x911002, x922000, x922001, x922002, x933000, x933001, x933002 => if x97 = true then (some false) else (if x12 = 0 then ((impl_IsShow.f k x933000 x933001 x933002).bind fun t955 => (if t955 = true then (laws_FnCueChanges.j1 k x6 x15 x16 ((x933002.length : Int) != (wrap64 ((x922002.length : Int) - 1))) x888000 x888001 x888002 x889000 x889001 x889002 x889003 x900000 x900001 x900002 x911000 x911001 x911002) else (laws_FnCueChanges.j1 k x6 x15 x16 true x888000 x888001 x888002 x889000 x889001 x889002 x889003 x900000 x900001 x900002 x911000 x911001 x911002))) else (laws_FnCueChanges.j1 k x6 x15 x16 false x888000 x888001 x888002 x889000 x889001 x889002 x889003 x900000 x900001 x900002 x911000 x911001 x911002))
def laws_FnCueChanges.j1 : Nat → Int → List Int → Int → Bool → List (S104) → List (S62) → List (S39) → Int → Int → ByteArray → Int → List (S104) → List (S62) → List (S39) → List (S104) → List (S62) → List (S39) → Option (Bool)
 | 0, _, _, _, _, _, _, _, _, _, _, _, _, _, _, _, _, _ => none
 | k + 1, x6, x15, x16, x114, x888000, x888001, x888002, x889000, x889001, x889002, x889003, x900000, x900001, x900002, x911000, x911001, x911002 => if x114 = true then (some false) else (if x16 = 0 then ((laws_sum.f k x15).bind fun t956 => (laws_FnCueChanges.j2 k x6 (t956 != (x888002.length : Int)) x888000 x888001 x888002 x889000 x889001 x889002 x889003 x900000 x900001 x900002 x911000 x911001 x911002)) else (laws_FnCueChanges.j2 k x6 false x888000 x888001 x888002 x889000 x889001 x889002 x889003 x900000 x900001 x900002 x911000 x911001 x911002))
def laws_FnCueChanges.j2 : Nat → Int → Bool → List (S104) → List (S62) → List (S39) → Int → Int → ByteArray → Int → List (S104) → List (S62) → List (S39) → List (S104) → List (S62) → List (S39) → Option (Bool)
 | 0, _, _, _, _, _, _, _, _, _, _, _, _, _, _, _ => none
 | k + 1, x6, x124, x888000, x888001, x888002, x889000, x889001, x889002, x889003, x900000, x900001, x900002, x911000, x911001, x911002 => if x124 = true then (some false) else (if x6 = 0 then ((impl_DropCue.f k x900000 x900001 x900002 (x888002.length : Int)).bind fun bt957 => (if bt957.2.2.2 = 0 then ((laws_likeShow.f k bt957.1 bt957.2.1 bt957.2.2.1 x888000 x888001 x888002).bind fun t968 => (if t968 = true then ((impl_IsShow.f k x900000 x900001 x900002).bind fun t969 => (if t969 = true then (if 0 ≤ (wrap64 ((x911002.length : Int) - 1)) then (if (wrap64 ((x911002.length : Int) - 1)) < (x900002.length : Int) then (some (((rd_T39 x900002 (wrap64 ((x911002.length : Int) - 1))).f0) == x889000 && (((rd_T39 x900002 (wrap64 ((x911002.length : Int) - 1))).f1) == x889001 && ((((rd_T39 x900002 (wrap64 ((x911002.length : Int) - 1))).f2).toList) == x889002.toList && (((rd_T39 x900002 (wrap64 ((x911002.length : Int) - 1))).f3) == x889003))))) else (none)) else (none)) else (some false))) else (some false))) else (some false))) else (some true))
end
def laws_FnCueChanges.f (k : Nat) (l0 : List Int) : Option (Bool) := (laws_big.f l0).bind fun t873 => (if t873 = true then (some true) else ((spec_DrawAddCue.f k l0).bind fun bt874 => ((impl_AddCue.f k bt874.1 bt874.2.1 bt874.2.2.1 bt874.2.2.2.1 bt874.2.2.2.2.1 bt874.2.2.2.2.2.1 bt874.2.2.2.2.2.2).bind fun bt889 => ((spec_AddCue.f k bt874.1 bt874.2.1 bt874.2.2.1 bt874.2.2.2.1 bt874.2.2.2.2.1 bt874.2.2.2.2.2.1 bt874.2.2.2.2.2.2).bind fun bt900 => ((spec_DrawDropCue.f k l0).bind fun bt911 => ((impl_DropCue.f k bt911.1 bt911.2.1 bt911.2.2.1 bt911.2.2.2).bind fun bt922 => ((spec_DropCue.f k bt911.1 bt911.2.1 bt911.2.2.1 bt911.2.2.2).bind fun bt933 => ((impl_CountUsed.f k bt874.1 bt874.2.1 bt874.2.2.1).bind fun bt944 => ((spec_CountUsed.f k bt874.1 bt874.2.1 bt874.2.2.1).bind fun bt948 => (if bt889.2.2.2 = bt900.2.2.2 then ((laws_likeShow.f k bt889.1 bt889.2.1 bt889.2.2.1 bt900.1 bt900.2.1 bt900.2.2.1).bind fun t952 => (if t952 = true then (if bt922.2.2.2 = bt933.2.2.2 then ((laws_likeShow.f k bt922.1 bt922.2.1 bt922.2.2.1 bt933.1 bt933.2.1 bt933.2.2.1).bind fun t953 => (if t953 = true then (if bt944.2 = bt948.2 then ((laws_likeInts.f k bt944.1 bt948.1).bind fun t954 => (laws_FnCueChanges.j0 k bt889.2.2.2 bt922.2.2.2 bt944.1 bt944.2 (!t954) bt874.1 bt874.2.1 bt874.2.2.1 bt874.2.2.2.1 bt874.2.2.2.2.1 bt874.2.2.2.2.2.1 bt874.2.2.2.2.2.2 bt889.1 bt889.2.1 bt889.2.2.1 bt900.1 bt900.2.1 bt900.2.2.1 bt911.1 bt911.2.1 bt911.2.2.1 bt922.1 bt922.2.1 bt922.2.2.1)) else (laws_FnCueChanges.j0 k bt889.2.2.2 bt922.2.2.2 bt944.1 bt944.2 true bt874.1 bt874.2.1 bt874.2.2.1 bt874.2.2.2.1 bt874.2.2.2.2.1 bt874.2.2.2.2.2.1 bt874.2.2.2.2.2.2 bt889.1 bt889.2.1 bt889.2.2.1 bt900.1 bt900.2.1 bt900.2.2.1 bt911.1 bt911.2.1 bt911.2.2.1 bt922.1 bt922.2.1 bt922.2.2.1)) else (laws_FnCueChanges.j0 k bt889.2.2.2 bt922.2.2.2 bt944.1 bt944.2 true bt874.1 bt874.2.1 bt874.2.2.1 bt874.2.2.2.1 bt874.2.2.2.2.1 bt874.2.2.2.2.2.1 bt874.2.2.2.2.2.2 bt889.1 bt889.2.1 bt889.2.2.1 bt900.1 bt900.2.1 bt900.2.2.1 bt911.1 bt911.2.1 bt911.2.2.1 bt922.1 bt922.2.1 bt922.2.2.1))) else (laws_FnCueChanges.j0 k bt889.2.2.2 bt922.2.2.2 bt944.1 bt944.2 true bt874.1 bt874.2.1 bt874.2.2.1 bt874.2.2.2.1 bt874.2.2.2.2.1 bt874.2.2.2.2.2.1 bt874.2.2.2.2.2.2 bt889.1 bt889.2.1 bt889.2.2.1 bt900.1 bt900.2.1 bt900.2.2.1 bt911.1 bt911.2.1 bt911.2.2.1 bt922.1 bt922.2.1 bt922.2.2.1)) else (laws_FnCueChanges.j0 k bt889.2.2.2 bt922.2.2.2 bt944.1 bt944.2 true bt874.1 bt874.2.1 bt874.2.2.1 bt874.2.2.2.1 bt874.2.2.2.2.1 bt874.2.2.2.2.2.1 bt874.2.2.2.2.2.2 bt889.1 bt889.2.1 bt889.2.2.1 bt900.1 bt900.2.1 bt900.2.2.1 bt911.1 bt911.2.1 bt911.2.2.1 bt922.1 bt922.2.1 bt922.2.2.1))) else (laws_FnCueChanges.j0 k bt889.2.2.2 bt922.2.2.2 bt944.1 bt944.2 true bt874.1 bt874.2.1 bt874.2.2.1 bt874.2.2.2.1 bt874.2.2.2.2.1 bt874.2.2.2.2.2.1 bt874.2.2.2.2.2.2 bt889.1 bt889.2.1 bt889.2.2.1 bt900.1 bt900.2.1 bt900.2.2.1 bt911.1 bt911.2.1 bt911.2.2.1 bt922.1 bt922.2.1 bt922.2.2.1)))))))))))
def laws_FnCueChanges.T15 : Bool × List (List Nat × List Nat) := (true, [([], []), ([0], [0]), ([1], [1]), ([2], [2]), ([3, 2, 2], [2, 3]), ([2], [2]), ([5, 2], [2, 5]), ([6, 2], [2, 6]), ([4, 7, 2], [2, 4, 7]), ([2, 8], [2, 8])])
def laws_FnCueChanges.B15 : List Nat := [0, 1, 3, 7, 15, 7, 39, 103, 255, 511]
theorem laws_FnCueChanges.tab15 : rtab .any (opsOf Try.f4 15) = laws_FnCueChanges.T15 := by kernel_rfl
theorem laws_FnCueChanges.bits15 : waitsOk laws_FnCueChanges.T15.2 laws_FnCueChanges.B15 = true := by kernel_rfl
def laws_FnCueChanges.T20 : Bool × List (List Nat × List Nat) := (true, [([], []), ([0], [0]), ([1], [1]), ([2], [2]), ([2], [2]), ([3, 4, 2, 2], [2, 3, 4]), ([2, 5], [2, 5]), ([6, 5], [6]), ([7], [7]), ([8, 7, 7], [7, 8]), ([7, 9], [7, 9]), ([10, 9], [10]), ([11], [11]), ([12, 11], [11, 12]), ([11], [11]), ([14, 11], [11, 14]), ([15, 11], [11, 15]), ([16, 11], [11, 16]), ([13, 17, 11], [11, 13, 17]), ([18, 11], [11, 18]), ([11], [11]), ([19, 20, 11], [11, 19, 20]), ([11, 21], [11, 21]), ([22, 11, 0, 1, 2, 3, 4, 5, 6, 7, 8, 9, 10, 11, 12, 13, 14, 15, 16, 17, 18, 19, 20, 21, 22], [22])])
def laws_FnCueChanges.B20 : List Nat := [0, 1, 3, 7, 7, 31, 63, 127, 255, 511, 1023, 2047, 4095, 8191, 4095, 20479, 53247, 118783, 262143, 524287, 4095, 2097151, 4194303, 8388607]
theorem laws_FnCueChanges.tab20 : rtab .any (opsOf Try.f4 20) = laws_FnCueChanges.T20 := by kernel_rfl
theorem laws_FnCueChanges.bits20 : waitsOk laws_FnCueChanges.T20.2 laws_FnCueChanges.B20 = true := by kernel_rfl
theorem laws_FnCueChanges.j0_true (k : Nat) (x6 : Int) (x12 : Int) (x15 : List Int) (x16 : Int) (x888000 : List (S104)) (x888001 : List (S62)) (x888002 : List (S39)) (x889000 : Int) (x889001 : Int) (x889002 : ByteArray) (x889003 : Int) (x900000 : List (S104)) (x900001 : List (S62)) (x900002 : List (S39)) (x911000 : List (S104)) (x911001 : List (S62)) (x911002 : List (S39)) (x922000 : List (S104)) (x922001 : List (S62)) (x922002 : List (S39)) (x933000 : List (S104)) (x933001 : List (S62)) (x933002 : List (S39)) : ¬ laws_FnCueChanges.j0 k x6 x12 x15 x16 true x888000 x888001 x888002 x889000 x889001 x889002 x889003 x900000 x900001 x900002 x911000 x911001 x911002 x922000 x922001 x922002 x933000 x933001 x933002 = some true := by
 cases k with
 | zero => simp [laws_FnCueChanges.j0]
 | succ k => simp [laws_FnCueChanges.j0]
theorem laws_FnCueChanges.j1_true (k : Nat) (x6 : Int) (x15 : List Int) (x16 : Int) (x888000 : List (S104)) (x888001 : List (S62)) (x888002 : List (S39)) (x889000 : Int) (x889001 : Int) (x889002 : ByteArray) (x889003 : Int) (x900000 : List (S104)) (x900001 : List (S62)) (x900002 : List (S39)) (x911000 : List (S104)) (x911001 : List (S62)) (x911002 : List (S39)) : ¬ laws_FnCueChanges.j1 k x6 x15 x16 true x888000 x888001 x888002 x889000 x889001 x889002 x889003 x900000 x900001 x900002 x911000 x911001 x911002 = some true := by
 cases k with
 | zero => simp [laws_FnCueChanges.j1]
 | succ k => simp [laws_FnCueChanges.j1]
set_option maxHeartbeats 8000000 in
set_option maxRecDepth 100000 in
theorem laws_FnCueChanges.calls (k : Nat) (A0 : Option Addr) (c0 : Nat) (l0 : List Int) (r : Bool) (w : World) (hr0 : Kd.C (Kd.int .u8) w A0 l0.length l0) (hc0 : l0.length ≤ c0) (h : laws_FnCueChanges.f k l0 = some r) (hr_ : r = true) :
  Calls Try.prog 4 #[.slice A0 l0.length c0] w fun e w' => e = .returned (.bool r) ∧ Below w.heap.size w w' := by
 have HR_ := am_ hr_; clear hr_; have hu28 := Try.underlying28; have hu39 := Try.underlying39; have HR0 := am_ hr0; have HC0 := am_ hc0; clear hr0 hc0; have HB := am_ (Below.refl w.heap.size w); have H : ((laws_big.f l0).bind fun t873 => (if t873 = true then (some true) else ((spec_DrawAddCue.f k l0).bind fun bt874 => ((impl_AddCue.f k bt874.1 bt874.2.1 bt874.2.2.1 bt874.2.2.2.1 bt874.2.2.2.2.1 bt874.2.2.2.2.2.1 bt874.2.2.2.2.2.2).bind fun bt889 => ((spec_AddCue.f k bt874.1 bt874.2.1 bt874.2.2.1 bt874.2.2.2.1 bt874.2.2.2.2.1 bt874.2.2.2.2.2.1 bt874.2.2.2.2.2.2).bind fun bt900 => ((spec_DrawDropCue.f k l0).bind fun bt911 => ((impl_DropCue.f k bt911.1 bt911.2.1 bt911.2.2.1 bt911.2.2.2).bind fun bt922 => ((spec_DropCue.f k bt911.1 bt911.2.1 bt911.2.2.1 bt911.2.2.2).bind fun bt933 => ((impl_CountUsed.f k bt874.1 bt874.2.1 bt874.2.2.1).bind fun bt944 => ((spec_CountUsed.f k bt874.1 bt874.2.1 bt874.2.2.1).bind fun bt948 => (if bt889.2.2.2 = bt900.2.2.2 then ((laws_likeShow.f k bt889.1 bt889.2.1 bt889.2.2.1 bt900.1 bt900.2.1 bt900.2.2.1).bind fun t952 => (if t952 = true then (if bt922.2.2.2 = bt933.2.2.2 then ((laws_likeShow.f k bt922.1 bt922.2.1 bt922.2.2.1 bt933.1 bt933.2.1 bt933.2.2.1).bind fun t953 => (if t953 = true then (if bt944.2 = bt948.2 then ((laws_likeInts.f k bt944.1 bt948.1).bind fun t954 => (laws_FnCueChanges.j0 k bt889.2.2.2 bt922.2.2.2 bt944.1 bt944.2 (!t954) bt874.1 bt874.2.1 bt874.2.2.1 bt874.2.2.2.1 bt874.2.2.2.2.1 bt874.2.2.2.2.2.1 bt874.2.2.2.2.2.2 bt889.1 bt889.2.1 bt889.2.2.1 bt900.1 bt900.2.1 bt900.2.2.1 bt911.1 bt911.2.1 bt911.2.2.1 bt922.1 bt922.2.1 bt922.2.2.1)) else (laws_FnCueChanges.j0 k bt889.2.2.2 bt922.2.2.2 bt944.1 bt944.2 true bt874.1 bt874.2.1 bt874.2.2.1 bt874.2.2.2.1 bt874.2.2.2.2.1 bt874.2.2.2.2.2.1 bt874.2.2.2.2.2.2 bt889.1 bt889.2.1 bt889.2.2.1 bt900.1 bt900.2.1 bt900.2.2.1 bt911.1 bt911.2.1 bt911.2.2.1 bt922.1 bt922.2.1 bt922.2.2.1)) else (laws_FnCueChanges.j0 k bt889.2.2.2 bt922.2.2.2 bt944.1 bt944.2 true bt874.1 bt874.2.1 bt874.2.2.1 bt874.2.2.2.1 bt874.2.2.2.2.1 bt874.2.2.2.2.2.1 bt874.2.2.2.2.2.2 bt889.1 bt889.2.1 bt889.2.2.1 bt900.1 bt900.2.1 bt900.2.2.1 bt911.1 bt911.2.1 bt911.2.2.1 bt922.1 bt922.2.1 bt922.2.2.1))) else (laws_FnCueChanges.j0 k bt889.2.2.2 bt922.2.2.2 bt944.1 bt944.2 true bt874.1 bt874.2.1 bt874.2.2.1 bt874.2.2.2.1 bt874.2.2.2.2.1 bt874.2.2.2.2.2.1 bt874.2.2.2.2.2.2 bt889.1 bt889.2.1 bt889.2.2.1 bt900.1 bt900.2.1 bt900.2.2.1 bt911.1 bt911.2.1 bt911.2.2.1 bt922.1 bt922.2.1 bt922.2.2.1)) else (laws_FnCueChanges.j0 k bt889.2.2.2 bt922.2.2.2 bt944.1 bt944.2 true bt874.1 bt874.2.1 bt874.2.2.1 bt874.2.2.2.1 bt874.2.2.2.2.1 bt874.2.2.2.2.2.1 bt874.2.2.2.2.2.2 bt889.1 bt889.2.1 bt889.2.2.1 bt900.1 bt900.2.1 bt900.2.2.1 bt911.1 bt911.2.1 bt911.2.2.1 bt922.1 bt922.2.1 bt922.2.2.1))) else (laws_FnCueChanges.j0 k bt889.2.2.2 bt922.2.2.2 bt944.1 bt944.2 true bt874.1 bt874.2.1 bt874.2.2.1 bt874.2.2.2.1 bt874.2.2.2.2.1 bt874.2.2.2.2.2.1 bt874.2.2.2.2.2.2 bt889.1 bt889.2.1 bt889.2.2.1 bt900.1 bt900.2.1 bt900.2.2.1 bt911.1 bt911.2.1 bt911.2.2.1 bt922.1 bt922.2.1 bt922.2.2.1)))))))))))) = some r := h
 clear h; replace H := Option.bind_eq_some_iff.mp H; obtain ⟨t873, A20, H⟩ := H; have A2 := am_ A20; clear A20
 by_cases c3 : t873 = true
 ·subst c3
  have H1 : (some true) = some r := by rw [if_pos rfl] at H; exact H
  clear H; have H := H1; clear H1; obtain rfl := Option.some.inj H
  go_enter Try.func4, Try.ntmps4
  go_wp2_with (first | ((with_reducible refine gate_callee (f := 8) rfl ?_); refine gZ 22 Try.func8 #[.slice A0 l0.length c0] ?_; (with_reducible refine (laws_big.calls _ _ l0 true _ ?_ ?_ A2.out).mono ?_); exact (Zde HR0); exact HC0.out; rintro e w' ⟨rfl, ⟨nd, rfl⟩⟩; refine ⟨_, rfl, ?_⟩))
  go_ret
  exact ⟨Zi, Zh⟩
 ·replace c3 := Bool.eq_false_iff.mpr c3
  subst c3
  have H1 : ((spec_DrawAddCue.f k l0).bind fun bt874 => ((impl_AddCue.f k bt874.1 bt874.2.1 bt874.2.2.1 bt874.2.2.2.1 bt874.2.2.2.2.1 bt874.2.2.2.2.2.1 bt874.2.2.2.2.2.2).bind fun bt889 => ((spec_AddCue.f k bt874.1 bt874.2.1 bt874.2.2.1 bt874.2.2.2.1 bt874.2.2.2.2.1 bt874.2.2.2.2.2.1 bt874.2.2.2.2.2.2).bind fun bt900 => ((spec_DrawDropCue.f k l0).bind fun bt911 => ((impl_DropCue.f k bt911.1 bt911.2.1 bt911.2.2.1 bt911.2.2.2).bind fun bt922 => ((spec_DropCue.f k bt911.1 bt911.2.1 bt911.2.2.1 bt911.2.2.2).bind fun bt933 => ((impl_CountUsed.f k bt874.1 bt874.2.1 bt874.2.2.1).bind fun bt944 => ((spec_CountUsed.f k bt874.1 bt874.2.1 bt874.2.2.1).bind fun bt948 => (if bt889.2.2.2 = bt900.2.2.2 then ((laws_likeShow.f k bt889.1 bt889.2.1 bt889.2.2.1 bt900.1 bt900.2.1 bt900.2.2.1).bind fun t952 => (if t952 = true then (if bt922.2.2.2 = bt933.2.2.2 then ((laws_likeShow.f k bt922.1 bt922.2.1 bt922.2.2.1 bt933.1 bt933.2.1 bt933.2.2.1).bind fun t953 => (if t953 = true then (if bt944.2 = bt948.2 then ((laws_likeInts.f k bt944.1 bt948.1).bind fun t954 => (laws_FnCueChanges.j0 k bt889.2.2.2 bt922.2.2.2 bt944.1 bt944.2 (!t954) bt874.1 bt874.2.1 bt874.2.2.1 bt874.2.2.2.1 bt874.2.2.2.2.1 bt874.2.2.2.2.2.1 bt874.2.2.2.2.2.2 bt889.1 bt889.2.1 bt889.2.2.1 bt900.1 bt900.2.1 bt900.2.2.1 bt911.1 bt911.2.1 bt911.2.2.1 bt922.1 bt922.2.1 bt922.2.2.1)) else (laws_FnCueChanges.j0 k bt889.2.2.2 bt922.2.2.2 bt944.1 bt944.2 true bt874.1 bt874.2.1 bt874.2.2.1 bt874.2.2.2.1 bt874.2.2.2.2.1 bt874.2.2.2.2.2.1 bt874.2.2.2.2.2.2 bt889.1 bt889.2.1 bt889.2.2.1 bt900.1 bt900.2.1 bt900.2.2.1 bt911.1 bt911.2.1 bt911.2.2.1 bt922.1 bt922.2.1 bt922.2.2.1)) else (laws_FnCueChanges.j0 k bt889.2.2.2 bt922.2.2.2 bt944.1 bt944.2 true bt874.1 bt874.2.1 bt874.2.2.1 bt874.2.2.2.1 bt874.2.2.2.2.1 bt874.2.2.2.2.2.1 bt874.2.2.2.2.2.2 bt889.1 bt889.2.1 bt889.2.2.1 bt900.1 bt900.2.1 bt900.2.2.1 bt911.1 bt911.2.1 bt911.2.2.1 bt922.1 bt922.2.1 bt922.2.2.1))) else (laws_FnCueChanges.j0 k bt889.2.2.2 bt922.2.2.2 bt944.1 bt944.2 true bt874.1 bt874.2.1 bt874.2.2.1 bt874.2.2.2.1 bt874.2.2.2.2.1 bt874.2.2.2.2.2.1 bt874.2.2.2.2.2.2 bt889.1 bt889.2.1 bt889.2.2.1 bt900.1 bt900.2.1 bt900.2.2.1 bt911.1 bt911.2.1 bt911.2.2.1 bt922.1 bt922.2.1 bt922.2.2.1)) else (laws_FnCueChanges.j0 k bt889.2.2.2 bt922.2.2.2 bt944.1 bt944.2 true bt874.1 bt874.2.1 bt874.2.2.1 bt874.2.2.2.1 bt874.2.2.2.2.1 bt874.2.2.2.2.2.1 bt874.2.2.2.2.2.2 bt889.1 bt889.2.1 bt889.2.2.1 bt900.1 bt900.2.1 bt900.2.2.1 bt911.1 bt911.2.1 bt911.2.2.1 bt922.1 bt922.2.1 bt922.2.2.1))) else (laws_FnCueChanges.j0 k bt889.2.2.2 bt922.2.2.2 bt944.1 bt944.2 true bt874.1 bt874.2.1 bt874.2.2.1 bt874.2.2.2.1 bt874.2.2.2.2.1 bt874.2.2.2.2.2.1 bt874.2.2.2.2.2.2 bt889.1 bt889.2.1 bt889.2.2.1 bt900.1 bt900.2.1 bt900.2.2.1 bt911.1 bt911.2.1 bt911.2.2.1 bt922.1 bt922.2.1 bt922.2.2.1)))))))))) = some r := by rw [if_neg (show ¬ (false = true) by decide)] at H; exact H
  clear H; have H := H1; clear H1; replace H := Option.bind_eq_some_iff.mp H; obtain ⟨⟨t874, t877, t880, t883, t884, t885, t886⟩, A40, H⟩ := H; replace H : ((impl_AddCue.f k t874 t877 t880 t883 t884 t885 t886).bind fun bt889 => ((spec_AddCue.f k t874 t877 t880 t883 t884 t885 t886).bind fun bt900 => ((spec_DrawDropCue.f k l0).bind fun bt911 => ((impl_DropCue.f k bt911.1 bt911.2.1 bt911.2.2.1 bt911.2.2.2).bind fun bt922 => ((spec_DropCue.f k bt911.1 bt911.2.1 bt911.2.2.1 bt911.2.2.2).bind fun bt933 => ((impl_CountUsed.f k t874 t877 t880).bind fun bt944 => ((spec_CountUsed.f k t874 t877 t880).bind fun bt948 => (if bt889.2.2.2 = bt900.2.2.2 then ((laws_likeShow.f k bt889.1 bt889.2.1 bt889.2.2.1 bt900.1 bt900.2.1 bt900.2.2.1).bind fun t952 => (if t952 = true then (if bt922.2.2.2 = bt933.2.2.2 then ((laws_likeShow.f k bt922.1 bt922.2.1 bt922.2.2.1 bt933.1 bt933.2.1 bt933.2.2.1).bind fun t953 => (if t953 = true then (if bt944.2 = bt948.2 then ((laws_likeInts.f k bt944.1 bt948.1).bind fun t954 => (laws_FnCueChanges.j0 k bt889.2.2.2 bt922.2.2.2 bt944.1 bt944.2 (!t954) t874 t877 t880 t883 t884 t885 t886 bt889.1 bt889.2.1 bt889.2.2.1 bt900.1 bt900.2.1 bt900.2.2.1 bt911.1 bt911.2.1 bt911.2.2.1 bt922.1 bt922.2.1 bt922.2.2.1)) else (laws_FnCueChanges.j0 k bt889.2.2.2 bt922.2.2.2 bt944.1 bt944.2 true t874 t877 t880 t883 t884 t885 t886 bt889.1 bt889.2.1 bt889.2.2.1 bt900.1 bt900.2.1 bt900.2.2.1 bt911.1 bt911.2.1 bt911.2.2.1 bt922.1 bt922.2.1 bt922.2.2.1)) else (laws_FnCueChanges.j0 k bt889.2.2.2 bt922.2.2.2 bt944.1 bt944.2 true t874 t877 t880 t883 t884 t885 t886 bt889.1 bt889.2.1 bt889.2.2.1 bt900.1 bt900.2.1 bt900.2.2.1 bt911.1 bt911.2.1 bt911.2.2.1 bt922.1 bt922.2.1 bt922.2.2.1))) else (laws_FnCueChanges.j0 k bt889.2.2.2 bt922.2.2.2 bt944.1 bt944.2 true t874 t877 t880 t883 t884 t885 t886 bt889.1 bt889.2.1 bt889.2.2.1 bt900.1 bt900.2.1 bt900.2.2.1 bt911.1 bt911.2.1 bt911.2.2.1 bt922.1 bt922.2.1 bt922.2.2.1)) else (laws_FnCueChanges.j0 k bt889.2.2.2 bt922.2.2.2 bt944.1 bt944.2 true t874 t877 t880 t883 t884 t885 t886 bt889.1 bt889.2.1 bt889.2.2.1 bt900.1 bt900.2.1 bt900.2.2.1 bt911.1 bt911.2.1 bt911.2.2.1 bt922.1 bt922.2.1 bt922.2.2.1))) else (laws_FnCueChanges.j0 k bt889.2.2.2 bt922.2.2.2 bt944.1 bt944.2 true t874 t877 t880 t883 t884 t885 t886 bt889.1 bt889.2.1 bt889.2.2.1 bt900.1 bt900.2.1 bt900.2.2.1 bt911.1 bt911.2.1 bt911.2.2.1 bt922.1 bt922.2.1 bt922.2.2.1))))))))) = some r := H; have A4 := am_ A40; clear A40; replace H := Option.bind_eq_some_iff.mp H; obtain ⟨⟨t889, t892, t895, t898⟩, A50, H⟩ := H; replace H : ((spec_AddCue.f k t874 t877 t880 t883 t884 t885 t886).bind fun bt900 => ((spec_DrawDropCue.f k l0).bind fun bt911 => ((impl_DropCue.f k bt911.1 bt911.2.1 bt911.2.2.1 bt911.2.2.2).bind fun bt922 => ((spec_DropCue.f k bt911.1 bt911.2.1 bt911.2.2.1 bt911.2.2.2).bind fun bt933 => ((impl_CountUsed.f k t874 t877 t880).bind fun bt944 => ((spec_CountUsed.f k t874 t877 t880).bind fun bt948 => (if t898 = bt900.2.2.2 then ((laws_likeShow.f k t889 t892 t895 bt900.1 bt900.2.1 bt900.2.2.1).bind fun t952 => (if t952 = true then (if bt922.2.2.2 = bt933.2.2.2 then ((laws_likeShow.f k bt922.1 bt922.2.1 bt922.2.2.1 bt933.1 bt933.2.1 bt933.2.2.1).bind fun t953 => (if t953 = true then (if bt944.2 = bt948.2 then ((laws_likeInts.f k bt944.1 bt948.1).bind fun t954 => (laws_FnCueChanges.j0 k t898 bt922.2.2.2 bt944.1 bt944.2 (!t954) t874 t877 t880 t883 t884 t885 t886 t889 t892 t895 bt900.1 bt900.2.1 bt900.2.2.1 bt911.1 bt911.2.1 bt911.2.2.1 bt922.1 bt922.2.1 bt922.2.2.1)) else (laws_FnCueChanges.j0 k t898 bt922.2.2.2 bt944.1 bt944.2 true t874 t877 t880 t883 t884 t885 t886 t889 t892 t895 bt900.1 bt900.2.1 bt900.2.2.1 bt911.1 bt911.2.1 bt911.2.2.1 bt922.1 bt922.2.1 bt922.2.2.1)) else (laws_FnCueChanges.j0 k t898 bt922.2.2.2 bt944.1 bt944.2 true t874 t877 t880 t883 t884 t885 t886 t889 t892 t895 bt900.1 bt900.2.1 bt900.2.2.1 bt911.1 bt911.2.1 bt911.2.2.1 bt922.1 bt922.2.1 bt922.2.2.1))) else (laws_FnCueChanges.j0 k t898 bt922.2.2.2 bt944.1 bt944.2 true t874 t877 t880 t883 t884 t885 t886 t889 t892 t895 bt900.1 bt900.2.1 bt900.2.2.1 bt911.1 bt911.2.1 bt911.2.2.1 bt922.1 bt922.2.1 bt922.2.2.1)) else (laws_FnCueChanges.j0 k t898 bt922.2.2.2 bt944.1 bt944.2 true t874 t877 t880 t883 t884 t885 t886 t889 t892 t895 bt900.1 bt900.2.1 bt900.2.2.1 bt911.1 bt911.2.1 bt911.2.2.1 bt922.1 bt922.2.1 bt922.2.2.1))) else (laws_FnCueChanges.j0 k t898 bt922.2.2.2 bt944.1 bt944.2 true t874 t877 t880 t883 t884 t885 t886 t889 t892 t895 bt900.1 bt900.2.1 bt900.2.2.1 bt911.1 bt911.2.1 bt911.2.2.1 bt922.1 bt922.2.1 bt922.2.2.1)))))))) = some r := H
  have A5 := am_ A50; clear A50; replace H := Option.bind_eq_some_iff.mp H; obtain ⟨⟨t900, t903, t906, t909⟩, A60, H⟩ := H; replace H : ((spec_DrawDropCue.f k l0).bind fun bt911 => ((impl_DropCue.f k bt911.1 bt911.2.1 bt911.2.2.1 bt911.2.2.2).bind fun bt922 => ((spec_DropCue.f k bt911.1 bt911.2.1 bt911.2.2.1 bt911.2.2.2).bind fun bt933 => ((impl_CountUsed.f k t874 t877 t880).bind fun bt944 => ((spec_CountUsed.f k t874 t877 t880).bind fun bt948 => (if t898 = t909 then ((laws_likeShow.f k t889 t892 t895 t900 t903 t906).bind fun t952 => (if t952 = true then (if bt922.2.2.2 = bt933.2.2.2 then ((laws_likeShow.f k bt922.1 bt922.2.1 bt922.2.2.1 bt933.1 bt933.2.1 bt933.2.2.1).bind fun t953 => (if t953 = true then (if bt944.2 = bt948.2 then ((laws_likeInts.f k bt944.1 bt948.1).bind fun t954 => (laws_FnCueChanges.j0 k t898 bt922.2.2.2 bt944.1 bt944.2 (!t954) t874 t877 t880 t883 t884 t885 t886 t889 t892 t895 t900 t903 t906 bt911.1 bt911.2.1 bt911.2.2.1 bt922.1 bt922.2.1 bt922.2.2.1)) else (laws_FnCueChanges.j0 k t898 bt922.2.2.2 bt944.1 bt944.2 true t874 t877 t880 t883 t884 t885 t886 t889 t892 t895 t900 t903 t906 bt911.1 bt911.2.1 bt911.2.2.1 bt922.1 bt922.2.1 bt922.2.2.1)) else (laws_FnCueChanges.j0 k t898 bt922.2.2.2 bt944.1 bt944.2 true t874 t877 t880 t883 t884 t885 t886 t889 t892 t895 t900 t903 t906 bt911.1 bt911.2.1 bt911.2.2.1 bt922.1 bt922.2.1 bt922.2.2.1))) else (laws_FnCueChanges.j0 k t898 bt922.2.2.2 bt944.1 bt944.2 true t874 t877 t880 t883 t884 t885 t886 t889 t892 t895 t900 t903 t906 bt911.1 bt911.2.1 bt911.2.2.1 bt922.1 bt922.2.1 bt922.2.2.1)) else (laws_FnCueChanges.j0 k t898 bt922.2.2.2 bt944.1 bt944.2 true t874 t877 t880 t883 t884 t885 t886 t889 t892 t895 t900 t903 t906 bt911.1 bt911.2.1 bt911.2.2.1 bt922.1 bt922.2.1 bt922.2.2.1))) else (laws_FnCueChanges.j0 k t898 bt922.2.2.2 bt944.1 bt944.2 true t874 t877 t880 t883 t884 t885 t886 t889 t892 t895 t900 t903 t906 bt911.1 bt911.2.1 bt911.2.2.1 bt922.1 bt922.2.1 bt922.2.2.1))))))) = some r := H; have A6 := am_ A60; clear A60; replace H := Option.bind_eq_some_iff.mp H; obtain ⟨⟨t911, t914, t917, t920⟩, A70, H⟩ := H; replace H : ((impl_DropCue.f k t911 t914 t917 t920).bind fun bt922 => ((spec_DropCue.f k t911 t914 t917 t920).bind fun bt933 => ((impl_CountUsed.f k t874 t877 t880).bind fun bt944 => ((spec_CountUsed.f k t874 t877 t880).bind fun bt948 => (if t898 = t909 then ((laws_likeShow.f k t889 t892 t895 t900 t903 t906).bind fun t952 => (if t952 = true then (if bt922.2.2.2 = bt933.2.2.2 then ((laws_likeShow.f k bt922.1 bt922.2.1 bt922.2.2.1 bt933.1 bt933.2.1 bt933.2.2.1).bind fun t953 => (if t953 = true then (if bt944.2 = bt948.2 then ((laws_likeInts.f k bt944.1 bt948.1).bind fun t954 => (laws_FnCueChanges.j0 k t898 bt922.2.2.2 bt944.1 bt944.2 (!t954) t874 t877 t880 t883 t884 t885 t886 t889 t892 t895 t900 t903 t906 t911 t914 t917 bt922.1 bt922.2.1 bt922.2.2.1)) else (laws_FnCueChanges.j0 k t898 bt922.2.2.2 bt944.1 bt944.2 true t874 t877 t880 t883 t884 t885 t886 t889 t892 t895 t900 t903 t906 t911 t914 t917 bt922.1 bt922.2.1 bt922.2.2.1)) else (laws_FnCueChanges.j0 k t898 bt922.2.2.2 bt944.1 bt944.2 true t874 t877 t880 t883 t884 t885 t886 t889 t892 t895 t900 t903 t906 t911 t914 t917 bt922.1 bt922.2.1 bt922.2.2.1))) else (laws_FnCueChanges.j0 k t898 bt922.2.2.2 bt944.1 bt944.2 true t874 t877 t880 t883 t884 t885 t886 t889 t892 t895 t900 t903 t906 t911 t914 t917 bt922.1 bt922.2.1 bt922.2.2.1)) else (laws_FnCueChanges.j0 k t898 bt922.2.2.2 bt944.1 bt944.2 true t874 t877 t880 t883 t884 t885 t886 t889 t892 t895 t900 t903 t906 t911 t914 t917 bt922.1 bt922.2.1 bt922.2.2.1))) else (laws_FnCueChanges.j0 k t898 bt922.2.2.2 bt944.1 bt944.2 true t874 t877 t880 t883 t884 t885 t886 t889 t892 t895 t900 t903 t906 t911 t914 t917 bt922.1 bt922.2.1 bt922.2.2.1)))))) = some r := H
  have A7 := am_ A70; clear A70; replace H := Option.bind_eq_some_iff.mp H; obtain ⟨⟨t922, t925, t928, t931⟩, A80, H⟩ := H; replace H : ((spec_DropCue.f k t911 t914 t917 t920).bind fun bt933 => ((impl_CountUsed.f k t874 t877 t880).bind fun bt944 => ((spec_CountUsed.f k t874 t877 t880).bind fun bt948 => (if t898 = t909 then ((laws_likeShow.f k t889 t892 t895 t900 t903 t906).bind fun t952 => (if t952 = true then (if t931 = bt933.2.2.2 then ((laws_likeShow.f k t922 t925 t928 bt933.1 bt933.2.1 bt933.2.2.1).bind fun t953 => (if t953 = true then (if bt944.2 = bt948.2 then ((laws_likeInts.f k bt944.1 bt948.1).bind fun t954 => (laws_FnCueChanges.j0 k t898 t931 bt944.1 bt944.2 (!t954) t874 t877 t880 t883 t884 t885 t886 t889 t892 t895 t900 t903 t906 t911 t914 t917 t922 t925 t928)) else (laws_FnCueChanges.j0 k t898 t931 bt944.1 bt944.2 true t874 t877 t880 t883 t884 t885 t886 t889 t892 t895 t900 t903 t906 t911 t914 t917 t922 t925 t928)) else (laws_FnCueChanges.j0 k t898 t931 bt944.1 bt944.2 true t874 t877 t880 t883 t884 t885 t886 t889 t892 t895 t900 t903 t906 t911 t914 t917 t922 t925 t928))) else (laws_FnCueChanges.j0 k t898 t931 bt944.1 bt944.2 true t874 t877 t880 t883 t884 t885 t886 t889 t892 t895 t900 t903 t906 t911 t914 t917 t922 t925 t928)) else (laws_FnCueChanges.j0 k t898 t931 bt944.1 bt944.2 true t874 t877 t880 t883 t884 t885 t886 t889 t892 t895 t900 t903 t906 t911 t914 t917 t922 t925 t928))) else (laws_FnCueChanges.j0 k t898 t931 bt944.1 bt944.2 true t874 t877 t880 t883 t884 t885 t886 t889 t892 t895 t900 t903 t906 t911 t914 t917 t922 t925 t928))))) = some r := H; have A8 := am_ A80; clear A80; replace H := Option.bind_eq_some_iff.mp H; obtain ⟨⟨t933, t936, t939, t942⟩, A90, H⟩ := H; replace H : ((impl_CountUsed.f k t874 t877 t880).bind fun bt944 => ((spec_CountUsed.f k t874 t877 t880).bind fun bt948 => (if t898 = t909 then ((laws_likeShow.f k t889 t892 t895 t900 t903 t906).bind fun t952 => (if t952 = true then (if t931 = t942 then ((laws_likeShow.f k t922 t925 t928 t933 t936 t939).bind fun t953 => (if t953 = true then (if bt944.2 = bt948.2 then ((laws_likeInts.f k bt944.1 bt948.1).bind fun t954 => (laws_FnCueChanges.j0 k t898 t931 bt944.1 bt944.2 (!t954) t874 t877 t880 t883 t884 t885 t886 t889 t892 t895 t900 t903 t906 t911 t914 t917 t922 t925 t928)) else (laws_FnCueChanges.j0 k t898 t931 bt944.1 bt944.2 true t874 t877 t880 t883 t884 t885 t886 t889 t892 t895 t900 t903 t906 t911 t914 t917 t922 t925 t928)) else (laws_FnCueChanges.j0 k t898 t931 bt944.1 bt944.2 true t874 t877 t880 t883 t884 t885 t886 t889 t892 t895 t900 t903 t906 t911 t914 t917 t922 t925 t928))) else (laws_FnCueChanges.j0 k t898 t931 bt944.1 bt944.2 true t874 t877 t880 t883 t884 t885 t886 t889 t892 t895 t900 t903 t906 t911 t914 t917 t922 t925 t928)) else (laws_FnCueChanges.j0 k t898 t931 bt944.1 bt944.2 true t874 t877 t880 t883 t884 t885 t886 t889 t892 t895 t900 t903 t906 t911 t914 t917 t922 t925 t928))) else (laws_FnCueChanges.j0 k t898 t931 bt944.1 bt944.2 true t874 t877 t880 t883 t884 t885 t886 t889 t892 t895 t900 t903 t906 t911 t914 t917 t922 t925 t928)))) = some r := H
  have A9 := am_ A90; clear A90; replace H := Option.bind_eq_some_iff.mp H; obtain ⟨⟨t944, t947⟩, A100, H⟩ := H; replace H : ((spec_CountUsed.f k t874 t877 t880).bind fun bt948 => (if t898 = t909 then ((laws_likeShow.f k t889 t892 t895 t900 t903 t906).bind fun t952 => (if t952 = true then (if t931 = t942 then ((laws_likeShow.f k t922 t925 t928 t933 t936 t939).bind fun t953 => (if t953 = true then (if t947 = bt948.2 then ((laws_likeInts.f k t944 bt948.1).bind fun t954 => (laws_FnCueChanges.j0 k t898 t931 t944 t947 (!t954) t874 t877 t880 t883 t884 t885 t886 t889 t892 t895 t900 t903 t906 t911 t914 t917 t922 t925 t928)) else (laws_FnCueChanges.j0 k t898 t931 t944 t947 true t874 t877 t880 t883 t884 t885 t886 t889 t892 t895 t900 t903 t906 t911 t914 t917 t922 t925 t928)) else (laws_FnCueChanges.j0 k t898 t931 t944 t947 true t874 t877 t880 t883 t884 t885 t886 t889 t892 t895 t900 t903 t906 t911 t914 t917 t922 t925 t928))) else (laws_FnCueChanges.j0 k t898 t931 t944 t947 true t874 t877 t880 t883 t884 t885 t886 t889 t892 t895 t900 t903 t906 t911 t914 t917 t922 t925 t928)) else (laws_FnCueChanges.j0 k t898 t931 t944 t947 true t874 t877 t880 t883 t884 t885 t886 t889 t892 t895 t900 t903 t906 t911 t914 t917 t922 t925 t928))) else (laws_FnCueChanges.j0 k t898 t931 t944 t947 true t874 t877 t880 t883 t884 t885 t886 t889 t892 t895 t900 t903 t906 t911 t914 t917 t922 t925 t928))) = some r := H; have A10 := am_ A100; clear A100; replace H := Option.bind_eq_some_iff.mp H; obtain ⟨⟨t948, t951⟩, A110, H⟩ := H; replace H : (if t898 = t909 then ((laws_likeShow.f k t889 t892 t895 t900 t903 t906).bind fun t952 => (if t952 = true then (if t931 = t942 then ((laws_likeShow.f k t922 t925 t928 t933 t936 t939).bind fun t953 => (if t953 = true then (if t947 = t951 then ((laws_likeInts.f k t944 t948).bind fun t954 => (laws_FnCueChanges.j0 k t898 t931 t944 t947 (!t954) t874 t877 t880 t883 t884 t885 t886 t889 t892 t895 t900 t903 t906 t911 t914 t917 t922 t925 t928)) else (laws_FnCueChanges.j0 k t898 t931 t944 t947 true t874 t877 t880 t883 t884 t885 t886 t889 t892 t895 t900 t903 t906 t911 t914 t917 t922 t925 t928)) else (laws_FnCueChanges.j0 k t898 t931 t944 t947 true t874 t877 t880 t883 t884 t885 t886 t889 t892 t895 t900 t903 t906 t911 t914 t917 t922 t925 t928))) else (laws_FnCueChanges.j0 k t898 t931 t944 t947 true t874 t877 t880 t883 t884 t885 t886 t889 t892 t895 t900 t903 t906 t911 t914 t917 t922 t925 t928)) else (laws_FnCueChanges.j0 k t898 t931 t944 t947 true t874 t877 t880 t883 t884 t885 t886 t889 t892 t895 t900 t903 t906 t911 t914 t917 t922 t925 t928))) else (laws_FnCueChanges.j0 k t898 t931 t944 t947 true t874 t877 t880 t883 t884 t885 t886 t889 t892 t895 t900 t903 t906 t911 t914 t917 t922 t925 t928)) = some r := H; have A11 := am_ A110; clear A110; have HC12 := am_ H; clear H
  go_enter Try.func4, Try.ntmps4
  go_upto_region 11 with (first | ((with_reducible refine gate_callee (f := 8) rfl ?_); refine gZ 22 Try.func8 #[.slice A0 l0.length c0] ?_; (with_reducible refine (laws_big.calls _ _ l0 false _ ?_ ?_ A2.out).mono ?_); exact (Zde HR0); exact HC0.out; rintro e w' ⟨rfl, ⟨nd, rfl⟩⟩; refine ⟨_, rfl, ?_⟩) | ((with_reducible refine gate_callee (f := 16) rfl ?_); refine gZ 25 Try.func16 #[.slice A0 l0.length c0] ?_; (with_reducible refine (spec_DrawAddCue.calls k _ _ l0 t874 t877 t880 t883 t884 t885 t886 _ ?_ ?_ A4.out).mono ?_); exact (Zde HR0); exact HC0.out; rintro e w13 ⟨v875, v878, v881, rfl, ho0, ho1, ho2, hb⟩; refine ⟨_, rfl, ?_⟩; replace HO876 := am_ (Kd.R_lower ho0 (below_size Zh)); replace HO879 := am_ (Kd.R_lower ho1 (below_size Zh)); replace HO882 := am_ (Kd.R_lower ho2 (below_size Zh)); replace HB := (bsZ Zh hb); clear hb ho0 ho1 ho2) | ((with_reducible refine gate_dst (N := 3) rfl ?_); (try (refine gate_guard (by rfl) ?_; dsimp only)); refine boxZ 3 #[.slice none 0 0, .slice none 0 0, .slice none 0 0] 28 ?_; intro gb887 hg w14 hbox hb; replace HO876 := (hbZ HO876 hb); replace HO879 := (hbZ HO879 hb); replace HO882 := (hbZ HO882 hb); replace BK887 := am_ (hbox); replace GW887 := am_ ((Zg : w.heap.size ≤ gb887)); replace GE887 := GW887; replace HB := (bsZ Zh hb); clear hb hbox hg) | ((with_reducible refine gate_dst (N := 4) rfl ?_); (try (refine gate_guard (by rfl) ?_; dsimp only)); refine boxZ 4 #[.int .i64 0, .int .i64 0, .string (⟨#[]⟩ : ByteArray), .int .i64 0] 39 ?_; intro gb888 hg w15 hbox hb; replace HO876 := (hbZ HO876 hb); replace HO879 := (hbZ HO879 hb); replace HO882 := am_ (Kd.R_below (Kd.R_elderB (Zt HO882) gb888 (Nat.le_of_eq hg.symm)) hb); replace BK888 := am_ (hbox); replace GW888 := am_ (((Zl GE887) : w.heap.size ≤ gb888)); replace GE888 := GW888; replace HB := (bsZ (Zj GE887) hb); replace NB887_888 := am_ (((Zdf BK887) : gb887 ≠ gb888)); replace NB888_887 := am_ (((Zdg BK887) : gb888 ≠ gb887)); replace BK887 := (bkZ BK887 hb); clear hb hbox hg; obtain ⟨Ao16, co16, eo16⟩ := Kd.R_slice HO876.out; subst eo16; have hnb17 := NB887_888.out; have hnc17 := NB888_887.out; refine ci3 BK887 ?_; intros; obtain ⟨Ao19, co19, eo19⟩ := Kd.R_slice HO879.out; subst eo19; obtain ⟨Ao20, co20, eo20⟩ := Kd.R_slice HO882.out; subst eo20; refine ci4 BK888 ?_; intros) | ((with_reducible refine gate_callee (f := 17) rfl ?_); refine gZ 31 Try.func17 #[.agg #[.slice Ao16 t874.length co16, .slice Ao19 t877.length co19, .slice Ao20 t880.length co20], .agg #[.int .i64 t883, .int .i64 t884, .string t885, .int .i64 t886]] ?_; (with_reducible refine (impl_AddCue.calls k _ _ t874 _ _ t877 _ _ t880 t883 t884 t885 t886 t889 t892 t895 t898 _ ?_ ?_ ?_ ?_ ?_ ?_ A5.out).mono ?_); refine (Kd.R_reads' (e := 104) (base := w.heap.size) (ok := fun k_ => True) (n := t874.length) (c := co16) ?_).2.2; exact (Zdh HO876 BK887 BK888); exact (Kd.R_reads' HO876.out).2.1; refine (Kd.R_reads' (e := 62) (base := w.heap.size) (ok := fun k_ => True) (n := t877.length) (c := co19) ?_).2.2; exact (Zdh HO879 BK887 BK888); exact (Kd.R_reads' HO879.out).2.1; refine (Kd.R_reads' (e := 39) (base := w.heap.size) (ok := fun k_ => (True ∧ k_ ≠ gb888)) (n := t880.length) (c := co20) ?_).2.2; exact (Zdi HO882 BK887); exact (Kd.R_reads' HO882.out).2.1; rintro e w22 ⟨v890, v893, v896, rfl, ho0, ho1, ho2, hb⟩; refine ⟨_, rfl, ?_⟩; replace HO891 := am_ (Kd.R_lower (Kd.R_new' ho0 (Kd.R_lt (Zdh HO876 BK887 BK888))) (below_size (Zo GE887 GE888))); replace HO876 := am_ (Kd.R_elder' (Zdh HO876 BK887 BK888) (Kd.R_base ho0) hb); replace HO894 := am_ (Kd.R_lower (Kd.R_new' ho1 (Kd.R_lt (Zdh HO879 BK887 BK888))) (below_size (Zo GE887 GE888))); replace HO879 := am_ (Kd.R_elder' (Zdh HO879 BK887 BK888) (Kd.R_base ho1) hb); replace HO897 := am_ (Kd.R_lower (Kd.R_newB (Kd.R_new' ho2 (Kd.R_lt (Zdi HO882 BK887))) (g := gb888) (o := .cells #[.int .i64 t883, .int .i64 t884, .string t885, .int .i64 t886] 39 (0, 0)) (bmZ BK888 NB888_887)) (below_size (Zo GE887 GE888))); replace HO882 := am_ (Kd.R_elder' (Zdi HO882 BK887) (Kd.R_base ho2) hb); replace BK887 := am_ (blk_below (g := gb887) (o := .cells #[.slice Ao16 t874.length co16, .slice Ao19 t877.length co19, .slice Ao20 t880.length co20] 28 (0, 0)) (bmZ BK887 NB887_888) hb); replace BK888 := am_ (blk_below (g := gb888) (o := .cells #[.int .i64 t883, .int .i64 t884, .string t885, .int .i64 t886] 39 (0, 0)) (bmZ BK888 NB888_887) hb); replace HB := (bsZ (Zo GE887 GE888) hb); clear hb ho0 ho1 ho2) | ((with_reducible refine gate_dst (N := 5) rfl ?_); (try (refine gate_guard (by rfl) ?_; dsimp only)); refine boxZ 5 #[.slice none 0 0, .slice none 0 0, .slice none 0 0] 28 ?_; intro gb899 hg w23 hbox hb; replace HO876 := (hbZ HO876 hb); replace HO879 := (hbZ HO879 hb); replace HO882 := (hbZ HO882 hb); replace HO891 := (hbZ HO891 hb); replace HO894 := (hbZ HO894 hb); replace HO897 := (hbZ HO897 hb); replace BK899 := am_ (hbox); replace GW899 := am_ (((Zx GE887 GE888) : w.heap.size ≤ gb899)); replace GE899 := GW899; replace HB := (bsZ (Zo GE887 GE888) hb); replace NB887_899 := am_ (((Zdf BK887) : gb887 ≠ gb899)); replace NB899_887 := am_ (((Zdg BK887) : gb899 ≠ gb887)); replace BK887 := (bkZ BK887 hb); replace NB888_899 := am_ (((Zdj BK888) : gb888 ≠ gb899)); replace NB899_888 := am_ (((Zdk BK888) : gb899 ≠ gb888)); replace BK888 := (bkZ BK888 hb); clear hb hbox hg; obtain ⟨Ao24, co24, eo24⟩ := Kd.R_slice HO891.out; subst eo24; have hnb25 := NB899_887.out; have hnc25 := NB887_899.out; have hnb26 := NB899_888.out; have hnc26 := NB888_899.out; refine ci3 BK899 ?_; intros; obtain ⟨Ao28, co28, eo28⟩ := Kd.R_slice HO894.out; subst eo28; obtain ⟨Ao29, co29, eo29⟩ := Kd.R_slice HO897.out; subst eo29; refine ci3 BK887 ?_; intros; refine ci4 BK888 ?_; intros) | ((with_reducible refine gate_callee (f := 18) rfl ?_); refine gZ 37 Try.func18 #[.agg #[.slice Ao16 t874.length co16, .slice Ao19 t877.length co19, .slice Ao20 t880.length co20], .agg #[.int .i64 t883, .int .i64 t884, .string t885, .int .i64 t886]] ?_; (with_reducible refine (spec_AddCue.calls k _ _ t874 _ _ t877 _ _ t880 t883 t884 t885 t886 t900 t903 t906 t909 _ ?_ ?_ ?_ ?_ ?_ ?_ A6.out).mono ?_); refine (Kd.R_reads' (e := 104) (base := w.heap.size) (ok := fun k_ => (True ∧ some k_ ≠ (.slice Ao24 t889.length co24 : Value).ownBlock)) (n := t874.length) (c := co16) ?_).2.2; exact (Zam HO876 BK899); exact (Kd.R_reads' HO876.out).2.1; refine (Kd.R_reads' (e := 62) (base := w.heap.size) (ok := fun k_ => (True ∧ some k_ ≠ (.slice Ao28 t892.length co28 : Value).ownBlock)) (n := t877.length) (c := co19) ?_).2.2; exact (Zam HO879 BK899); exact (Kd.R_reads' HO879.out).2.1; refine (Kd.R_reads' (e := 39) (base := w.heap.size) (ok := fun k_ => ((True ∧ k_ ≠ gb888) ∧ some k_ ≠ (.slice Ao29 t895.length co29 : Value).ownBlock)) (n := t880.length) (c := co20) ?_).2.2; exact (Zam HO882 BK899); exact (Kd.R_reads' HO882.out).2.1; rintro e w32 ⟨v901, v904, v907, rfl, ho0, ho1, ho2, hb⟩; refine ⟨_, rfl, ?_⟩; replace HO902 := am_ (Kd.R_lower (Kd.R_new' (Kd.R_new' ho0 (Kd.R_lt (Zam HO876 BK899))) (Kd.R_lt (Zam HO891 BK899))) (below_size (Zaa GE887 GE888 GE899))); replace HO876 := am_ (Kd.R_elder' (Zam HO876 BK899) (Kd.R_base ho0) hb); replace HO891 := am_ (Kd.R_elder' (Zam HO891 BK899) (Kd.R_base ho0) hb); replace HO905 := am_ (Kd.R_lower (Kd.R_new' (Kd.R_new' ho1 (Kd.R_lt (Zam HO879 BK899))) (Kd.R_lt (Zam HO894 BK899))) (below_size (Zaa GE887 GE888 GE899))); replace HO879 := am_ (Kd.R_elder' (Zam HO879 BK899) (Kd.R_base ho1) hb); replace HO894 := am_ (Kd.R_elder' (Zam HO894 BK899) (Kd.R_base ho1) hb); replace HO908 := am_ (Kd.R_lower (Kd.R_newB (Kd.R_new' (Kd.R_new' ho2 (Kd.R_lt (Zam HO882 BK899))) (Kd.R_lt (Zam HO897 BK899))) (g := gb888) (bfZ BK888 NB888_899)) (below_size (Zaa GE887 GE888 GE899))); replace HO882 := am_ (Kd.R_elder' (Zam HO882 BK899) (Kd.R_base ho2) hb); replace HO897 := am_ (Kd.R_elder' (Zam HO897 BK899) (Kd.R_base ho2) hb); replace BK887 := am_ (blk_below (g := gb887) (bfZ BK887 NB887_899) hb); replace BK888 := am_ (blk_below (g := gb888) (bfZ BK888 NB888_899) hb); replace BK899 := am_ (blk_below (g := gb899) (o := .cells #[.slice Ao24 t889.length co24, .slice Ao28 t892.length co28, .slice Ao29 t895.length co29] 28 (0, 0)) (bpZ BK899) hb); replace HB := (bsZ (Zaa GE887 GE888 GE899) hb); clear hb ho0 ho1 ho2) | ((with_reducible refine gate_dst (N := 7) rfl ?_); (try (refine gate_guard (by rfl) ?_; dsimp only)); refine boxZ 7 #[.slice none 0 0, .slice none 0 0, .slice none 0 0] 28 ?_; intro gb910 hg w33 hbox hb; replace HO876 := (hbZ HO876 hb); replace HO879 := (hbZ HO879 hb); replace HO882 := (hbZ HO882 hb); replace HO891 := (hbZ HO891 hb); replace HO894 := (hbZ HO894 hb); replace HO897 := (hbZ HO897 hb); replace HO902 := (hbZ HO902 hb); replace HO905 := (hbZ HO905 hb); replace HO908 := (hbZ HO908 hb); replace BK910 := am_ (hbox); replace GW910 := am_ (((Zae GE887 GE888 GE899) : w.heap.size ≤ gb910)); replace GE910 := GW910; replace HB := (bsZ (Zaa GE887 GE888 GE899) hb); replace NB887_910 := am_ (((Zdf BK887) : gb887 ≠ gb910)); replace NB910_887 := am_ (((Zdg BK887) : gb910 ≠ gb887)); replace BK887 := (bkZ BK887 hb); replace NB888_910 := am_ (((Zdj BK888) : gb888 ≠ gb910)); replace NB910_888 := am_ (((Zdk BK888) : gb910 ≠ gb888)); replace BK888 := (bkZ BK888 hb); replace NB899_910 := am_ ((by rw [hg]; exact Nat.ne_of_lt (blk_lt (g := gb899) (b0Z BK899)) : gb899 ≠ gb910)); replace NB910_899 := am_ ((by rw [hg]; exact Nat.ne_of_gt (blk_lt (g := gb899) (b0Z BK899)) : gb910 ≠ gb899)); replace BK899 := (bkZ BK899 hb); clear hb hbox hg; obtain ⟨Ao34, co34, eo34⟩ := Kd.R_slice HO902.out; subst eo34; have hnb35 := NB910_887.out; have hnc35 := NB887_910.out; have hnb36 := NB910_888.out; have hnc36 := NB888_910.out; have hnb37 := NB910_899.out; have hnc37 := NB899_910.out; refine ci3 BK910 ?_; intros; obtain ⟨Ao39, co39, eo39⟩ := Kd.R_slice HO905.out; subst eo39; obtain ⟨Ao40, co40, eo40⟩ := Kd.R_slice HO908.out; subst eo40) | ((with_reducible refine gate_callee (f := 19) rfl ?_); refine gZ 42 Try.func19 #[.slice A0 l0.length c0] ?_; (with_reducible refine (spec_DrawDropCue.calls k _ _ l0 t911 t914 t917 t920 _ ?_ ?_ A7.out).mono ?_); exact Kd.C_below HR0.out (Zah GE887 GE888 GE899 GE910); exact HC0.out; rintro e w41 ⟨v912, v915, v918, rfl, ho0, ho1, ho2, hb⟩; refine ⟨_, rfl, ?_⟩; replace HO913 := am_ (Kd.R_lower (Kd.R_new' (Kd.R_new' (Kd.R_new' ho0 (Kd.R_lt (Zam HO876 BK910))) (Kd.R_lt (Zam HO891 BK910))) (Kd.R_lt (Zam HO902 BK910))) (below_size (Zah GE887 GE888 GE899 GE910))); replace HO876 := am_ (Kd.R_elder' (Zam HO876 BK910) (Kd.R_base ho0) hb); replace HO891 := am_ (Kd.R_elder' (Zam HO891 BK910) (Kd.R_base ho0) hb); replace HO902 := am_ (Kd.R_elder' (Zam HO902 BK910) (Kd.R_base ho0) hb); replace HO916 := am_ (Kd.R_lower (Kd.R_new' (Kd.R_new' (Kd.R_new' ho1 (Kd.R_lt (Zam HO879 BK910))) (Kd.R_lt (Zam HO894 BK910))) (Kd.R_lt (Zam HO905 BK910))) (below_size (Zah GE887 GE888 GE899 GE910))); replace HO879 := am_ (Kd.R_elder' (Zam HO879 BK910) (Kd.R_base ho1) hb); replace HO894 := am_ (Kd.R_elder' (Zam HO894 BK910) (Kd.R_base ho1) hb); replace HO905 := am_ (Kd.R_elder' (Zam HO905 BK910) (Kd.R_base ho1) hb); replace HO919 := am_ (Kd.R_lower (Kd.R_newB (Kd.R_new' (Kd.R_new' (Kd.R_new' ho2 (Kd.R_lt (Zam HO882 BK910))) (Kd.R_lt (Zam HO897 BK910))) (Kd.R_lt (Zam HO908 BK910))) (g := gb888) (bfZ BK888 NB888_910)) (below_size (Zah GE887 GE888 GE899 GE910))); replace HO882 := am_ (Kd.R_elder' (Zam HO882 BK910) (Kd.R_base ho2) hb); replace HO897 := am_ (Kd.R_elder' (Zam HO897 BK910) (Kd.R_base ho2) hb); replace HO908 := am_ (Kd.R_elder' (Zam HO908 BK910) (Kd.R_base ho2) hb); replace BK887 := am_ (blk_below (g := gb887) (bfZ BK887 NB887_910) hb); replace BK888 := am_ (blk_below (g := gb888) (bfZ BK888 NB888_910) hb); replace BK899 := am_ (blk_below (g := gb899) (bfZ BK899 NB899_910) hb); replace BK910 := am_ (blk_below (g := gb910) (o := .cells #[.slice Ao34 t900.length co34, .slice Ao39 t903.length co39, .slice Ao40 t906.length co40] 28 (0, 0)) (bpZ BK910) hb); replace HB := (bsZ (Zah GE887 GE888 GE899 GE910) hb); clear hb ho0 ho1 ho2) | ((with_reducible refine gate_dst (N := 9) rfl ?_); (try (refine gate_guard (by rfl) ?_; dsimp only)); refine boxZ 9 #[.slice none 0 0, .slice none 0 0, .slice none 0 0] 28 ?_; intro gb921 hg w42 hbox hb; replace HO876 := (hbZ HO876 hb); replace HO879 := (hbZ HO879 hb); replace HO882 := (hbZ HO882 hb); replace HO891 := (hbZ HO891 hb); replace HO894 := (hbZ HO894 hb); replace HO897 := (hbZ HO897 hb); replace HO902 := (hbZ HO902 hb); replace HO905 := (hbZ HO905 hb); replace HO908 := (hbZ HO908 hb); replace HO913 := (hbZ HO913 hb); replace HO916 := (hbZ HO916 hb); replace HO919 := (hbZ HO919 hb); replace BK921 := am_ (hbox); replace GW921 := am_ ((by rw [hg]; exact (below_size (Zah GE887 GE888 GE899 GE910)) : w.heap.size ≤ gb921)); replace GE921 := GW921; replace HB := (bsZ (Zah GE887 GE888 GE899 GE910) hb); replace NB887_921 := am_ (((Zdf BK887) : gb887 ≠ gb921)); replace NB921_887 := am_ (((Zdg BK887) : gb921 ≠ gb887)); replace BK887 := (bkZ BK887 hb); replace NB888_921 := am_ (((Zdj BK888) : gb888 ≠ gb921)); replace NB921_888 := am_ (((Zdk BK888) : gb921 ≠ gb888)); replace BK888 := (bkZ BK888 hb); replace NB899_921 := am_ ((by rw [hg]; exact Nat.ne_of_lt (blk_lt (g := gb899) (b0Z BK899)) : gb899 ≠ gb921)); replace NB921_899 := am_ ((by rw [hg]; exact Nat.ne_of_gt (blk_lt (g := gb899) (b0Z BK899)) : gb921 ≠ gb899)); replace BK899 := (bkZ BK899 hb); replace NB910_921 := am_ ((by rw [hg]; exact Nat.ne_of_lt (blk_lt (g := gb910) (b0Z BK910)) : gb910 ≠ gb921)); replace NB921_910 := am_ ((by rw [hg]; exact Nat.ne_of_gt (blk_lt (g := gb910) (b0Z BK910)) : gb921 ≠ gb910)); replace BK910 := (bkZ BK910 hb); clear hb hbox hg; obtain ⟨Ao43, co43, eo43⟩ := Kd.R_slice HO913.out; subst eo43; have hnb44 := NB921_887.out; have hnc44 := NB887_921.out; have hnb45 := NB921_888.out; have hnc45 := NB888_921.out; have hnb46 := NB921_899.out; have hnc46 := NB899_921.out; have hnb47 := NB921_910.out; have hnc47 := NB910_921.out; refine ci3 BK921 ?_; intros; obtain ⟨Ao49, co49, eo49⟩ := Kd.R_slice HO916.out; subst eo49; obtain ⟨Ao50, co50, eo50⟩ := Kd.R_slice HO919.out; subst eo50) | ((with_reducible refine gate_callee (f := 20) rfl ?_); refine gZ 48 Try.func20 #[.agg #[.slice Ao43 t911.length co43, .slice Ao49 t914.length co49, .slice Ao50 t917.length co50], .int .i64 t920] ?_; (with_reducible refine (impl_DropCue.calls k _ _ t911 _ _ t914 _ _ t917 t920 t922 t925 t928 t931 _ ?_ ?_ ?_ ?_ ?_ ?_ A8.out).mono ?_); refine (Kd.R_reads' (e := 104) (base := w.heap.size) (ok := fun k_ => (((True ∧ some k_ ≠ (.slice Ao16 t874.length co16 : Value).ownBlock) ∧ some k_ ≠ (.slice Ao24 t889.length co24 : Value).ownBlock) ∧ some k_ ≠ (.slice Ao34 t900.length co34 : Value).ownBlock)) (n := t911.length) (c := co43) ?_).2.2; exact (Zam HO913 BK921); exact (Kd.R_reads' HO913.out).2.1; refine (Kd.R_reads' (e := 62) (base := w.heap.size) (ok := fun k_ => (((True ∧ some k_ ≠ (.slice Ao19 t877.length co19 : Value).ownBlock) ∧ some k_ ≠ (.slice Ao28 t892.length co28 : Value).ownBlock) ∧ some k_ ≠ (.slice Ao39 t903.length co39 : Value).ownBlock)) (n := t914.length) (c := co49) ?_).2.2; exact (Zam HO916 BK921); exact (Kd.R_reads' HO916.out).2.1; refine (Kd.R_reads' (e := 39) (base := w.heap.size) (ok := fun k_ => ((((True ∧ some k_ ≠ (.slice Ao20 t880.length co20 : Value).ownBlock) ∧ some k_ ≠ (.slice Ao29 t895.length co29 : Value).ownBlock) ∧ some k_ ≠ (.slice Ao40 t906.length co40 : Value).ownBlock) ∧ k_ ≠ gb888)) (n := t917.length) (c := co50) ?_).2.2; exact (Zam HO919 BK921); exact (Kd.R_reads' HO919.out).2.1; rintro e w51 ⟨v923, v926, v929, rfl, ho0, ho1, ho2, hb⟩; refine ⟨_, rfl, ?_⟩; replace HO924 := am_ (Kd.R_lower (Kd.R_new' (Kd.R_new' (Kd.R_new' (Kd.R_new' ho0 (Kd.R_lt (Zam HO876 BK921))) (Kd.R_lt (Zam HO891 BK921))) (Kd.R_lt (Zam HO902 BK921))) (Kd.R_lt (Zam HO913 BK921))) (below_size (Zdl GE887 GE888 GE899 GE910 GE921))); replace HO876 := am_ (Kd.R_elder' (Zam HO876 BK921) (Kd.R_base ho0) hb); replace HO891 := am_ (Kd.R_elder' (Zam HO891 BK921) (Kd.R_base ho0) hb); replace HO902 := am_ (Kd.R_elder' (Zam HO902 BK921) (Kd.R_base ho0) hb); replace HO913 := am_ (Kd.R_elder' (Zam HO913 BK921) (Kd.R_base ho0) hb); replace HO927 := am_ (Kd.R_lower (Kd.R_new' (Kd.R_new' (Kd.R_new' (Kd.R_new' ho1 (Kd.R_lt (Zam HO879 BK921))) (Kd.R_lt (Zam HO894 BK921))) (Kd.R_lt (Zam HO905 BK921))) (Kd.R_lt (Zam HO916 BK921))) (below_size (Zdl GE887 GE888 GE899 GE910 GE921))); replace HO879 := am_ (Kd.R_elder' (Zam HO879 BK921) (Kd.R_base ho1) hb); replace HO894 := am_ (Kd.R_elder' (Zam HO894 BK921) (Kd.R_base ho1) hb); replace HO905 := am_ (Kd.R_elder' (Zam HO905 BK921) (Kd.R_base ho1) hb); replace HO916 := am_ (Kd.R_elder' (Zam HO916 BK921) (Kd.R_base ho1) hb); replace HO930 := am_ (Kd.R_lower (Kd.R_newB (Kd.R_new' (Kd.R_new' (Kd.R_new' (Kd.R_new' ho2 (Kd.R_lt (Zam HO882 BK921))) (Kd.R_lt (Zam HO897 BK921))) (Kd.R_lt (Zam HO908 BK921))) (Kd.R_lt (Zam HO919 BK921))) (g := gb888) (bfZ BK888 NB888_921)) (below_size (Zdl GE887 GE888 GE899 GE910 GE921))); replace HO882 := am_ (Kd.R_elder' (Zam HO882 BK921) (Kd.R_base ho2) hb); replace HO897 := am_ (Kd.R_elder' (Zam HO897 BK921) (Kd.R_base ho2) hb); replace HO908 := am_ (Kd.R_elder' (Zam HO908 BK921) (Kd.R_base ho2) hb); replace HO919 := am_ (Kd.R_elder' (Zam HO919 BK921) (Kd.R_base ho2) hb); replace BK887 := am_ (blk_below (g := gb887) (bfZ BK887 NB887_921) hb); replace BK888 := am_ (blk_below (g := gb888) (bfZ BK888 NB888_921) hb); replace BK899 := am_ (blk_below (g := gb899) (bfZ BK899 NB899_921) hb); replace BK910 := am_ (blk_below (g := gb910) (bfZ BK910 NB910_921) hb); replace BK921 := am_ (blk_below (g := gb921) (o := .cells #[.slice Ao43 t911.length co43, .slice Ao49 t914.length co49, .slice Ao50 t917.length co50] 28 (0, 0)) (bpZ BK921) hb); replace HB := (bsZ (Zdl GE887 GE888 GE899 GE910 GE921) hb); clear hb ho0 ho1 ho2) | ((with_reducible refine gate_dst (N := 11) rfl ?_); (try (refine gate_guard (by rfl) ?_; dsimp only)); refine boxZ 11 #[.slice none 0 0, .slice none 0 0, .slice none 0 0] 28 ?_; intro gb932 hg w52 hbox hb; replace HO876 := (hbZ HO876 hb); replace HO879 := (hbZ HO879 hb); replace HO882 := (hbZ HO882 hb); replace HO891 := (hbZ HO891 hb); replace HO894 := (hbZ HO894 hb); replace HO897 := (hbZ HO897 hb); replace HO902 := (hbZ HO902 hb); replace HO905 := (hbZ HO905 hb); replace HO908 := (hbZ HO908 hb); replace HO913 := (hbZ HO913 hb); replace HO916 := (hbZ HO916 hb); replace HO919 := (hbZ HO919 hb); replace HO924 := (hbZ HO924 hb); replace HO927 := (hbZ HO927 hb); replace HO930 := (hbZ HO930 hb); replace BK932 := am_ (hbox); replace GW932 := am_ ((by rw [hg]; exact (below_size (Zdl GE887 GE888 GE899 GE910 GE921)) : w.heap.size ≤ gb932)); replace GE932 := GW932; replace HB := (bsZ (Zdl GE887 GE888 GE899 GE910 GE921) hb); replace NB887_932 := am_ (((Zdf BK887) : gb887 ≠ gb932)); replace NB932_887 := am_ (((Zdg BK887) : gb932 ≠ gb887)); replace BK887 := (bkZ BK887 hb); replace NB888_932 := am_ (((Zdj BK888) : gb888 ≠ gb932)); replace NB932_888 := am_ (((Zdk BK888) : gb932 ≠ gb888)); replace BK888 := (bkZ BK888 hb); replace NB899_932 := am_ ((by rw [hg]; exact Nat.ne_of_lt (blk_lt (g := gb899) (b0Z BK899)) : gb899 ≠ gb932)); replace NB932_899 := am_ ((by rw [hg]; exact Nat.ne_of_gt (blk_lt (g := gb899) (b0Z BK899)) : gb932 ≠ gb899)); replace BK899 := (bkZ BK899 hb); replace NB910_932 := am_ ((by rw [hg]; exact Nat.ne_of_lt (blk_lt (g := gb910) (b0Z BK910)) : gb910 ≠ gb932)); replace NB932_910 := am_ ((by rw [hg]; exact Nat.ne_of_gt (blk_lt (g := gb910) (b0Z BK910)) : gb932 ≠ gb910)); replace BK910 := (bkZ BK910 hb); replace NB921_932 := am_ ((by rw [hg]; exact Nat.ne_of_lt (blk_lt (g := gb921) (b0Z BK921)) : gb921 ≠ gb932)); replace NB932_921 := am_ ((by rw [hg]; exact Nat.ne_of_gt (blk_lt (g := gb921) (b0Z BK921)) : gb932 ≠ gb921)); replace BK921 := (bkZ BK921 hb); clear hb hbox hg; obtain ⟨Ao53, co53, eo53⟩ := Kd.R_slice HO924.out; subst eo53; have hnb54 := NB932_887.out; have hnc54 := NB887_932.out; have hnb55 := NB932_888.out; have hnc55 := NB888_932.out; have hnb56 := NB932_899.out; have hnc56 := NB899_932.out; have hnb57 := NB932_910.out; have hnc57 := NB910_932.out; have hnb58 := NB932_921.out; have hnc58 := NB921_932.out; refine ci3 BK932 ?_; intros; obtain ⟨Ao60, co60, eo60⟩ := Kd.R_slice HO927.out; subst eo60; obtain ⟨Ao61, co61, eo61⟩ := Kd.R_slice HO930.out; subst eo61; refine ci3 BK921 ?_; intros) | ((with_reducible refine gate_callee (f := 21) rfl ?_); refine gZ 54 Try.func21 #[.agg #[.slice Ao43 t911.length co43, .slice Ao49 t914.length co49, .slice Ao50 t917.length co50], .int .i64 t920] ?_; (with_reducible refine (spec_DropCue.calls k _ _ t911 _ _ t914 _ _ t917 t920 t933 t936 t939 t942 _ ?_ ?_ ?_ ?_ ?_ ?_ A9.out).mono ?_); refine (Kd.R_reads' (e := 104) (base := w.heap.size) (ok := fun k_ => ((((True ∧ some k_ ≠ (.slice Ao16 t874.length co16 : Value).ownBlock) ∧ some k_ ≠ (.slice Ao24 t889.length co24 : Value).ownBlock) ∧ some k_ ≠ (.slice Ao34 t900.length co34 : Value).ownBlock) ∧ some k_ ≠ (.slice Ao53 t922.length co53 : Value).ownBlock)) (n := t911.length) (c := co43) ?_).2.2; exact (Zam HO913 BK932); exact (Kd.R_reads' HO913.out).2.1; refine (Kd.R_reads' (e := 62) (base := w.heap.size) (ok := fun k_ => ((((True ∧ some k_ ≠ (.slice Ao19 t877.length co19 : Value).ownBlock) ∧ some k_ ≠ (.slice Ao28 t892.length co28 : Value).ownBlock) ∧ some k_ ≠ (.slice Ao39 t903.length co39 : Value).ownBlock) ∧ some k_ ≠ (.slice Ao60 t925.length co60 : Value).ownBlock)) (n := t914.length) (c := co49) ?_).2.2; exact (Zam HO916 BK932); exact (Kd.R_reads' HO916.out).2.1; refine (Kd.R_reads' (e := 39) (base := w.heap.size) (ok := fun k_ => (((((True ∧ some k_ ≠ (.slice Ao20 t880.length co20 : Value).ownBlock) ∧ some k_ ≠ (.slice Ao29 t895.length co29 : Value).ownBlock) ∧ some k_ ≠ (.slice Ao40 t906.length co40 : Value).ownBlock) ∧ k_ ≠ gb888) ∧ some k_ ≠ (.slice Ao61 t928.length co61 : Value).ownBlock)) (n := t917.length) (c := co50) ?_).2.2; exact (Zam HO919 BK932); exact (Kd.R_reads' HO919.out).2.1; rintro e w63 ⟨v934, v937, v940, rfl, ho0, ho1, ho2, hb⟩; refine ⟨_, rfl, ?_⟩; replace HO935 := am_ (Kd.R_lower (Kd.R_new' (Kd.R_new' (Kd.R_new' (Kd.R_new' (Kd.R_new' ho0 (Kd.R_lt (Zam HO876 BK932))) (Kd.R_lt (Zam HO891 BK932))) (Kd.R_lt (Zam HO902 BK932))) (Kd.R_lt (Zam HO913 BK932))) (Kd.R_lt (Zam HO924 BK932))) (below_size (Zdm GE887 GE888 GE899 GE910 GE921 GE932))); replace HO876 := am_ (Kd.R_elder' (Zam HO876 BK932) (Kd.R_base ho0) hb); replace HO891 := am_ (Kd.R_elder' (Zam HO891 BK932) (Kd.R_base ho0) hb); replace HO902 := am_ (Kd.R_elder' (Zam HO902 BK932) (Kd.R_base ho0) hb); replace HO913 := am_ (Kd.R_elder' (Zam HO913 BK932) (Kd.R_base ho0) hb); replace HO924 := am_ (Kd.R_elder' (Zam HO924 BK932) (Kd.R_base ho0) hb); replace HO938 := am_ (Kd.R_lower (Kd.R_new' (Kd.R_new' (Kd.R_new' (Kd.R_new' (Kd.R_new' ho1 (Kd.R_lt (Zam HO879 BK932))) (Kd.R_lt (Zam HO894 BK932))) (Kd.R_lt (Zam HO905 BK932))) (Kd.R_lt (Zam HO916 BK932))) (Kd.R_lt (Zam HO927 BK932))) (below_size (Zdm GE887 GE888 GE899 GE910 GE921 GE932))); replace HO879 := am_ (Kd.R_elder' (Zam HO879 BK932) (Kd.R_base ho1) hb); replace HO894 := am_ (Kd.R_elder' (Zam HO894 BK932) (Kd.R_base ho1) hb); replace HO905 := am_ (Kd.R_elder' (Zam HO905 BK932) (Kd.R_base ho1) hb); replace HO916 := am_ (Kd.R_elder' (Zam HO916 BK932) (Kd.R_base ho1) hb); replace HO927 := am_ (Kd.R_elder' (Zam HO927 BK932) (Kd.R_base ho1) hb); replace HO941 := am_ (Kd.R_lower (Kd.R_newB (Kd.R_new' (Kd.R_new' (Kd.R_new' (Kd.R_new' (Kd.R_new' ho2 (Kd.R_lt (Zam HO882 BK932))) (Kd.R_lt (Zam HO897 BK932))) (Kd.R_lt (Zam HO908 BK932))) (Kd.R_lt (Zam HO919 BK932))) (Kd.R_lt (Zam HO930 BK932))) (g := gb888) (bfZ BK888 NB888_932)) (below_size (Zdm GE887 GE888 GE899 GE910 GE921 GE932))); replace HO882 := am_ (Kd.R_elder' (Zam HO882 BK932) (Kd.R_base ho2) hb); replace HO897 := am_ (Kd.R_elder' (Zam HO897 BK932) (Kd.R_base ho2) hb); replace HO908 := am_ (Kd.R_elder' (Zam HO908 BK932) (Kd.R_base ho2) hb); replace HO919 := am_ (Kd.R_elder' (Zam HO919 BK932) (Kd.R_base ho2) hb); replace HO930 := am_ (Kd.R_elder' (Zam HO930 BK932) (Kd.R_base ho2) hb); replace BK887 := am_ (blk_below (g := gb887) (bfZ BK887 NB887_932) hb); replace BK888 := am_ (blk_below (g := gb888) (bfZ BK888 NB888_932) hb); replace BK899 := am_ (blk_below (g := gb899) (bfZ BK899 NB899_932) hb); replace BK910 := am_ (blk_below (g := gb910) (bfZ BK910 NB910_932) hb); replace BK921 := am_ (blk_below (g := gb921) (bfZ BK921 NB921_932) hb); replace BK932 := am_ (blk_below (g := gb932) (o := .cells #[.slice Ao53 t922.length co53, .slice Ao60 t925.length co60, .slice Ao61 t928.length co61] 28 (0, 0)) (bpZ BK932) hb); replace HB := (bsZ (Zdm GE887 GE888 GE899 GE910 GE921 GE932) hb); clear hb ho0 ho1 ho2) | ((with_reducible refine gate_dst (N := 13) rfl ?_); (try (refine gate_guard (by rfl) ?_; dsimp only)); refine boxZ 13 #[.slice none 0 0, .slice none 0 0, .slice none 0 0] 28 ?_; intro gb943 hg w64 hbox hb; replace HO876 := (hbZ HO876 hb); replace HO879 := (hbZ HO879 hb); replace HO882 := (hbZ HO882 hb); replace HO891 := (hbZ HO891 hb); replace HO894 := (hbZ HO894 hb); replace HO897 := (hbZ HO897 hb); replace HO902 := (hbZ HO902 hb); replace HO905 := (hbZ HO905 hb); replace HO908 := (hbZ HO908 hb); replace HO913 := (hbZ HO913 hb); replace HO916 := (hbZ HO916 hb); replace HO919 := (hbZ HO919 hb); replace HO924 := (hbZ HO924 hb); replace HO927 := (hbZ HO927 hb); replace HO930 := (hbZ HO930 hb); replace HO935 := (hbZ HO935 hb); replace HO938 := (hbZ HO938 hb); replace HO941 := (hbZ HO941 hb); replace BK943 := am_ (hbox); replace GW943 := am_ ((by rw [hg]; exact (below_size (Zdm GE887 GE888 GE899 GE910 GE921 GE932)) : w.heap.size ≤ gb943)); replace GE943 := GW943; replace HB := (bsZ (Zdm GE887 GE888 GE899 GE910 GE921 GE932) hb); replace NB887_943 := am_ (((Zdf BK887) : gb887 ≠ gb943)); replace NB943_887 := am_ (((Zdg BK887) : gb943 ≠ gb887)); replace BK887 := (bkZ BK887 hb); replace NB888_943 := am_ (((Zdj BK888) : gb888 ≠ gb943)); replace NB943_888 := am_ (((Zdk BK888) : gb943 ≠ gb888)); replace BK888 := (bkZ BK888 hb); replace NB899_943 := am_ ((by rw [hg]; exact Nat.ne_of_lt (blk_lt (g := gb899) (b0Z BK899)) : gb899 ≠ gb943)); replace NB943_899 := am_ ((by rw [hg]; exact Nat.ne_of_gt (blk_lt (g := gb899) (b0Z BK899)) : gb943 ≠ gb899)); replace BK899 := (bkZ BK899 hb); replace NB910_943 := am_ ((by rw [hg]; exact Nat.ne_of_lt (blk_lt (g := gb910) (b0Z BK910)) : gb910 ≠ gb943)); replace NB943_910 := am_ ((by rw [hg]; exact Nat.ne_of_gt (blk_lt (g := gb910) (b0Z BK910)) : gb943 ≠ gb910)); replace BK910 := (bkZ BK910 hb); replace NB921_943 := am_ ((by rw [hg]; exact Nat.ne_of_lt (blk_lt (g := gb921) (b0Z BK921)) : gb921 ≠ gb943)); replace NB943_921 := am_ ((by rw [hg]; exact Nat.ne_of_gt (blk_lt (g := gb921) (b0Z BK921)) : gb943 ≠ gb921)); replace BK921 := (bkZ BK921 hb); replace NB932_943 := am_ ((by rw [hg]; exact Nat.ne_of_lt (blk_lt (g := gb932) (b0Z BK932)) : gb932 ≠ gb943)); replace NB943_932 := am_ ((by rw [hg]; exact Nat.ne_of_gt (blk_lt (g := gb932) (b0Z BK932)) : gb943 ≠ gb932)); replace BK932 := (bkZ BK932 hb); clear hb hbox hg; obtain ⟨Ao65, co65, eo65⟩ := Kd.R_slice HO935.out; subst eo65; have hnb66 := NB943_887.out; have hnc66 := NB887_943.out; have hnb67 := NB943_888.out; have hnc67 := NB888_943.out; have hnb68 := NB943_899.out; have hnc68 := NB899_943.out; have hnb69 := NB943_910.out; have hnc69 := NB910_943.out; have hnb70 := NB943_921.out; have hnc70 := NB921_943.out; have hnb71 := NB943_932.out; have hnc71 := NB932_943.out; refine ci3 BK943 ?_; intros; obtain ⟨Ao73, co73, eo73⟩ := Kd.R_slice HO938.out; subst eo73; obtain ⟨Ao74, co74, eo74⟩ := Kd.R_slice HO941.out; subst eo74; refine ci3 BK887 ?_; intros) | ((with_reducible refine gate_callee (f := 22) rfl ?_); refine gZ 59 Try.func22 #[.agg #[.slice Ao16 t874.length co16, .slice Ao19 t877.length co19, .slice Ao20 t880.length co20]] ?_; (with_reducible refine (impl_CountUsed.calls k _ _ t874 _ _ t877 _ _ t880 t944 t947 _ ?_ ?_ ?_ ?_ ?_ ?_ A10.out).mono ?_); refine (Kd.R_reads' (e := 104) (base := w.heap.size) (ok := fun k_ => (((((True ∧ some k_ ≠ (.slice Ao24 t889.length co24 : Value).ownBlock) ∧ some k_ ≠ (.slice Ao34 t900.length co34 : Value).ownBlock) ∧ some k_ ≠ (.slice Ao43 t911.length co43 : Value).ownBlock) ∧ some k_ ≠ (.slice Ao53 t922.length co53 : Value).ownBlock) ∧ some k_ ≠ (.slice Ao65 t933.length co65 : Value).ownBlock)) (n := t874.length) (c := co16) ?_).2.2; exact (Zam HO876 BK943); exact (Kd.R_reads' HO876.out).2.1; refine (Kd.R_reads' (e := 62) (base := w.heap.size) (ok := fun k_ => (((((True ∧ some k_ ≠ (.slice Ao28 t892.length co28 : Value).ownBlock) ∧ some k_ ≠ (.slice Ao39 t903.length co39 : Value).ownBlock) ∧ some k_ ≠ (.slice Ao49 t914.length co49 : Value).ownBlock) ∧ some k_ ≠ (.slice Ao60 t925.length co60 : Value).ownBlock) ∧ some k_ ≠ (.slice Ao73 t936.length co73 : Value).ownBlock)) (n := t877.length) (c := co19) ?_).2.2; exact (Zam HO879 BK943); exact (Kd.R_reads' HO879.out).2.1; refine (Kd.R_reads' (e := 39) (base := w.heap.size) (ok := fun k_ => ((((((True ∧ k_ ≠ gb888) ∧ some k_ ≠ (.slice Ao29 t895.length co29 : Value).ownBlock) ∧ some k_ ≠ (.slice Ao40 t906.length co40 : Value).ownBlock) ∧ some k_ ≠ (.slice Ao50 t917.length co50 : Value).ownBlock) ∧ some k_ ≠ (.slice Ao61 t928.length co61 : Value).ownBlock) ∧ some k_ ≠ (.slice Ao74 t939.length co74 : Value).ownBlock)) (n := t880.length) (c := co20) ?_).2.2; exact (Zam HO882 BK943); exact (Kd.R_reads' HO882.out).2.1; rintro e w76 ⟨v945, rfl, ho0, hb⟩; refine ⟨_, rfl, ?_⟩; replace HO876 := am_ (Kd.R_below (Zam HO876 BK943) hb); replace HO879 := am_ (Kd.R_below (Zam HO879 BK943) hb); replace HO882 := am_ (Kd.R_below (Zam HO882 BK943) hb); replace HO891 := am_ (Kd.R_below (Zam HO891 BK943) hb); replace HO894 := am_ (Kd.R_below (Zam HO894 BK943) hb); replace HO897 := am_ (Kd.R_below (Zam HO897 BK943) hb); replace HO902 := am_ (Kd.R_below (Zam HO902 BK943) hb); replace HO905 := am_ (Kd.R_below (Zam HO905 BK943) hb); replace HO908 := am_ (Kd.R_below (Zam HO908 BK943) hb); replace HO913 := am_ (Kd.R_below (Zam HO913 BK943) hb); replace HO916 := am_ (Kd.R_below (Zam HO916 BK943) hb); replace HO919 := am_ (Kd.R_below (Zam HO919 BK943) hb); replace HO924 := am_ (Kd.R_below (Zam HO924 BK943) hb); replace HO927 := am_ (Kd.R_below (Zam HO927 BK943) hb); replace HO930 := am_ (Kd.R_below (Zam HO930 BK943) hb); replace HO935 := am_ (Kd.R_below (Zam HO935 BK943) hb); replace HO938 := am_ (Kd.R_below (Zam HO938 BK943) hb); replace HO941 := am_ (Kd.R_below (Zam HO941 BK943) hb); replace HO946 := am_ (Kd.R_lower ho0 (below_size (Zdn GE887 GE888 GE899 GE910 GE921 GE932 GE943))); replace BK887 := am_ (blk_below (g := gb887) (bfZ BK887 NB887_943) hb); replace BK888 := am_ (blk_below (g := gb888) (bfZ BK888 NB888_943) hb); replace BK899 := am_ (blk_below (g := gb899) (bfZ BK899 NB899_943) hb); replace BK910 := am_ (blk_below (g := gb910) (bfZ BK910 NB910_943) hb); replace BK921 := am_ (blk_below (g := gb921) (bfZ BK921 NB921_943) hb); replace BK932 := am_ (blk_below (g := gb932) (bfZ BK932 NB932_943) hb); replace BK943 := am_ (blk_below (g := gb943) (o := .cells #[.slice Ao65 t933.length co65, .slice Ao73 t936.length co73, .slice Ao74 t939.length co74] 28 (0, 0)) (bpZ BK943) hb); replace HB := (bsZ (Zdn GE887 GE888 GE899 GE910 GE921 GE932 GE943) hb); clear hb ho0; refine ci3 BK887 ?_; intros) | ((with_reducible refine gate_callee (f := 23) rfl ?_); refine gZ 64 Try.func23 #[.agg #[.slice Ao16 t874.length co16, .slice Ao19 t877.length co19, .slice Ao20 t880.length co20]] ?_; (with_reducible refine (spec_CountUsed.calls k _ _ t874 _ _ t877 _ _ t880 t948 t951 _ ?_ ?_ ?_ ?_ ?_ ?_ A11.out).mono ?_); exact (Zak HO876); exact (Kd.R_reads' HO876.out).2.1; exact (Zak HO879); exact (Kd.R_reads' HO879.out).2.1; exact (Zak HO882); exact (Kd.R_reads' HO882.out).2.1; rintro e w78 ⟨v949, rfl, ho0, hb⟩; refine ⟨_, rfl, ?_⟩; replace HO876 := (hbZ HO876 hb); replace HO879 := (hbZ HO879 hb); replace HO882 := (hbZ HO882 hb); replace HO891 := (hbZ HO891 hb); replace HO894 := (hbZ HO894 hb); replace HO897 := (hbZ HO897 hb); replace HO902 := (hbZ HO902 hb); replace HO905 := (hbZ HO905 hb); replace HO908 := (hbZ HO908 hb); replace HO913 := (hbZ HO913 hb); replace HO916 := (hbZ HO916 hb); replace HO919 := (hbZ HO919 hb); replace HO924 := (hbZ HO924 hb); replace HO927 := (hbZ HO927 hb); replace HO930 := (hbZ HO930 hb); replace HO935 := (hbZ HO935 hb); replace HO938 := (hbZ HO938 hb); replace HO941 := (hbZ HO941 hb); replace HO950 := am_ (Kd.R_lower (Kd.R_new' ho0 (Kd.R_lt (Zt HO946))) (below_size (Zdn GE887 GE888 GE899 GE910 GE921 GE932 GE943))); replace HO946 := am_ (Kd.R_elder' (Zt HO946) (Kd.R_base ho0) hb); replace BK887 := (bkZ BK887 hb); replace BK888 := (bkZ BK888 hb); replace BK899 := (bkZ BK899 hb); replace BK910 := (bkZ BK910 hb); replace BK921 := (bkZ BK921 hb); replace BK932 := (bkZ BK932 hb); replace BK943 := (bkZ BK943 hb); replace HB := (bsZ (Zdn GE887 GE888 GE899 GE910 GE921 GE932 GE943) hb); clear hb ho0))
  (try simp only [Act.put, List.setIfInBounds_toArray, List.set_cons_zero, List.set_cons_succ])
  go_cut [97] (fun v97 wc => ∃ (kq : Nat) (x97_11 : Bool), v97 = .bool x97_11 ∧ Aside0 (laws_FnCueChanges.j0 kq t898 t931 t944 t947 x97_11 t874 t877 t880 t883 t884 t885 t886 t889 t892 t895 t900 t903 t906 t911 t914 t917 t922 t925 t928 = some r) ∧ Aside0 (kq ≤ k) ∧ Aside0 (Kd.R (Kd.int .i64) 2 wc w.heap.size (fun _ => True) v945 t944) ∧ Aside0 (Kd.R k104 104 wc w.heap.size (fun k_ => some k_ ≠ ((.slice Ao24 t889.length co24) : Value).ownBlock ∧ some k_ ≠ ((.slice Ao34 t900.length co34) : Value).ownBlock ∧ some k_ ≠ ((.slice Ao43 t911.length co43) : Value).ownBlock ∧ some k_ ≠ ((.slice Ao53 t922.length co53) : Value).ownBlock ∧ some k_ ≠ ((.slice Ao65 t933.length co65) : Value).ownBlock) (.slice Ao16 t874.length co16) t874) ∧ Aside0 (Kd.R k62 62 wc w.heap.size (fun k_ => some k_ ≠ ((.slice Ao28 t892.length co28) : Value).ownBlock ∧ some k_ ≠ ((.slice Ao39 t903.length co39) : Value).ownBlock ∧ some k_ ≠ ((.slice Ao49 t914.length co49) : Value).ownBlock ∧ some k_ ≠ ((.slice Ao60 t925.length co60) : Value).ownBlock ∧ some k_ ≠ ((.slice Ao73 t936.length co73) : Value).ownBlock) (.slice Ao19 t877.length co19) t877) ∧ Aside0 (Kd.R k39 39 wc w.heap.size (fun k_ => some k_ ≠ ((.slice Ao29 t895.length co29) : Value).ownBlock ∧ some k_ ≠ ((.slice Ao40 t906.length co40) : Value).ownBlock ∧ some k_ ≠ ((.slice Ao50 t917.length co50) : Value).ownBlock ∧ some k_ ≠ ((.slice Ao61 t928.length co61) : Value).ownBlock ∧ some k_ ≠ ((.slice Ao74 t939.length co74) : Value).ownBlock ∧ k_ ≠ gb888) (.slice Ao20 t880.length co20) t880) ∧ Aside0 (Kd.R k104 104 wc w.heap.size (fun k_ => some k_ ≠ ((.slice Ao16 t874.length co16) : Value).ownBlock ∧ some k_ ≠ ((.slice Ao34 t900.length co34) : Value).ownBlock ∧ some k_ ≠ ((.slice Ao43 t911.length co43) : Value).ownBlock ∧ some k_ ≠ ((.slice Ao53 t922.length co53) : Value).ownBlock ∧ some k_ ≠ ((.slice Ao65 t933.length co65) : Value).ownBlock) (.slice Ao24 t889.length co24) t889) ∧ Aside0 (Kd.R k62 62 wc w.heap.size (fun k_ => some k_ ≠ ((.slice Ao19 t877.length co19) : Value).ownBlock ∧ some k_ ≠ ((.slice Ao39 t903.length co39) : Value).ownBlock ∧ some k_ ≠ ((.slice Ao49 t914.length co49) : Value).ownBlock ∧ some k_ ≠ ((.slice Ao60 t925.length co60) : Value).ownBlock ∧ some k_ ≠ ((.slice Ao73 t936.length co73) : Value).ownBlock) (.slice Ao28 t892.length co28) t892) ∧ Aside0 (Kd.R k39 39 wc w.heap.size (fun k_ => some k_ ≠ ((.slice Ao20 t880.length co20) : Value).ownBlock ∧ some k_ ≠ ((.slice Ao40 t906.length co40) : Value).ownBlock ∧ some k_ ≠ ((.slice Ao50 t917.length co50) : Value).ownBlock ∧ some k_ ≠ ((.slice Ao61 t928.length co61) : Value).ownBlock ∧ some k_ ≠ ((.slice Ao74 t939.length co74) : Value).ownBlock ∧ k_ ≠ gb888) (.slice Ao29 t895.length co29) t895) ∧ Aside0 (Kd.R k104 104 wc w.heap.size (fun k_ => some k_ ≠ ((.slice Ao16 t874.length co16) : Value).ownBlock ∧ some k_ ≠ ((.slice Ao24 t889.length co24) : Value).ownBlock ∧ some k_ ≠ ((.slice Ao43 t911.length co43) : Value).ownBlock ∧ some k_ ≠ ((.slice Ao53 t922.length co53) : Value).ownBlock ∧ some k_ ≠ ((.slice Ao65 t933.length co65) : Value).ownBlock) (.slice Ao34 t900.length co34) t900) ∧ Aside0 (Kd.R k62 62 wc w.heap.size (fun k_ => some k_ ≠ ((.slice Ao19 t877.length co19) : Value).ownBlock ∧ some k_ ≠ ((.slice Ao28 t892.length co28) : Value).ownBlock ∧ some k_ ≠ ((.slice Ao49 t914.length co49) : Value).ownBlock ∧ some k_ ≠ ((.slice Ao60 t925.length co60) : Value).ownBlock ∧ some k_ ≠ ((.slice Ao73 t936.length co73) : Value).ownBlock) (.slice Ao39 t903.length co39) t903) ∧ Aside0 (Kd.R k39 39 wc w.heap.size (fun k_ => some k_ ≠ ((.slice Ao20 t880.length co20) : Value).ownBlock ∧ some k_ ≠ ((.slice Ao29 t895.length co29) : Value).ownBlock ∧ some k_ ≠ ((.slice Ao50 t917.length co50) : Value).ownBlock ∧ some k_ ≠ ((.slice Ao61 t928.length co61) : Value).ownBlock ∧ some k_ ≠ ((.slice Ao74 t939.length co74) : Value).ownBlock ∧ k_ ≠ gb888) (.slice Ao40 t906.length co40) t906) ∧ Aside0 (Kd.R k104 104 wc w.heap.size (fun k_ => some k_ ≠ ((.slice Ao16 t874.length co16) : Value).ownBlock ∧ some k_ ≠ ((.slice Ao24 t889.length co24) : Value).ownBlock ∧ some k_ ≠ ((.slice Ao34 t900.length co34) : Value).ownBlock ∧ some k_ ≠ ((.slice Ao53 t922.length co53) : Value).ownBlock ∧ some k_ ≠ ((.slice Ao65 t933.length co65) : Value).ownBlock) (.slice Ao43 t911.length co43) t911) ∧ Aside0 (Kd.R k62 62 wc w.heap.size (fun k_ => some k_ ≠ ((.slice Ao19 t877.length co19) : Value).ownBlock ∧ some k_ ≠ ((.slice Ao28 t892.length co28) : Value).ownBlock ∧ some k_ ≠ ((.slice Ao39 t903.length co39) : Value).ownBlock ∧ some k_ ≠ ((.slice Ao60 t925.length co60) : Value).ownBlock ∧ some k_ ≠ ((.slice Ao73 t936.length co73) : Value).ownBlock) (.slice Ao49 t914.length co49) t914) ∧ Aside0 (Kd.R k39 39 wc w.heap.size (fun k_ => some k_ ≠ ((.slice Ao20 t880.length co20) : Value).ownBlock ∧ some k_ ≠ ((.slice Ao29 t895.length co29) : Value).ownBlock ∧ some k_ ≠ ((.slice Ao40 t906.length co40) : Value).ownBlock ∧ some k_ ≠ ((.slice Ao61 t928.length co61) : Value).ownBlock ∧ some k_ ≠ ((.slice Ao74 t939.length co74) : Value).ownBlock ∧ k_ ≠ gb888) (.slice Ao50 t917.length co50) t917) ∧ Aside0 (Kd.R k104 104 wc w.heap.size (fun k_ => some k_ ≠ ((.slice Ao16 t874.length co16) : Value).ownBlock ∧ some k_ ≠ ((.slice Ao24 t889.length co24) : Value).ownBlock ∧ some k_ ≠ ((.slice Ao34 t900.length co34) : Value).ownBlock ∧ some k_ ≠ ((.slice Ao43 t911.length co43) : Value).ownBlock ∧ some k_ ≠ ((.slice Ao65 t933.length co65) : Value).ownBlock) (.slice Ao53 t922.length co53) t922) ∧ Aside0 (Kd.R k62 62 wc w.heap.size (fun k_ => some k_ ≠ ((.slice Ao19 t877.length co19) : Value).ownBlock ∧ some k_ ≠ ((.slice Ao28 t892.length co28) : Value).ownBlock ∧ some k_ ≠ ((.slice Ao39 t903.length co39) : Value).ownBlock ∧ some k_ ≠ ((.slice Ao49 t914.length co49) : Value).ownBlock ∧ some k_ ≠ ((.slice Ao73 t936.length co73) : Value).ownBlock) (.slice Ao60 t925.length co60) t925) ∧ Aside0 (Kd.R k39 39 wc w.heap.size (fun k_ => some k_ ≠ ((.slice Ao20 t880.length co20) : Value).ownBlock ∧ some k_ ≠ ((.slice Ao29 t895.length co29) : Value).ownBlock ∧ some k_ ≠ ((.slice Ao40 t906.length co40) : Value).ownBlock ∧ some k_ ≠ ((.slice Ao50 t917.length co50) : Value).ownBlock ∧ some k_ ≠ ((.slice Ao74 t939.length co74) : Value).ownBlock ∧ k_ ≠ gb888) (.slice Ao61 t928.length co61) t928) ∧ Aside0 (Kd.R k104 104 wc w.heap.size (fun k_ => some k_ ≠ ((.slice Ao16 t874.length co16) : Value).ownBlock ∧ some k_ ≠ ((.slice Ao24 t889.length co24) : Value).ownBlock ∧ some k_ ≠ ((.slice Ao34 t900.length co34) : Value).ownBlock ∧ some k_ ≠ ((.slice Ao43 t911.length co43) : Value).ownBlock ∧ some k_ ≠ ((.slice Ao53 t922.length co53) : Value).ownBlock) (.slice Ao65 t933.length co65) t933) ∧ Aside0 (Kd.R k62 62 wc w.heap.size (fun k_ => some k_ ≠ ((.slice Ao19 t877.length co19) : Value).ownBlock ∧ some k_ ≠ ((.slice Ao28 t892.length co28) : Value).ownBlock ∧ some k_ ≠ ((.slice Ao39 t903.length co39) : Value).ownBlock ∧ some k_ ≠ ((.slice Ao49 t914.length co49) : Value).ownBlock ∧ some k_ ≠ ((.slice Ao60 t925.length co60) : Value).ownBlock) (.slice Ao73 t936.length co73) t936) ∧ Aside0 (Kd.R k39 39 wc w.heap.size (fun k_ => some k_ ≠ ((.slice Ao20 t880.length co20) : Value).ownBlock ∧ some k_ ≠ ((.slice Ao29 t895.length co29) : Value).ownBlock ∧ some k_ ≠ ((.slice Ao40 t906.length co40) : Value).ownBlock ∧ some k_ ≠ ((.slice Ao50 t917.length co50) : Value).ownBlock ∧ some k_ ≠ ((.slice Ao61 t928.length co61) : Value).ownBlock ∧ k_ ≠ gb888) (.slice Ao74 t939.length co74) t939) ∧ Aside0 (wc.heap[gb887]? = some (.cells #[(.slice Ao16 t874.length co16), (.slice Ao19 t877.length co19), (.slice Ao20 t880.length co20)] 28 (0, 0))) ∧ Aside0 (wc.heap[gb888]? = some (.cells #[.int .i64 t883, .int .i64 t884, .string t885, .int .i64 t886] 39 (0, 0))) ∧ Aside0 (wc.heap[gb899]? = some (.cells #[(.slice Ao24 t889.length co24), (.slice Ao28 t892.length co28), (.slice Ao29 t895.length co29)] 28 (0, 0))) ∧ Aside0 (wc.heap[gb910]? = some (.cells #[(.slice Ao34 t900.length co34), (.slice Ao39 t903.length co39), (.slice Ao40 t906.length co40)] 28 (0, 0))) ∧ Aside0 (wc.heap[gb921]? = some (.cells #[(.slice Ao43 t911.length co43), (.slice Ao49 t914.length co49), (.slice Ao50 t917.length co50)] 28 (0, 0))) ∧ Aside0 (wc.heap[gb932]? = some (.cells #[(.slice Ao53 t922.length co53), (.slice Ao60 t925.length co60), (.slice Ao61 t928.length co61)] 28 (0, 0))) ∧ Aside0 (wc.heap[gb943]? = some (.cells #[(.slice Ao65 t933.length co65), (.slice Ao73 t936.length co73), (.slice Ao74 t939.length co74)] 28 (0, 0))) ∧ Aside0 (Below w.heap.size w wc))
  case first => as_aux_lemma =>
   have H := HC12.out; clear HC12
   by_cases c79 : t898 = t909
   ·rw [if_pos c79] at H
    have c79b0 := beq_iff_eq.mpr c79; have c79b1 := bne_eq_false_iff_eq.mpr c79; clear c79
    (first | rw [c79b0] | (simp only [i64_w, i32_w]; rw [c79b0]) | skip)
    replace H := Option.bind_eq_some_iff.mp H; obtain ⟨t952, A800, H⟩ := H; have A80 := am_ A800; clear A800
    by_cases c81 : t952 = true
    ·subst c81
     have H1 : (if t931 = t942 then ((laws_likeShow.f k t922 t925 t928 t933 t936 t939).bind fun t953 => (if t953 = true then (if t947 = t951 then ((laws_likeInts.f k t944 t948).bind fun t954 => (laws_FnCueChanges.j0 k t898 t931 t944 t947 (!t954) t874 t877 t880 t883 t884 t885 t886 t889 t892 t895 t900 t903 t906 t911 t914 t917 t922 t925 t928)) else (laws_FnCueChanges.j0 k t898 t931 t944 t947 true t874 t877 t880 t883 t884 t885 t886 t889 t892 t895 t900 t903 t906 t911 t914 t917 t922 t925 t928)) else (laws_FnCueChanges.j0 k t898 t931 t944 t947 true t874 t877 t880 t883 t884 t885 t886 t889 t892 t895 t900 t903 t906 t911 t914 t917 t922 t925 t928))) else (laws_FnCueChanges.j0 k t898 t931 t944 t947 true t874 t877 t880 t883 t884 t885 t886 t889 t892 t895 t900 t903 t906 t911 t914 t917 t922 t925 t928)) = some r := by rw [if_pos rfl] at H; exact H
     clear H; have H := H1; clear H1
     by_cases c82 : t931 = t942
     ·rw [if_pos c82] at H
      have c82b0 := beq_iff_eq.mpr c82; have c82b1 := bne_eq_false_iff_eq.mpr c82; clear c82; replace H := Option.bind_eq_some_iff.mp H; obtain ⟨t953, A830, H⟩ := H; have A83 := am_ A830; clear A830
      by_cases c84 : t953 = true
      ·subst c84
       have H1 : (if t947 = t951 then ((laws_likeInts.f k t944 t948).bind fun t954 => (laws_FnCueChanges.j0 k t898 t931 t944 t947 (!t954) t874 t877 t880 t883 t884 t885 t886 t889 t892 t895 t900 t903 t906 t911 t914 t917 t922 t925 t928)) else (laws_FnCueChanges.j0 k t898 t931 t944 t947 true t874 t877 t880 t883 t884 t885 t886 t889 t892 t895 t900 t903 t906 t911 t914 t917 t922 t925 t928)) = some r := by rw [if_pos rfl] at H; exact H
       clear H; have H := H1; clear H1
       by_cases c85 : t947 = t951
       ·rw [if_pos c85] at H
        have c85b0 := beq_iff_eq.mpr c85; have c85b1 := bne_eq_false_iff_eq.mpr c85; clear c85; replace H := Option.bind_eq_some_iff.mp H; obtain ⟨t954, A860, H⟩ := H; have A86 := am_ A860; clear A860; have H' := am_ H; clear H; have hnb87 := NB899_887.out; have hnc87 := NB887_899.out; have hnb88 := NB899_888.out; have hnc88 := NB888_899.out; have hnb89 := NB899_910.out; have hnc89 := NB910_899.out; have hnb90 := NB899_921.out; have hnc90 := NB921_899.out; have hnb91 := NB899_932.out; have hnc91 := NB932_899.out; have hnb92 := NB899_943.out; have hnc92 := NB943_899.out; refine ci3 BK899 ?_; intros; have hnb94 := NB910_887.out; have hnc94 := NB887_910.out; have hnb95 := NB910_888.out; have hnc95 := NB888_910.out; have hnb96 := NB910_921.out; have hnc96 := NB921_910.out; have hnb97 := NB910_932.out; have hnc97 := NB932_910.out; have hnb98 := NB910_943.out; have hnc98 := NB943_910.out; refine ci3 BK910 ?_; intros
        go_wp2_with (first | (go_at_call 24; (with_reducible refine (laws_likeShow.calls k _ _ t889 _ _ t892 _ _ t895 _ _ t900 _ _ t903 _ _ t906 true _ ?_ ?_ ?_ ?_ ?_ ?_ ?_ ?_ ?_ ?_ ?_ ?_ A80.out).mono ?_); exact (Zak HO891); exact (Kd.R_reads' HO891.out).2.1; exact (Zak HO894); exact (Kd.R_reads' HO894.out).2.1; exact (Zak HO897); exact (Kd.R_reads' HO897.out).2.1; exact (Zak HO902); exact (Kd.R_reads' HO902.out).2.1; exact (Zak HO905); exact (Kd.R_reads' HO905.out).2.1; exact (Zak HO908); exact (Kd.R_reads' HO908.out).2.1; rintro e w100 ⟨rfl, hb⟩; replace HO876 := (hbZ HO876 hb); replace HO879 := (hbZ HO879 hb); replace HO882 := (hbZ HO882 hb); replace HO891 := (hbZ HO891 hb); replace HO894 := (hbZ HO894 hb); replace HO897 := (hbZ HO897 hb); replace HO902 := (hbZ HO902 hb); replace HO905 := (hbZ HO905 hb); replace HO908 := (hbZ HO908 hb); replace HO913 := (hbZ HO913 hb); replace HO916 := (hbZ HO916 hb); replace HO919 := (hbZ HO919 hb); replace HO924 := (hbZ HO924 hb); replace HO927 := (hbZ HO927 hb); replace HO930 := (hbZ HO930 hb); replace HO935 := (hbZ HO935 hb); replace HO938 := (hbZ HO938 hb); replace HO941 := (hbZ HO941 hb); replace HO946 := (hbZ HO946 hb); replace HO950 := (hbZ HO950 hb); replace BK887 := (bkZ BK887 hb); replace BK888 := (bkZ BK888 hb); replace BK899 := (bkZ BK899 hb); replace BK910 := (bkZ BK910 hb); replace BK921 := (bkZ BK921 hb); replace BK932 := (bkZ BK932 hb); replace BK943 := (bkZ BK943 hb); replace HB := (bsZ (Zdn GE887 GE888 GE899 GE910 GE921 GE932 GE943) hb); clear hb; have hnb101 := NB932_887.out; have hnc101 := NB887_932.out; have hnb102 := NB932_888.out; have hnc102 := NB888_932.out; have hnb103 := NB932_921.out; have hnc103 := NB921_932.out; have hnb104 := NB932_943.out; have hnc104 := NB943_932.out; refine ci3 BK932 ?_; intros; have hnb106 := NB943_887.out; have hnc106 := NB887_943.out; have hnb107 := NB943_888.out; have hnc107 := NB888_943.out; have hnb108 := NB943_921.out; have hnc108 := NB921_943.out; refine ci3 BK943 ?_; intros) | (go_at_call 24; (with_reducible refine (laws_likeShow.calls k _ _ t922 _ _ t925 _ _ t928 _ _ t933 _ _ t936 _ _ t939 true _ ?_ ?_ ?_ ?_ ?_ ?_ ?_ ?_ ?_ ?_ ?_ ?_ A83.out).mono ?_); exact (Zak HO924); exact (Kd.R_reads' HO924.out).2.1; exact (Zak HO927); exact (Kd.R_reads' HO927.out).2.1; exact (Zak HO930); exact (Kd.R_reads' HO930.out).2.1; exact (Zak HO935); exact (Kd.R_reads' HO935.out).2.1; exact (Zak HO938); exact (Kd.R_reads' HO938.out).2.1; exact (Zak HO941); exact (Kd.R_reads' HO941.out).2.1; rintro e w110 ⟨rfl, hb⟩; replace HO876 := (hbZ HO876 hb); replace HO879 := (hbZ HO879 hb); replace HO882 := (hbZ HO882 hb); replace HO891 := (hbZ HO891 hb); replace HO894 := (hbZ HO894 hb); replace HO897 := (hbZ HO897 hb); replace HO902 := (hbZ HO902 hb); replace HO905 := (hbZ HO905 hb); replace HO908 := (hbZ HO908 hb); replace HO913 := (hbZ HO913 hb); replace HO916 := (hbZ HO916 hb); replace HO919 := (hbZ HO919 hb); replace HO924 := (hbZ HO924 hb); replace HO927 := (hbZ HO927 hb); replace HO930 := (hbZ HO930 hb); replace HO935 := (hbZ HO935 hb); replace HO938 := (hbZ HO938 hb); replace HO941 := (hbZ HO941 hb); replace HO946 := (hbZ HO946 hb); replace HO950 := (hbZ HO950 hb); replace BK887 := (bkZ BK887 hb); replace BK888 := (bkZ BK888 hb); replace BK899 := (bkZ BK899 hb); replace BK910 := (bkZ BK910 hb); replace BK921 := (bkZ BK921 hb); replace BK932 := (bkZ BK932 hb); replace BK943 := (bkZ BK943 hb); replace HB := (bsZ (Zdn GE887 GE888 GE899 GE910 GE921 GE932 GE943) hb); clear hb; obtain ⟨Ao111, co111, eo111⟩ := Kd.R_slice HO946.out; subst eo111; obtain ⟨Ao112, co112, eo112⟩ := Kd.R_slice HO950.out; subst eo112) | (go_at_call 14; (with_reducible refine (laws_likeInts.calls k _ _ t944 _ _ t948 t954 _ ?_ ?_ ?_ ?_ A86.out).mono ?_); exact (Zak HO946); exact (Kd.R_reads' HO946.out).2.1; exact (Zak HO950); exact (Kd.R_reads' HO950.out).2.1; rintro e w' ⟨rfl, ⟨nd, rfl⟩⟩))
        go_meet
        case rel => exact ⟨_, (!t954), Zc, H', ⟨Zp⟩, ⟨by (with_reducible repeat (first | apply Kd.R_alloc | apply Kd.R_drewN | apply Kd.R_drew)); exact Kd.R_mono HO946.out (fun _ hk => trivial)⟩, ⟨(Zdo HO876)⟩, ⟨(Zdo HO879)⟩, ⟨by (with_reducible repeat (first | apply Kd.R_alloc | apply Kd.R_drewN | apply Kd.R_drew)); exact Kd.R_mono HO882.out (fun _ hk => ⟨hk.1.1.1.1.2, ⟨hk.1.1.1.2, ⟨hk.1.1.2, ⟨hk.1.2, ⟨hk.2, hk.1.1.1.1.1.2⟩⟩⟩⟩⟩)⟩, ⟨(Zdo HO891)⟩, ⟨(Zdo HO894)⟩, ⟨by (with_reducible repeat (first | apply Kd.R_alloc | apply Kd.R_drewN | apply Kd.R_drew)); exact Kd.R_mono HO897.out (fun _ hk => ⟨hk.1.1.1.1.1.2, ⟨hk.1.1.1.2, ⟨hk.1.1.2, ⟨hk.1.2, ⟨hk.2, hk.1.1.1.1.2⟩⟩⟩⟩⟩)⟩, ⟨(Zdo HO902)⟩, ⟨(Zdo HO905)⟩, ⟨by (with_reducible repeat (first | apply Kd.R_alloc | apply Kd.R_drewN | apply Kd.R_drew)); exact Kd.R_mono HO908.out (fun _ hk => ⟨hk.1.1.1.1.1.2, ⟨hk.1.1.1.1.2, ⟨hk.1.1.2, ⟨hk.1.2, ⟨hk.2, hk.1.1.1.2⟩⟩⟩⟩⟩)⟩, ⟨(Zdo HO913)⟩, ⟨(Zdo HO916)⟩, ⟨by (with_reducible repeat (first | apply Kd.R_alloc | apply Kd.R_drewN | apply Kd.R_drew)); exact Kd.R_mono HO919.out (fun _ hk => ⟨hk.1.1.1.1.1.2, ⟨hk.1.1.1.1.2, ⟨hk.1.1.1.2, ⟨hk.1.2, ⟨hk.2, hk.1.1.2⟩⟩⟩⟩⟩)⟩, ⟨(Zdo HO924)⟩, ⟨(Zdo HO927)⟩, ⟨by (with_reducible repeat (first | apply Kd.R_alloc | apply Kd.R_drewN | apply Kd.R_drew)); exact Kd.R_mono HO930.out (fun _ hk => ⟨hk.1.1.1.1.1.2, ⟨hk.1.1.1.1.2, ⟨hk.1.1.1.2, ⟨hk.1.1.2, ⟨hk.2, hk.1.2⟩⟩⟩⟩⟩)⟩, ⟨(Zdo HO935)⟩, ⟨(Zdo HO938)⟩, ⟨by (with_reducible repeat (first | apply Kd.R_alloc | apply Kd.R_drewN | apply Kd.R_drew)); exact Kd.R_mono HO941.out (fun _ hk => ⟨hk.1.1.1.1.1.2, ⟨hk.1.1.1.1.2, ⟨hk.1.1.1.2, ⟨hk.1.1.2, ⟨hk.1.2, hk.2⟩⟩⟩⟩⟩)⟩, ⟨(Zq BK887)⟩, ⟨(Zq BK888)⟩, ⟨(Zq BK899)⟩, ⟨(Zq BK910)⟩, ⟨(Zq BK921)⟩, ⟨(Zq BK932)⟩, ⟨(Zq BK943)⟩, ⟨(Zdn GE887 GE888 GE899 GE910 GE921 GE932 GE943)⟩⟩
       ·rw [if_neg c85] at H
        have c85b0 := beq_eq_false_iff_ne.mpr c85; have c85b1 := bne_iff_ne.mpr c85; exact absurd (H.trans (congrArg some HR_.out)) (laws_FnCueChanges.j0_true _ _ _ _ _ _ _ _ _ _ _ _ _ _ _ _ _ _ _ _ _ _ _ _)
      ·replace c84 := Bool.eq_false_iff.mpr c84
       subst c84
       have H1 : (laws_FnCueChanges.j0 k t898 t931 t944 t947 true t874 t877 t880 t883 t884 t885 t886 t889 t892 t895 t900 t903 t906 t911 t914 t917 t922 t925 t928) = some r := by rw [if_neg (show ¬ (false = true) by decide)] at H; exact H
       clear H; have H := H1; clear H1; exact absurd (H.trans (congrArg some HR_.out)) (laws_FnCueChanges.j0_true _ _ _ _ _ _ _ _ _ _ _ _ _ _ _ _ _ _ _ _ _ _ _ _)
     ·rw [if_neg c82] at H
      have c82b0 := beq_eq_false_iff_ne.mpr c82; have c82b1 := bne_iff_ne.mpr c82; exact absurd (H.trans (congrArg some HR_.out)) (laws_FnCueChanges.j0_true _ _ _ _ _ _ _ _ _ _ _ _ _ _ _ _ _ _ _ _ _ _ _ _)
    ·replace c81 := Bool.eq_false_iff.mpr c81
     subst c81
     have H1 : (laws_FnCueChanges.j0 k t898 t931 t944 t947 true t874 t877 t880 t883 t884 t885 t886 t889 t892 t895 t900 t903 t906 t911 t914 t917 t922 t925 t928) = some r := by rw [if_neg (show ¬ (false = true) by decide)] at H; exact H
     clear H; have H := H1; clear H1; exact absurd (H.trans (congrArg some HR_.out)) (laws_FnCueChanges.j0_true _ _ _ _ _ _ _ _ _ _ _ _ _ _ _ _ _ _ _ _ _ _ _ _)
   ·rw [if_neg c79] at H
    have c79b0 := beq_eq_false_iff_ne.mpr c79; have c79b1 := bne_iff_ne.mpr c79
    (first | rw [c79b0] | (simp only [i64_w, i32_w]; rw [c79b0]) | skip)
    exact absurd (H.trans (congrArg some HR_.out)) (laws_FnCueChanges.j0_true _ _ _ _ _ _ _ _ _ _ _ _ _ _ _ _ _ _ _ _ _ _ _ _)
  case rest => as_aux_lemma =>
   clear HC12
   try clear c1
   try clear c2
   try clear p2
   try clear c3
   try clear c4
   try clear c5
   try clear c6
   try clear c7
   try clear c8
   try clear c9
   try clear c10
   try clear c11
   try clear c12
   try clear c13
   try clear c14
   try clear c15
   try clear c16
   try clear c17
   try clear c18
   try clear c19
   try clear c20
   try clear c21
   try clear c22
   try clear c23
   try clear c25
   try clear c26
   try clear c35
   try clear c36
   try clear c37
   try clear c44
   try clear c45
   try clear c46
   try clear c47
   try clear c54
   try clear c55
   try clear c56
   try clear c57
   try clear c58
   try clear c66
   try clear c67
   try clear c68
   try clear c69
   try clear c70
   try clear c71
   try clear c79
   try clear c79b0
   try clear c79b1
   try clear c81
   try clear c82
   try clear c82b0
   try clear c82b1
   try clear c84
   try clear c85
   try clear c85b0
   try clear c85b1
   try clear c87
   try clear c88
   try clear c89
   try clear c90
   try clear c91
   try clear c92
   try clear c94
   try clear c95
   try clear c96
   try clear c97
   try clear c98
   try clear c101
   try clear c102
   try clear c103
   try clear c104
   try clear c106
   try clear c107
   try clear c108
   try clear c113
   try clear c114
   try clear c115
   try clear c116
   try clear c117
   try clear c118
   try clear c120
   try clear c121
   try clear c122
   try clear c123
   try clear c124
   try clear c127
   try clear c128
   try clear c129
   try clear c130
   try clear c132
   try clear c133
   try clear c134
   try clear c137
   try clear c138
   try clear c139
   try clear c140
   try clear c141
   try clear c142
   try clear c144
   try clear c145
   try clear c146
   try clear c147
   try clear c148
   try clear c151
   try clear c152
   try clear c153
   try clear c154
   try clear c156
   try clear c157
   try clear c158
   try clear c161
   try clear c162
   try clear c163
   try clear c164
   try clear c165
   try clear c166
   try clear c168
   try clear c169
   try clear c170
   try clear c171
   try clear c172
   try clear c175
   try clear c176
   try clear c177
   try clear c178
   try clear c179
   try clear c180
   try clear c182
   try clear c183
   try clear c184
   try clear c185
   try clear c186
   obtain ⟨kq, x97_11, rfl, HA, HJ11, HO_15, HO_888000, HO_888001, HO_888002, HO_900000, HO_900001, HO_900002, HO_911000, HO_911001, HO_911002, HO_922000, HO_922001, HO_922002, HO_933000, HO_933001, HO_933002, HO_944000, HO_944001, HO_944002, BK887, BK888, BK899, BK910, BK921, BK932, BK943, HB⟩ := hcut
   cases kq with
   | zero => exact absurd HA.out (by simp [laws_FnCueChanges.j0])
   | succ kj11 =>
    have H := HA.out; clear HA; simp only [laws_FnCueChanges.j0] at H
    by_cases c189 : x97_11 = true
    ·subst c189
     have H1 : (some false) = some r := by rw [if_pos rfl] at H; exact H
     clear H; have H := H1; clear H1; exact absurd ((Option.some.inj H).trans HR_.out) (by decide)
    ·replace c189 := Bool.eq_false_iff.mpr c189
     subst c189
     have H1 : (if t931 = 0 then ((impl_IsShow.f kj11 t922 t925 t928).bind fun t955 => (if t955 = true then (laws_FnCueChanges.j1 kj11 t898 t944 t947 ((t928.length : Int) != (wrap64 ((t917.length : Int) - 1))) t874 t877 t880 t883 t884 t885 t886 t889 t892 t895 t900 t903 t906) else (laws_FnCueChanges.j1 kj11 t898 t944 t947 true t874 t877 t880 t883 t884 t885 t886 t889 t892 t895 t900 t903 t906))) else (laws_FnCueChanges.j1 kj11 t898 t944 t947 false t874 t877 t880 t883 t884 t885 t886 t889 t892 t895 t900 t903 t906)) = some r := by rw [if_neg (show ¬ (false = true) by decide)] at H; exact H
     clear H; have H := H1; clear H1; have HC190 := am_ H; clear H
     go_upto_region 13 with (fail)
     go_cut [114] (fun v114 wc => ∃ (kq : Nat) (x114_189 : Bool), v114 = .bool x114_189 ∧ Aside0 (laws_FnCueChanges.j1 kq t898 t944 t947 x114_189 t874 t877 t880 t883 t884 t885 t886 t889 t892 t895 t900 t903 t906 = some r) ∧ Aside0 (kq ≤ kj11) ∧ Aside0 (Kd.R (Kd.int .i64) 2 wc w.heap.size (fun _ => True) v945 t944) ∧ Aside0 (Kd.R k104 104 wc w.heap.size (fun k_ => some k_ ≠ ((.slice Ao24 t889.length co24) : Value).ownBlock ∧ some k_ ≠ ((.slice Ao34 t900.length co34) : Value).ownBlock ∧ some k_ ≠ ((.slice Ao43 t911.length co43) : Value).ownBlock ∧ some k_ ≠ ((.slice Ao53 t922.length co53) : Value).ownBlock ∧ some k_ ≠ ((.slice Ao65 t933.length co65) : Value).ownBlock) (.slice Ao16 t874.length co16) t874) ∧ Aside0 (Kd.R k62 62 wc w.heap.size (fun k_ => some k_ ≠ ((.slice Ao28 t892.length co28) : Value).ownBlock ∧ some k_ ≠ ((.slice Ao39 t903.length co39) : Value).ownBlock ∧ some k_ ≠ ((.slice Ao49 t914.length co49) : Value).ownBlock ∧ some k_ ≠ ((.slice Ao60 t925.length co60) : Value).ownBlock ∧ some k_ ≠ ((.slice Ao73 t936.length co73) : Value).ownBlock) (.slice Ao19 t877.length co19) t877) ∧ Aside0 (Kd.R k39 39 wc w.heap.size (fun k_ => some k_ ≠ ((.slice Ao29 t895.length co29) : Value).ownBlock ∧ some k_ ≠ ((.slice Ao40 t906.length co40) : Value).ownBlock ∧ some k_ ≠ ((.slice Ao50 t917.length co50) : Value).ownBlock ∧ some k_ ≠ ((.slice Ao61 t928.length co61) : Value).ownBlock ∧ some k_ ≠ ((.slice Ao74 t939.length co74) : Value).ownBlock ∧ k_ ≠ gb888) (.slice Ao20 t880.length co20) t880) ∧ Aside0 (Kd.R k104 104 wc w.heap.size (fun k_ => some k_ ≠ ((.slice Ao16 t874.length co16) : Value).ownBlock ∧ some k_ ≠ ((.slice Ao34 t900.length co34) : Value).ownBlock ∧ some k_ ≠ ((.slice Ao43 t911.length co43) : Value).ownBlock ∧ some k_ ≠ ((.slice Ao53 t922.length co53) : Value).ownBlock ∧ some k_ ≠ ((.slice Ao65 t933.length co65) : Value).ownBlock) (.slice Ao24 t889.length co24) t889) ∧ Aside0 (Kd.R k62 62 wc w.heap.size (fun k_ => some k_ ≠ ((.slice Ao19 t877.length co19) : Value).ownBlock ∧ some k_ ≠ ((.slice Ao39 t903.length co39) : Value).ownBlock ∧ some k_ ≠ ((.slice Ao49 t914.length co49) : Value).ownBlock ∧ some k_ ≠ ((.slice Ao60 t925.length co60) : Value).ownBlock ∧ some k_ ≠ ((.slice Ao73 t936.length co73) : Value).ownBlock) (.slice Ao28 t892.length co28) t892) ∧ Aside0 (Kd.R k39 39 wc w.heap.size (fun k_ => some k_ ≠ ((.slice Ao20 t880.length co20) : Value).ownBlock ∧ some k_ ≠ ((.slice Ao40 t906.length co40) : Value).ownBlock ∧ some k_ ≠ ((.slice Ao50 t917.length co50) : Value).ownBlock ∧ some k_ ≠ ((.slice Ao61 t928.length co61) : Value).ownBlock ∧ some k_ ≠ ((.slice Ao74 t939.length co74) : Value).ownBlock ∧ k_ ≠ gb888) (.slice Ao29 t895.length co29) t895) ∧ Aside0 (Kd.R k104 104 wc w.heap.size (fun k_ => some k_ ≠ ((.slice Ao16 t874.length co16) : Value).ownBlock ∧ some k_ ≠ ((.slice Ao24 t889.length co24) : Value).ownBlock ∧ some k_ ≠ ((.slice Ao43 t911.length co43) : Value).ownBlock ∧ some k_ ≠ ((.slice Ao53 t922.length co53) : Value).ownBlock ∧ some k_ ≠ ((.slice Ao65 t933.length co65) : Value).ownBlock) (.slice Ao34 t900.length co34) t900) ∧ Aside0 (Kd.R k62 62 wc w.heap.size (fun k_ => some k_ ≠ ((.slice Ao19 t877.length co19) : Value).ownBlock ∧ some k_ ≠ ((.slice Ao28 t892.length co28) : Value).ownBlock ∧ some k_ ≠ ((.slice Ao49 t914.length co49) : Value).ownBlock ∧ some k_ ≠ ((.slice Ao60 t925.length co60) : Value).ownBlock ∧ some k_ ≠ ((.slice Ao73 t936.length co73) : Value).ownBlock) (.slice Ao39 t903.length co39) t903) ∧ Aside0 (Kd.R k39 39 wc w.heap.size (fun k_ => some k_ ≠ ((.slice Ao20 t880.length co20) : Value).ownBlock ∧ some k_ ≠ ((.slice Ao29 t895.length co29) : Value).ownBlock ∧ some k_ ≠ ((.slice Ao50 t917.length co50) : Value).ownBlock ∧ some k_ ≠ ((.slice Ao61 t928.length co61) : Value).ownBlock ∧ some k_ ≠ ((.slice Ao74 t939.length co74) : Value).ownBlock ∧ k_ ≠ gb888) (.slice Ao40 t906.length co40) t906) ∧ Aside0 (Kd.R k104 104 wc w.heap.size (fun k_ => some k_ ≠ ((.slice Ao16 t874.length co16) : Value).ownBlock ∧ some k_ ≠ ((.slice Ao24 t889.length co24) : Value).ownBlock ∧ some k_ ≠ ((.slice Ao34 t900.length co34) : Value).ownBlock ∧ some k_ ≠ ((.slice Ao53 t922.length co53) : Value).ownBlock ∧ some k_ ≠ ((.slice Ao65 t933.length co65) : Value).ownBlock) (.slice Ao43 t911.length co43) t911) ∧ Aside0 (Kd.R k62 62 wc w.heap.size (fun k_ => some k_ ≠ ((.slice Ao19 t877.length co19) : Value).ownBlock ∧ some k_ ≠ ((.slice Ao28 t892.length co28) : Value).ownBlock ∧ some k_ ≠ ((.slice Ao39 t903.length co39) : Value).ownBlock ∧ some k_ ≠ ((.slice Ao60 t925.length co60) : Value).ownBlock ∧ some k_ ≠ ((.slice Ao73 t936.length co73) : Value).ownBlock) (.slice Ao49 t914.length co49) t914) ∧ Aside0 (Kd.R k39 39 wc w.heap.size (fun k_ => some k_ ≠ ((.slice Ao20 t880.length co20) : Value).ownBlock ∧ some k_ ≠ ((.slice Ao29 t895.length co29) : Value).ownBlock ∧ some k_ ≠ ((.slice Ao40 t906.length co40) : Value).ownBlock ∧ some k_ ≠ ((.slice Ao61 t928.length co61) : Value).ownBlock ∧ some k_ ≠ ((.slice Ao74 t939.length co74) : Value).ownBlock ∧ k_ ≠ gb888) (.slice Ao50 t917.length co50) t917) ∧ Aside0 (Kd.R k104 104 wc w.heap.size (fun k_ => some k_ ≠ ((.slice Ao16 t874.length co16) : Value).ownBlock ∧ some k_ ≠ ((.slice Ao24 t889.length co24) : Value).ownBlock ∧ some k_ ≠ ((.slice Ao34 t900.length co34) : Value).ownBlock ∧ some k_ ≠ ((.slice Ao43 t911.length co43) : Value).ownBlock ∧ some k_ ≠ ((.slice Ao65 t933.length co65) : Value).ownBlock) (.slice Ao53 t922.length co53) t922) ∧ Aside0 (Kd.R k62 62 wc w.heap.size (fun k_ => some k_ ≠ ((.slice Ao19 t877.length co19) : Value).ownBlock ∧ some k_ ≠ ((.slice Ao28 t892.length co28) : Value).ownBlock ∧ some k_ ≠ ((.slice Ao39 t903.length co39) : Value).ownBlock ∧ some k_ ≠ ((.slice Ao49 t914.length co49) : Value).ownBlock ∧ some k_ ≠ ((.slice Ao73 t936.length co73) : Value).ownBlock) (.slice Ao60 t925.length co60) t925) ∧ Aside0 (Kd.R k39 39 wc w.heap.size (fun k_ => some k_ ≠ ((.slice Ao20 t880.length co20) : Value).ownBlock ∧ some k_ ≠ ((.slice Ao29 t895.length co29) : Value).ownBlock ∧ some k_ ≠ ((.slice Ao40 t906.length co40) : Value).ownBlock ∧ some k_ ≠ ((.slice Ao50 t917.length co50) : Value).ownBlock ∧ some k_ ≠ ((.slice Ao74 t939.length co74) : Value).ownBlock ∧ k_ ≠ gb888) (.slice Ao61 t928.length co61) t928) ∧ Aside0 (Kd.R k104 104 wc w.heap.size (fun k_ => some k_ ≠ ((.slice Ao16 t874.length co16) : Value).ownBlock ∧ some k_ ≠ ((.slice Ao24 t889.length co24) : Value).ownBlock ∧ some k_ ≠ ((.slice Ao34 t900.length co34) : Value).ownBlock ∧ some k_ ≠ ((.slice Ao43 t911.length co43) : Value).ownBlock ∧ some k_ ≠ ((.slice Ao53 t922.length co53) : Value).ownBlock) (.slice Ao65 t933.length co65) t933) ∧ Aside0 (Kd.R k62 62 wc w.heap.size (fun k_ => some k_ ≠ ((.slice Ao19 t877.length co19) : Value).ownBlock ∧ some k_ ≠ ((.slice Ao28 t892.length co28) : Value).ownBlock ∧ some k_ ≠ ((.slice Ao39 t903.length co39) : Value).ownBlock ∧ some k_ ≠ ((.slice Ao49 t914.length co49) : Value).ownBlock ∧ some k_ ≠ ((.slice Ao60 t925.length co60) : Value).ownBlock) (.slice Ao73 t936.length co73) t936) ∧ Aside0 (Kd.R k39 39 wc w.heap.size (fun k_ => some k_ ≠ ((.slice Ao20 t880.length co20) : Value).ownBlock ∧ some k_ ≠ ((.slice Ao29 t895.length co29) : Value).ownBlock ∧ some k_ ≠ ((.slice Ao40 t906.length co40) : Value).ownBlock ∧ some k_ ≠ ((.slice Ao50 t917.length co50) : Value).ownBlock ∧ some k_ ≠ ((.slice Ao61 t928.length co61) : Value).ownBlock ∧ k_ ≠ gb888) (.slice Ao74 t939.length co74) t939) ∧ Aside0 (wc.heap[gb887]? = some (.cells #[(.slice Ao16 t874.length co16), (.slice Ao19 t877.length co19), (.slice Ao20 t880.length co20)] 28 (0, 0))) ∧ Aside0 (wc.heap[gb888]? = some (.cells #[.int .i64 t883, .int .i64 t884, .string t885, .int .i64 t886] 39 (0, 0))) ∧ Aside0 (wc.heap[gb899]? = some (.cells #[(.slice Ao24 t889.length co24), (.slice Ao28 t892.length co28), (.slice Ao29 t895.length co29)] 28 (0, 0))) ∧ Aside0 (wc.heap[gb910]? = some (.cells #[(.slice Ao34 t900.length co34), (.slice Ao39 t903.length co39), (.slice Ao40 t906.length co40)] 28 (0, 0))) ∧ Aside0 (wc.heap[gb921]? = some (.cells #[(.slice Ao43 t911.length co43), (.slice Ao49 t914.length co49), (.slice Ao50 t917.length co50)] 28 (0, 0))) ∧ Aside0 (wc.heap[gb932]? = some (.cells #[(.slice Ao53 t922.length co53), (.slice Ao60 t925.length co60), (.slice Ao61 t928.length co61)] 28 (0, 0))) ∧ Aside0 (wc.heap[gb943]? = some (.cells #[(.slice Ao65 t933.length co65), (.slice Ao73 t936.length co73), (.slice Ao74 t939.length co74)] 28 (0, 0))) ∧ Aside0 (Below w.heap.size w wc))
     case first => as_aux_lemma =>
      have H := HC190.out; clear HC190
      by_cases c191 : t931 = 0
      ·rw [if_pos c191] at H
       have c191b0 := beq_iff_eq.mpr c191; have c191b1 := bne_eq_false_iff_eq.mpr c191; clear c191
       (first | rw [c191b0] | (simp only [i64_w, i32_w]; rw [c191b0]) | skip)
       replace H := Option.bind_eq_some_iff.mp H; obtain ⟨t955, A1920, H⟩ := H; have A192 := am_ A1920; clear A1920
       by_cases c193 : t955 = true
       ·subst c193
        have H1 : (laws_FnCueChanges.j1 kj11 t898 t944 t947 ((t928.length : Int) != (wrap64 ((t917.length : Int) - 1))) t874 t877 t880 t883 t884 t885 t886 t889 t892 t895 t900 t903 t906) = some r := by rw [if_pos rfl] at H; exact H
        clear H; have H := H1; clear H1; have H' := am_ H; clear H; have hnb194 := NB932_887.out; have hnc194 := NB887_932.out; have hnb195 := NB932_888.out; have hnc195 := NB888_932.out; have hnb196 := NB932_899.out; have hnc196 := NB899_932.out; have hnb197 := NB932_910.out; have hnc197 := NB910_932.out; have hnb198 := NB932_921.out; have hnc198 := NB921_932.out; have hnb199 := NB932_943.out; have hnc199 := NB943_932.out; refine ci3 BK932 ?_; intros
        go_wp2_with (first | (go_at_call 25; (with_reducible refine (impl_IsShow.calls kj11 _ _ t922 _ _ t925 _ _ t928 true _ ?_ ?_ ?_ ?_ ?_ ?_ A192.out).mono ?_); exact (Zak HO_933000); exact (Kd.R_reads' HO_933000.out).2.1; exact (Zak HO_933001); exact (Kd.R_reads' HO_933001.out).2.1; exact (Zak HO_933002); exact (Kd.R_reads' HO_933002.out).2.1; rintro e w201 ⟨rfl, hb⟩; replace HO_15 := (hbZ HO_15 hb); replace HO_888000 := (hbZ HO_888000 hb); replace HO_888001 := (hbZ HO_888001 hb); replace HO_888002 := (hbZ HO_888002 hb); replace HO_900000 := (hbZ HO_900000 hb); replace HO_900001 := (hbZ HO_900001 hb); replace HO_900002 := (hbZ HO_900002 hb); replace HO_911000 := (hbZ HO_911000 hb); replace HO_911001 := (hbZ HO_911001 hb); replace HO_911002 := (hbZ HO_911002 hb); replace HO_922000 := (hbZ HO_922000 hb); replace HO_922001 := (hbZ HO_922001 hb); replace HO_922002 := (hbZ HO_922002 hb); replace HO_933000 := (hbZ HO_933000 hb); replace HO_933001 := (hbZ HO_933001 hb); replace HO_933002 := (hbZ HO_933002 hb); replace HO_944000 := (hbZ HO_944000 hb); replace HO_944001 := (hbZ HO_944001 hb); replace HO_944002 := (hbZ HO_944002 hb); replace BK887 := (bkZ BK887 hb); replace BK888 := (bkZ BK888 hb); replace BK899 := (bkZ BK899 hb); replace BK910 := (bkZ BK910 hb); replace BK921 := (bkZ BK921 hb); replace BK932 := (bkZ BK932 hb); replace BK943 := (bkZ BK943 hb); replace HB := (bsZ (Zdn GE887 GE888 GE899 GE910 GE921 GE932 GE943) hb); clear hb; refine ci3 BK932 ?_; intros; have hnb203 := NB921_887.out; have hnc203 := NB887_921.out; have hnb204 := NB921_888.out; have hnc204 := NB888_921.out; have hnb205 := NB921_899.out; have hnc205 := NB899_921.out; have hnb206 := NB921_910.out; have hnc206 := NB910_921.out; have hnb207 := NB921_943.out; have hnc207 := NB943_921.out; refine ci3 BK921 ?_; intros))
        go_meet
        case rel => exact ⟨_, (((t928.length : Int) != (wrap64 ((t917.length : Int) - 1)))), Zc, H', ⟨by have := HJ11.out; first | omega | exact Nat.le_refl _⟩, ⟨(Zt HO_15)⟩, ⟨(Zt HO_888000)⟩, ⟨(Zt HO_888001)⟩, ⟨(Zt HO_888002)⟩, ⟨(Zt HO_900000)⟩, ⟨(Zt HO_900001)⟩, ⟨(Zt HO_900002)⟩, ⟨(Zt HO_911000)⟩, ⟨(Zt HO_911001)⟩, ⟨(Zt HO_911002)⟩, ⟨(Zt HO_922000)⟩, ⟨(Zt HO_922001)⟩, ⟨(Zt HO_922002)⟩, ⟨(Zt HO_933000)⟩, ⟨(Zt HO_933001)⟩, ⟨(Zt HO_933002)⟩, ⟨(Zt HO_944000)⟩, ⟨(Zt HO_944001)⟩, ⟨(Zt HO_944002)⟩, ⟨(Zq BK887)⟩, ⟨(Zq BK888)⟩, ⟨(Zq BK899)⟩, ⟨(Zq BK910)⟩, ⟨(Zq BK921)⟩, ⟨(Zq BK932)⟩, ⟨(Zq BK943)⟩, ⟨(Zdn GE887 GE888 GE899 GE910 GE921 GE932 GE943)⟩⟩
       ·replace c193 := Bool.eq_false_iff.mpr c193
        subst c193
        have H1 : (laws_FnCueChanges.j1 kj11 t898 t944 t947 true t874 t877 t880 t883 t884 t885 t886 t889 t892 t895 t900 t903 t906) = some r := by rw [if_neg (show ¬ (false = true) by decide)] at H; exact H
        clear H; have H := H1; clear H1; exact absurd (H.trans (congrArg some HR_.out)) (laws_FnCueChanges.j1_true _ _ _ _ _ _ _ _ _ _ _ _ _ _ _ _ _)
      ·rw [if_neg c191] at H
       have c191b0 := beq_eq_false_iff_ne.mpr c191; have c191b1 := bne_iff_ne.mpr c191
       (first | rw [c191b0] | (simp only [i64_w, i32_w]; rw [c191b0]) | skip)
       have H' := am_ H; clear H
       go_wp2
       go_meet
       case rel => exact ⟨_, (false), Zc, H', ⟨by have := HJ11.out; first | omega | exact Nat.le_refl _⟩, ⟨(Zt HO_15)⟩, ⟨(Zt HO_888000)⟩, ⟨(Zt HO_888001)⟩, ⟨(Zt HO_888002)⟩, ⟨(Zt HO_900000)⟩, ⟨(Zt HO_900001)⟩, ⟨(Zt HO_900002)⟩, ⟨(Zt HO_911000)⟩, ⟨(Zt HO_911001)⟩, ⟨(Zt HO_911002)⟩, ⟨(Zt HO_922000)⟩, ⟨(Zt HO_922001)⟩, ⟨(Zt HO_922002)⟩, ⟨(Zt HO_933000)⟩, ⟨(Zt HO_933001)⟩, ⟨(Zt HO_933002)⟩, ⟨(Zt HO_944000)⟩, ⟨(Zt HO_944001)⟩, ⟨(Zt HO_944002)⟩, ⟨(Zq BK887)⟩, ⟨(Zq BK888)⟩, ⟨(Zq BK899)⟩, ⟨(Zq BK910)⟩, ⟨(Zq BK921)⟩, ⟨(Zq BK932)⟩, ⟨(Zq BK943)⟩, ⟨(Zdn GE887 GE888 GE899 GE910 GE921 GE932 GE943)⟩⟩
     case rest => as_aux_lemma =>
      clear HC190
      try clear c1
      try clear c2
      try clear p2
      try clear c3
      try clear c4
      try clear c5
      try clear c6
      try clear p6
      try clear c7
      try clear c8
      try clear c9
      try clear c10
      try clear c11
      try clear c12
      try clear c13
      try clear c14
      try clear c15
      try clear c16
      try clear c17
      try clear c18
      try clear c19
      try clear c20
      try clear c21
      try clear c22
      try clear c23
      try clear c25
      try clear c26
      try clear c35
      try clear c36
      try clear c37
      try clear c44
      try clear c45
      try clear c46
      try clear c47
      try clear c54
      try clear c55
      try clear c56
      try clear c57
      try clear c58
      try clear p64
      try clear c66
      try clear c67
      try clear c68
      try clear c69
      try clear c70
      try clear c71
      try clear c79
      try clear c79b0
      try clear c79b1
      try clear c81
      try clear c82
      try clear c82b0
      try clear c82b1
      try clear c84
      try clear c85
      try clear c85b0
      try clear c85b1
      try clear c87
      try clear c88
      try clear c89
      try clear c90
      try clear c91
      try clear c92
      try clear c94
      try clear c95
      try clear c96
      try clear c97
      try clear c98
      try clear c101
      try clear c102
      try clear c103
      try clear c104
      try clear c106
      try clear c107
      try clear c108
      try clear c113
      try clear c114
      try clear c115
      try clear c116
      try clear c117
      try clear c118
      try clear c120
      try clear c121
      try clear c122
      try clear c123
      try clear c124
      try clear c127
      try clear c128
      try clear c129
      try clear c130
      try clear c132
      try clear c133
      try clear c134
      try clear c137
      try clear c138
      try clear c139
      try clear c140
      try clear c141
      try clear c142
      try clear c144
      try clear c145
      try clear c146
      try clear c147
      try clear c148
      try clear c151
      try clear c152
      try clear c153
      try clear c154
      try clear c156
      try clear c157
      try clear c158
      try clear c161
      try clear c162
      try clear c163
      try clear c164
      try clear c165
      try clear c166
      try clear c168
      try clear c169
      try clear c170
      try clear c171
      try clear c172
      try clear c175
      try clear c176
      try clear c177
      try clear c178
      try clear c179
      try clear c180
      try clear c182
      try clear c183
      try clear c184
      try clear c185
      try clear c186
      try clear c189
      try clear c191
      try clear c191b0
      try clear c191b1
      try clear c193
      try clear c194
      try clear c195
      try clear c196
      try clear c197
      try clear c198
      try clear c199
      try clear c203
      try clear c204
      try clear c205
      try clear c206
      try clear c207
      try clear c209
      try clear c210
      try clear c211
      try clear c212
      try clear c213
      try clear c214
      try clear p2
      obtain ⟨kq, x114_189, rfl, HA, HJ189, HO_15, HO_888000, HO_888001, HO_888002, HO_900000, HO_900001, HO_900002, HO_911000, HO_911001, HO_911002, HO_922000, HO_922001, HO_922002, HO_933000, HO_933001, HO_933002, HO_944000, HO_944001, HO_944002, BK887, BK888, BK899, BK910, BK921, BK932, BK943, HB⟩ := hcut
      cases kq with
      | zero => exact absurd HA.out (by simp [laws_FnCueChanges.j1])
      | succ kj189 =>
       have H := HA.out; clear HA; simp only [laws_FnCueChanges.j1] at H
       by_cases c217 : x114_189 = true
       ·subst c217
        have H1 : (some false) = some r := by rw [if_pos rfl] at H; exact H
        clear H; have H := H1; clear H1; exact absurd ((Option.some.inj H).trans HR_.out) (by decide)
       ·replace c217 := Bool.eq_false_iff.mpr c217
        subst c217
        have H1 : (if t947 = 0 then ((laws_sum.f kj189 t944).bind fun t956 => (laws_FnCueChanges.j2 kj189 t898 (t956 != (t880.length : Int)) t874 t877 t880 t883 t884 t885 t886 t889 t892 t895 t900 t903 t906)) else (laws_FnCueChanges.j2 kj189 t898 false t874 t877 t880 t883 t884 t885 t886 t889 t892 t895 t900 t903 t906)) = some r := by rw [if_neg (show ¬ (false = true) by decide)] at H; exact H
        clear H; have H := H1; clear H1; have HC218 := am_ H; clear H
        go_upto_region 15 with (fail)
        go_cut [124] (fun v124 wc => ∃ (kq : Nat) (x124_217 : Bool), v124 = .bool x124_217 ∧ Aside0 (laws_FnCueChanges.j2 kq t898 x124_217 t874 t877 t880 t883 t884 t885 t886 t889 t892 t895 t900 t903 t906 = some r) ∧ Aside0 (kq ≤ kj189) ∧ Aside0 (Kd.R k104 104 wc w.heap.size (fun k_ => some k_ ≠ ((.slice Ao24 t889.length co24) : Value).ownBlock ∧ some k_ ≠ ((.slice Ao34 t900.length co34) : Value).ownBlock ∧ some k_ ≠ ((.slice Ao43 t911.length co43) : Value).ownBlock ∧ some k_ ≠ ((.slice Ao53 t922.length co53) : Value).ownBlock ∧ some k_ ≠ ((.slice Ao65 t933.length co65) : Value).ownBlock) (.slice Ao16 t874.length co16) t874) ∧ Aside0 (Kd.R k62 62 wc w.heap.size (fun k_ => some k_ ≠ ((.slice Ao28 t892.length co28) : Value).ownBlock ∧ some k_ ≠ ((.slice Ao39 t903.length co39) : Value).ownBlock ∧ some k_ ≠ ((.slice Ao49 t914.length co49) : Value).ownBlock ∧ some k_ ≠ ((.slice Ao60 t925.length co60) : Value).ownBlock ∧ some k_ ≠ ((.slice Ao73 t936.length co73) : Value).ownBlock) (.slice Ao19 t877.length co19) t877) ∧ Aside0 (Kd.R k39 39 wc w.heap.size (fun k_ => some k_ ≠ ((.slice Ao29 t895.length co29) : Value).ownBlock ∧ some k_ ≠ ((.slice Ao40 t906.length co40) : Value).ownBlock ∧ some k_ ≠ ((.slice Ao50 t917.length co50) : Value).ownBlock ∧ some k_ ≠ ((.slice Ao61 t928.length co61) : Value).ownBlock ∧ some k_ ≠ ((.slice Ao74 t939.length co74) : Value).ownBlock ∧ k_ ≠ gb888) (.slice Ao20 t880.length co20) t880) ∧ Aside0 (Kd.R k104 104 wc w.heap.size (fun k_ => some k_ ≠ ((.slice Ao16 t874.length co16) : Value).ownBlock ∧ some k_ ≠ ((.slice Ao34 t900.length co34) : Value).ownBlock ∧ some k_ ≠ ((.slice Ao43 t911.length co43) : Value).ownBlock ∧ some k_ ≠ ((.slice Ao53 t922.length co53) : Value).ownBlock ∧ some k_ ≠ ((.slice Ao65 t933.length co65) : Value).ownBlock) (.slice Ao24 t889.length co24) t889) ∧ Aside0 (Kd.R k62 62 wc w.heap.size (fun k_ => some k_ ≠ ((.slice Ao19 t877.length co19) : Value).ownBlock ∧ some k_ ≠ ((.slice Ao39 t903.length co39) : Value).ownBlock ∧ some k_ ≠ ((.slice Ao49 t914.length co49) : Value).ownBlock ∧ some k_ ≠ ((.slice Ao60 t925.length co60) : Value).ownBlock ∧ some k_ ≠ ((.slice Ao73 t936.length co73) : Value).ownBlock) (.slice Ao28 t892.length co28) t892) ∧ Aside0 (Kd.R k39 39 wc w.heap.size (fun k_ => some k_ ≠ ((.slice Ao20 t880.length co20) : Value).ownBlock ∧ some k_ ≠ ((.slice Ao40 t906.length co40) : Value).ownBlock ∧ some k_ ≠ ((.slice Ao50 t917.length co50) : Value).ownBlock ∧ some k_ ≠ ((.slice Ao61 t928.length co61) : Value).ownBlock ∧ some k_ ≠ ((.slice Ao74 t939.length co74) : Value).ownBlock ∧ k_ ≠ gb888) (.slice Ao29 t895.length co29) t895) ∧ Aside0 (Kd.R k104 104 wc w.heap.size (fun k_ => some k_ ≠ ((.slice Ao16 t874.length co16) : Value).ownBlock ∧ some k_ ≠ ((.slice Ao24 t889.length co24) : Value).ownBlock ∧ some k_ ≠ ((.slice Ao43 t911.length co43) : Value).ownBlock ∧ some k_ ≠ ((.slice Ao53 t922.length co53) : Value).ownBlock ∧ some k_ ≠ ((.slice Ao65 t933.length co65) : Value).ownBlock) (.slice Ao34 t900.length co34) t900) ∧ Aside0 (Kd.R k62 62 wc w.heap.size (fun k_ => some k_ ≠ ((.slice Ao19 t877.length co19) : Value).ownBlock ∧ some k_ ≠ ((.slice Ao28 t892.length co28) : Value).ownBlock ∧ some k_ ≠ ((.slice Ao49 t914.length co49) : Value).ownBlock ∧ some k_ ≠ ((.slice Ao60 t925.length co60) : Value).ownBlock ∧ some k_ ≠ ((.slice Ao73 t936.length co73) : Value).ownBlock) (.slice Ao39 t903.length co39) t903) ∧ Aside0 (Kd.R k39 39 wc w.heap.size (fun k_ => some k_ ≠ ((.slice Ao20 t880.length co20) : Value).ownBlock ∧ some k_ ≠ ((.slice Ao29 t895.length co29) : Value).ownBlock ∧ some k_ ≠ ((.slice Ao50 t917.length co50) : Value).ownBlock ∧ some k_ ≠ ((.slice Ao61 t928.length co61) : Value).ownBlock ∧ some k_ ≠ ((.slice Ao74 t939.length co74) : Value).ownBlock ∧ k_ ≠ gb888) (.slice Ao40 t906.length co40) t906) ∧ Aside0 (Kd.R k104 104 wc w.heap.size (fun k_ => some k_ ≠ ((.slice Ao16 t874.length co16) : Value).ownBlock ∧ some k_ ≠ ((.slice Ao24 t889.length co24) : Value).ownBlock ∧ some k_ ≠ ((.slice Ao34 t900.length co34) : Value).ownBlock ∧ some k_ ≠ ((.slice Ao53 t922.length co53) : Value).ownBlock ∧ some k_ ≠ ((.slice Ao65 t933.length co65) : Value).ownBlock) (.slice Ao43 t911.length co43) t911) ∧ Aside0 (Kd.R k62 62 wc w.heap.size (fun k_ => some k_ ≠ ((.slice Ao19 t877.length co19) : Value).ownBlock ∧ some k_ ≠ ((.slice Ao28 t892.length co28) : Value).ownBlock ∧ some k_ ≠ ((.slice Ao39 t903.length co39) : Value).ownBlock ∧ some k_ ≠ ((.slice Ao60 t925.length co60) : Value).ownBlock ∧ some k_ ≠ ((.slice Ao73 t936.length co73) : Value).ownBlock) (.slice Ao49 t914.length co49) t914) ∧ Aside0 (Kd.R k39 39 wc w.heap.size (fun k_ => some k_ ≠ ((.slice Ao20 t880.length co20) : Value).ownBlock ∧ some k_ ≠ ((.slice Ao29 t895.length co29) : Value).ownBlock ∧ some k_ ≠ ((.slice Ao40 t906.length co40) : Value).ownBlock ∧ some k_ ≠ ((.slice Ao61 t928.length co61) : Value).ownBlock ∧ some k_ ≠ ((.slice Ao74 t939.length co74) : Value).ownBlock ∧ k_ ≠ gb888) (.slice Ao50 t917.length co50) t917) ∧ Aside0 (Kd.R k104 104 wc w.heap.size (fun k_ => some k_ ≠ ((.slice Ao16 t874.length co16) : Value).ownBlock ∧ some k_ ≠ ((.slice Ao24 t889.length co24) : Value).ownBlock ∧ some k_ ≠ ((.slice Ao34 t900.length co34) : Value).ownBlock ∧ some k_ ≠ ((.slice Ao43 t911.length co43) : Value).ownBlock ∧ some k_ ≠ ((.slice Ao65 t933.length co65) : Value).ownBlock) (.slice Ao53 t922.length co53) t922) ∧ Aside0 (Kd.R k62 62 wc w.heap.size (fun k_ => some k_ ≠ ((.slice Ao19 t877.length co19) : Value).ownBlock ∧ some k_ ≠ ((.slice Ao28 t892.length co28) : Value).ownBlock ∧ some k_ ≠ ((.slice Ao39 t903.length co39) : Value).ownBlock ∧ some k_ ≠ ((.slice Ao49 t914.length co49) : Value).ownBlock ∧ some k_ ≠ ((.slice Ao73 t936.length co73) : Value).ownBlock) (.slice Ao60 t925.length co60) t925) ∧ Aside0 (Kd.R k39 39 wc w.heap.size (fun k_ => some k_ ≠ ((.slice Ao20 t880.length co20) : Value).ownBlock ∧ some k_ ≠ ((.slice Ao29 t895.length co29) : Value).ownBlock ∧ some k_ ≠ ((.slice Ao40 t906.length co40) : Value).ownBlock ∧ some k_ ≠ ((.slice Ao50 t917.length co50) : Value).ownBlock ∧ some k_ ≠ ((.slice Ao74 t939.length co74) : Value).ownBlock ∧ k_ ≠ gb888) (.slice Ao61 t928.length co61) t928) ∧ Aside0 (Kd.R k104 104 wc w.heap.size (fun k_ => some k_ ≠ ((.slice Ao16 t874.length co16) : Value).ownBlock ∧ some k_ ≠ ((.slice Ao24 t889.length co24) : Value).ownBlock ∧ some k_ ≠ ((.slice Ao34 t900.length co34) : Value).ownBlock ∧ some k_ ≠ ((.slice Ao43 t911.length co43) : Value).ownBlock ∧ some k_ ≠ ((.slice Ao53 t922.length co53) : Value).ownBlock) (.slice Ao65 t933.length co65) t933) ∧ Aside0 (Kd.R k62 62 wc w.heap.size (fun k_ => some k_ ≠ ((.slice Ao19 t877.length co19) : Value).ownBlock ∧ some k_ ≠ ((.slice Ao28 t892.length co28) : Value).ownBlock ∧ some k_ ≠ ((.slice Ao39 t903.length co39) : Value).ownBlock ∧ some k_ ≠ ((.slice Ao49 t914.length co49) : Value).ownBlock ∧ some k_ ≠ ((.slice Ao60 t925.length co60) : Value).ownBlock) (.slice Ao73 t936.length co73) t936) ∧ Aside0 (Kd.R k39 39 wc w.heap.size (fun k_ => some k_ ≠ ((.slice Ao20 t880.length co20) : Value).ownBlock ∧ some k_ ≠ ((.slice Ao29 t895.length co29) : Value).ownBlock ∧ some k_ ≠ ((.slice Ao40 t906.length co40) : Value).ownBlock ∧ some k_ ≠ ((.slice Ao50 t917.length co50) : Value).ownBlock ∧ some k_ ≠ ((.slice Ao61 t928.length co61) : Value).ownBlock ∧ k_ ≠ gb888) (.slice Ao74 t939.length co74) t939) ∧ Aside0 (wc.heap[gb887]? = some (.cells #[(.slice Ao16 t874.length co16), (.slice Ao19 t877.length co19), (.slice Ao20 t880.length co20)] 28 (0, 0))) ∧ Aside0 (wc.heap[gb888]? = some (.cells #[.int .i64 t883, .int .i64 t884, .string t885, .int .i64 t886] 39 (0, 0))) ∧ Aside0 (wc.heap[gb899]? = some (.cells #[(.slice Ao24 t889.length co24), (.slice Ao28 t892.length co28), (.slice Ao29 t895.length co29)] 28 (0, 0))) ∧ Aside0 (wc.heap[gb910]? = some (.cells #[(.slice Ao34 t900.length co34), (.slice Ao39 t903.length co39), (.slice Ao40 t906.length co40)] 28 (0, 0))) ∧ Aside0 (wc.heap[gb921]? = some (.cells #[(.slice Ao43 t911.length co43), (.slice Ao49 t914.length co49), (.slice Ao50 t917.length co50)] 28 (0, 0))) ∧ Aside0 (wc.heap[gb932]? = some (.cells #[(.slice Ao53 t922.length co53), (.slice Ao60 t925.length co60), (.slice Ao61 t928.length co61)] 28 (0, 0))) ∧ Aside0 (wc.heap[gb943]? = some (.cells #[(.slice Ao65 t933.length co65), (.slice Ao73 t936.length co73), (.slice Ao74 t939.length co74)] 28 (0, 0))) ∧ Aside0 (Below w.heap.size w wc))
        case first => as_aux_lemma =>
         have H := HC218.out; clear HC218
         by_cases c219 : t947 = 0
         ·rw [if_pos c219] at H
          have c219b0 := beq_iff_eq.mpr c219; have c219b1 := bne_eq_false_iff_eq.mpr c219; clear c219
          (first | rw [c219b0] | (simp only [i64_w, i32_w]; rw [c219b0]) | skip)
          replace H := Option.bind_eq_some_iff.mp H; obtain ⟨t956, A2200, H⟩ := H; have A220 := am_ A2200; clear A2200; have H' := am_ H; clear H
          try go_wp2
          replace HO_15 := am_ (Kd.R_drew HO_15.out); replace HO_888000 := am_ (Kd.R_drew HO_888000.out); replace HO_888001 := am_ (Kd.R_drew HO_888001.out); replace HO_888002 := am_ (Kd.R_drew HO_888002.out); replace HO_900000 := am_ (Kd.R_drew HO_900000.out); replace HO_900001 := am_ (Kd.R_drew HO_900001.out); replace HO_900002 := am_ (Kd.R_drew HO_900002.out); replace HO_911000 := am_ (Kd.R_drew HO_911000.out); replace HO_911001 := am_ (Kd.R_drew HO_911001.out); replace HO_911002 := am_ (Kd.R_drew HO_911002.out); replace HO_922000 := am_ (Kd.R_drew HO_922000.out); replace HO_922001 := am_ (Kd.R_drew HO_922001.out); replace HO_922002 := am_ (Kd.R_drew HO_922002.out); replace HO_933000 := am_ (Kd.R_drew HO_933000.out); replace HO_933001 := am_ (Kd.R_drew HO_933001.out); replace HO_933002 := am_ (Kd.R_drew HO_933002.out); replace HO_944000 := am_ (Kd.R_drew HO_944000.out); replace HO_944001 := am_ (Kd.R_drew HO_944001.out); replace HO_944002 := am_ (Kd.R_drew HO_944002.out); replace BK887 := am_ (blk_drew BK887.out); replace BK888 := am_ (blk_drew BK888.out); replace BK899 := am_ (blk_drew BK899.out); replace BK910 := am_ (blk_drew BK910.out); replace BK921 := am_ (blk_drew BK921.out); replace BK932 := am_ (blk_drew BK932.out); replace BK943 := am_ (blk_drew BK943.out); replace HB := am_ (below_drew1 HB.out); obtain ⟨Ao222, co222, eo222⟩ := Kd.R_slice HO_15.out
          (first | subst eo222 | (injection eo222 with f1_ f2_ f3_; have f4_ := f1_.symm; have f5_ := f3_.symm; clear f1_ f2_ f3_; subst f4_; subst f5_))
          refine start_ (n := 10) (S := fun w' => w'.cell? ⟨gb887, 0, none⟩ = some (.slice Ao16 t874.length co16) ∧ w'.cell? ⟨gb887, 1, none⟩ = some (.slice Ao19 t877.length co19) ∧ w'.cell? ⟨gb887, 2, none⟩ = some (.slice Ao20 t880.length co20)) (ds := []) (bT 10 0) Za rfl rfl ⟨(blk_cell BK887.out 0).trans rfl, (blk_cell BK887.out 1).trans rfl, (blk_cell BK887.out 2).trans rfl⟩ (fun hHeld => ?_); refine with_tabW laws_FnCueChanges.tab15 laws_FnCueChanges.bits15 (fun HT_ HW_ => ?_); generalize wc.drew = w221 at HO_15 HO_888000 HO_888001 HO_888002 HO_900000 HO_900001 HO_900002 HO_911000 HO_911001 HO_911002 HO_922000 HO_922001 HO_922002 HO_933000 HO_933001 HO_933002 HO_944000 HO_944001 HO_944002 BK887 BK888 BK899 BK910 BK921 BK932 BK943 HB hHeld ⊢; refine pureZ HT_ 0 (some 115) (bT 10 1) ?_; refine pureZ HT_ 1 (some 116) (bT 10 2) ?_; refine pureZ HT_ 2 (some 117) (bT 10 3) ?_; refine pureZ HT_ 3 (some 118) (bT 10 4) ?_; refine pureZ HT_ 5 (some 120) (bB 10 47) ?_; refine takeZ3 HT_ HW_ 6 (some 121) (bB 10 111) hHeld ?_; refine pureZ HT_ 7 (some 122) (bB 10 239) ?_; refine one_ (i := 4) (N := some 119) (bT 10 8) rfl rfl (one_of HT_.out Za) (by decide) (fun K hK => ?_); refine goes_ Try.func26 Za rfl #[.slice Ao222 t944.length co222] (by rfl) rfl rfl Zk ?_
          with_reducible refine (laws_sum.calls kj189 _ _ t944 t956 _ ?side1 ?side2 A220.out).mono ?_
          (case side1 => exact (Zak HO_15))
          (case side2 => exact (Kd.R_reads' HO_15.out).2.1)
          rintro e w' ⟨rfl, ⟨nd, rfl⟩⟩; refine ⟨_, rfl, ?_⟩; refine hK.out _ _ (Zr BK887) (fun hHeld => ?_); clear hK K; refine normZ 119 ?_; refine pureZ HT_ 8 (some 123) (bT 10 9) ?_; refine pureZ HT_ 9 (some 124) (bT 10 10) ?_; refine done_ (done_of HT_.out Za) ?_
          try go_wp2
          go_meet
          case rel => exact ⟨_, ((t956 != (t880.length : Int))), Zc, H', ⟨by have := HJ11.out; have := HJ189.out; first | omega | exact Nat.le_refl _⟩, ⟨(Zt HO_888000)⟩, ⟨(Zt HO_888001)⟩, ⟨(Zt HO_888002)⟩, ⟨(Zt HO_900000)⟩, ⟨(Zt HO_900001)⟩, ⟨(Zt HO_900002)⟩, ⟨(Zt HO_911000)⟩, ⟨(Zt HO_911001)⟩, ⟨(Zt HO_911002)⟩, ⟨(Zt HO_922000)⟩, ⟨(Zt HO_922001)⟩, ⟨(Zt HO_922002)⟩, ⟨(Zt HO_933000)⟩, ⟨(Zt HO_933001)⟩, ⟨(Zt HO_933002)⟩, ⟨(Zt HO_944000)⟩, ⟨(Zt HO_944001)⟩, ⟨(Zt HO_944002)⟩, ⟨(Zq BK887)⟩, ⟨(Zq BK888)⟩, ⟨(Zq BK899)⟩, ⟨(Zq BK910)⟩, ⟨(Zq BK921)⟩, ⟨(Zq BK932)⟩, ⟨(Zq BK943)⟩, ⟨(Zdn GE887 GE888 GE899 GE910 GE921 GE932 GE943)⟩⟩
         ·rw [if_neg c219] at H
          have c219b0 := beq_eq_false_iff_ne.mpr c219; have c219b1 := bne_iff_ne.mpr c219
          (first | rw [c219b0] | (simp only [i64_w, i32_w]; rw [c219b0]) | skip)
          have H' := am_ H; clear H
          try go_wp2
          replace HO_15 := am_ (Kd.R_drew HO_15.out); replace HO_888000 := am_ (Kd.R_drew HO_888000.out); replace HO_888001 := am_ (Kd.R_drew HO_888001.out); replace HO_888002 := am_ (Kd.R_drew HO_888002.out); replace HO_900000 := am_ (Kd.R_drew HO_900000.out); replace HO_900001 := am_ (Kd.R_drew HO_900001.out); replace HO_900002 := am_ (Kd.R_drew HO_900002.out); replace HO_911000 := am_ (Kd.R_drew HO_911000.out); replace HO_911001 := am_ (Kd.R_drew HO_911001.out); replace HO_911002 := am_ (Kd.R_drew HO_911002.out); replace HO_922000 := am_ (Kd.R_drew HO_922000.out); replace HO_922001 := am_ (Kd.R_drew HO_922001.out); replace HO_922002 := am_ (Kd.R_drew HO_922002.out); replace HO_933000 := am_ (Kd.R_drew HO_933000.out); replace HO_933001 := am_ (Kd.R_drew HO_933001.out); replace HO_933002 := am_ (Kd.R_drew HO_933002.out); replace HO_944000 := am_ (Kd.R_drew HO_944000.out); replace HO_944001 := am_ (Kd.R_drew HO_944001.out); replace HO_944002 := am_ (Kd.R_drew HO_944002.out); replace BK887 := am_ (blk_drew BK887.out); replace BK888 := am_ (blk_drew BK888.out); replace BK899 := am_ (blk_drew BK899.out); replace BK910 := am_ (blk_drew BK910.out); replace BK921 := am_ (blk_drew BK921.out); replace BK932 := am_ (blk_drew BK932.out); replace BK943 := am_ (blk_drew BK943.out); replace HB := am_ (below_drew1 HB.out); refine start_ (n := 10) (S := fun w' => True) (ds := []) (bT 10 0) Za rfl rfl trivial (fun hHeld => ?_); refine with_tabW laws_FnCueChanges.tab15 laws_FnCueChanges.bits15 (fun HT_ HW_ => ?_); generalize wc.drew = w223 at HO_15 HO_888000 HO_888001 HO_888002 HO_900000 HO_900001 HO_900002 HO_911000 HO_911001 HO_911002 HO_922000 HO_922001 HO_922002 HO_933000 HO_933001 HO_933002 HO_944000 HO_944001 HO_944002 BK887 BK888 BK899 BK910 BK921 BK932 BK943 HB hHeld ⊢; refine pureZ HT_ 0 (some 115) (bT 10 1) ?_; refine pureZ HT_ 1 (some 116) (bT 10 2) ?_; refine pureZ HT_ 2 (some 117) (bT 10 3) ?_; refine pureU HT_ 3 (some 118) (bT 10 4) ?_; refine pureU HT_ 4 (some 119) (bT 10 5) ?_; refine pureU HT_ 5 (some 120) (bT 10 6) ?_; refine pureU HT_ 6 (some 121) (bT 10 7) ?_; refine pureU HT_ 7 (some 122) (bT 10 8) ?_; refine pureU HT_ 8 (some 123) (bT 10 9) ?_; refine pureZ HT_ 9 (some 124) (bT 10 10) ?_; refine done_ (done_of HT_.out Za) ?_
          try go_wp2
          go_meet
          case rel => exact ⟨_, (false), Zc, H', ⟨by have := HJ11.out; have := HJ189.out; first | omega | exact Nat.le_refl _⟩, ⟨(Zt HO_888000)⟩, ⟨(Zt HO_888001)⟩, ⟨(Zt HO_888002)⟩, ⟨(Zt HO_900000)⟩, ⟨(Zt HO_900001)⟩, ⟨(Zt HO_900002)⟩, ⟨(Zt HO_911000)⟩, ⟨(Zt HO_911001)⟩, ⟨(Zt HO_911002)⟩, ⟨(Zt HO_922000)⟩, ⟨(Zt HO_922001)⟩, ⟨(Zt HO_922002)⟩, ⟨(Zt HO_933000)⟩, ⟨(Zt HO_933001)⟩, ⟨(Zt HO_933002)⟩, ⟨(Zt HO_944000)⟩, ⟨(Zt HO_944001)⟩, ⟨(Zt HO_944002)⟩, ⟨(Zq BK887)⟩, ⟨(Zq BK888)⟩, ⟨(Zq BK899)⟩, ⟨(Zq BK910)⟩, ⟨(Zq BK921)⟩, ⟨(Zq BK932)⟩, ⟨(Zq BK943)⟩, ⟨(Zdn GE887 GE888 GE899 GE910 GE921 GE932 GE943)⟩⟩
        case rest => as_aux_lemma =>
         clear HC218
         try clear c1
         try clear c2
         try clear p2
         try clear c17
         try clear c18
         try clear c19
         try clear c20
         try clear c21
         try clear c26
         try clear c178
         try clear c179
         try clear c180
         try clear c182
         try clear c183
         try clear c184
         try clear c185
         try clear c186
         try clear c189
         try clear c191
         try clear c191b0
         try clear c191b1
         try clear c193
         try clear c194
         try clear c195
         try clear c196
         try clear c197
         try clear c198
         try clear c199
         try clear c203
         try clear c204
         try clear c205
         try clear c206
         try clear c207
         try clear c209
         try clear c210
         try clear c211
         try clear c212
         try clear c213
         try clear c214
         try clear c217
         try clear c219
         try clear c219b0
         try clear c219b1
         try clear p2
         obtain ⟨kq, x124_217, rfl, HA, HJ217, HO_888000, HO_888001, HO_888002, HO_900000, HO_900001, HO_900002, HO_911000, HO_911001, HO_911002, HO_922000, HO_922001, HO_922002, HO_933000, HO_933001, HO_933002, HO_944000, HO_944001, HO_944002, BK887, BK888, BK899, BK910, BK921, BK932, BK943, HB⟩ := hcut
         cases kq with
         | zero => exact absurd HA.out (by simp [laws_FnCueChanges.j2])
         | succ kj217 =>
          have H := HA.out; clear HA; simp only [laws_FnCueChanges.j2] at H
          by_cases c224 : x124_217 = true
          ·subst c224
           have H1 : (some false) = some r := by rw [if_pos rfl] at H; exact H
           clear H; have H := H1; clear H1; exact absurd ((Option.some.inj H).trans HR_.out) (by decide)
          ·replace c224 := Bool.eq_false_iff.mpr c224
           subst c224
           have H1 : (if t898 = 0 then ((impl_DropCue.f kj217 t889 t892 t895 (t880.length : Int)).bind fun bt957 => (if bt957.2.2.2 = 0 then ((laws_likeShow.f kj217 bt957.1 bt957.2.1 bt957.2.2.1 t874 t877 t880).bind fun t968 => (if t968 = true then ((impl_IsShow.f kj217 t889 t892 t895).bind fun t969 => (if t969 = true then (if 0 ≤ (wrap64 ((t906.length : Int) - 1)) then (if (wrap64 ((t906.length : Int) - 1)) < (t895.length : Int) then (some (((rd_T39 t895 (wrap64 ((t906.length : Int) - 1))).f0) == t883 && (((rd_T39 t895 (wrap64 ((t906.length : Int) - 1))).f1) == t884 && ((((rd_T39 t895 (wrap64 ((t906.length : Int) - 1))).f2).toList) == t885.toList && (((rd_T39 t895 (wrap64 ((t906.length : Int) - 1))).f3) == t886))))) else (none)) else (none)) else (some false))) else (some false))) else (some false))) else (some true)) = some r := by rw [if_neg (show ¬ (false = true) by decide)] at H; exact H
           clear H; have H := H1; clear H1
           by_cases c225 : t898 = 0
           ·rw [if_pos c225] at H
            have c225b0 := beq_iff_eq.mpr c225; have c225b1 := bne_eq_false_iff_eq.mpr c225; clear c225; replace H := Option.bind_eq_some_iff.mp H; obtain ⟨⟨t957, t960, t963, t966⟩, A2260, H⟩ := H; replace H : (if t966 = 0 then ((laws_likeShow.f kj217 t957 t960 t963 t874 t877 t880).bind fun t968 => (if t968 = true then ((impl_IsShow.f kj217 t889 t892 t895).bind fun t969 => (if t969 = true then (if 0 ≤ (wrap64 ((t906.length : Int) - 1)) then (if (wrap64 ((t906.length : Int) - 1)) < (t895.length : Int) then (some (((rd_T39 t895 (wrap64 ((t906.length : Int) - 1))).f0) == t883 && (((rd_T39 t895 (wrap64 ((t906.length : Int) - 1))).f1) == t884 && ((((rd_T39 t895 (wrap64 ((t906.length : Int) - 1))).f2).toList) == t885.toList && (((rd_T39 t895 (wrap64 ((t906.length : Int) - 1))).f3) == t886))))) else (none)) else (none)) else (some false))) else (some false))) else (some false)) = some r := H; have A226 := am_ A2260; clear A2260
            by_cases c227 : t966 = 0
            ·rw [if_pos c227] at H
             have c227b0 := beq_iff_eq.mpr c227; have c227b1 := bne_eq_false_iff_eq.mpr c227; clear c227; replace H := Option.bind_eq_some_iff.mp H; obtain ⟨t968, A2280, H⟩ := H; have A228 := am_ A2280; clear A2280
             by_cases c229 : t968 = true
             ·subst c229
              have H1 : ((impl_IsShow.f kj217 t889 t892 t895).bind fun t969 => (if t969 = true then (if 0 ≤ (wrap64 ((t906.length : Int) - 1)) then (if (wrap64 ((t906.length : Int) - 1)) < (t895.length : Int) then (some (((rd_T39 t895 (wrap64 ((t906.length : Int) - 1))).f0) == t883 && (((rd_T39 t895 (wrap64 ((t906.length : Int) - 1))).f1) == t884 && ((((rd_T39 t895 (wrap64 ((t906.length : Int) - 1))).f2).toList) == t885.toList && (((rd_T39 t895 (wrap64 ((t906.length : Int) - 1))).f3) == t886))))) else (none)) else (none)) else (some false))) = some r := by rw [if_pos rfl] at H; exact H
              clear H; have H := H1; clear H1; replace H := Option.bind_eq_some_iff.mp H; obtain ⟨t969, A2300, H⟩ := H; have A230 := am_ A2300; clear A2300
              by_cases c231 : t969 = true
              ·subst c231
               have H1 : (if 0 ≤ (wrap64 ((t906.length : Int) - 1)) then (if (wrap64 ((t906.length : Int) - 1)) < (t895.length : Int) then (some (((rd_T39 t895 (wrap64 ((t906.length : Int) - 1))).f0) == t883 && (((rd_T39 t895 (wrap64 ((t906.length : Int) - 1))).f1) == t884 && ((((rd_T39 t895 (wrap64 ((t906.length : Int) - 1))).f2).toList) == t885.toList && (((rd_T39 t895 (wrap64 ((t906.length : Int) - 1))).f3) == t886))))) else (none)) else (none)) = some r := by rw [if_pos rfl] at H; exact H
               clear H; have H := H1; clear H1; obtain ⟨ji232, hji232⟩ : ∃ j_ : Int, (wrap64 ((t906.length : Int) - 1)) = j_ := ⟨_, rfl⟩
               replace H : (if 0 ≤ (ji232) then (if (ji232) < (t895.length : Int) then (some (((rd_T39 t895 (ji232)).f0) == t883 && (((rd_T39 t895 (ji232)).f1) == t884 && ((((rd_T39 t895 (ji232)).f2).toList) == t885.toList && (((rd_T39 t895 (ji232)).f3) == t886))))) else (none)) else (none)) = some r := by first | (rw [hji232] at H; exact H) | (simp only [hji232] at H ⊢; exact H)
               (try rw [hji232] at A226)
               (try rw [hji232] at A228)
               (try rw [hji232] at A230)
               have hji232w : (IntKind.i64.wrap ((t906.length : Int) - 1)) = ji232 := (i64_w _).trans hji232
               by_cases c233 : 0 ≤ (ji232)
               ·rw [if_pos c233] at H
                have c233b0 := decide_eq_true c233; clear c233
                by_cases c234 : (ji232) < (t895.length : Int)
                ·rw [if_pos c234] at H
                 have c234b0 := decide_eq_true c234; clear c234; obtain rfl := Option.some.inj H; have hnb235 := NB899_887.out; have hnc235 := NB887_899.out; have hnb236 := NB899_888.out; have hnc236 := NB888_899.out; have hnb237 := NB899_910.out; have hnc237 := NB910_899.out; have hnb238 := NB899_921.out; have hnc238 := NB921_899.out; have hnb239 := NB899_932.out; have hnc239 := NB932_899.out; have hnb240 := NB899_943.out; have hnc240 := NB943_899.out; refine ci3 BK899 ?_; intros; have hnb242 := NB887_888.out; have hnc242 := NB888_887.out; have hnb243 := NB887_910.out; have hnc243 := NB910_887.out; have hnb244 := NB887_921.out; have hnc244 := NB921_887.out; have hnb245 := NB887_932.out; have hnc245 := NB932_887.out; have hnb246 := NB887_943.out; have hnc246 := NB943_887.out; refine ci3 BK887 ?_; intros
                 try go_wp2_with (first | ((with_reducible refine gate_callee (f := 20) rfl ?_); refine gZ 132 Try.func20 #[.agg #[.slice Ao24 t889.length co24, .slice Ao28 t892.length co28, .slice Ao29 t895.length co29], .int .i64 (t880.length : Int)] ?_; (with_reducible refine (impl_DropCue.calls kj217 _ _ t889 _ _ t892 _ _ t895 (t880.length : Int) t957 t960 t963 t966 _ ?_ ?_ ?_ ?_ ?_ ?_ A226.out).mono ?_); exact (Zak HO_900000); exact (Kd.R_reads' HO_900000.out).2.1; exact (Zak HO_900001); exact (Kd.R_reads' HO_900001.out).2.1; exact (Zak HO_900002); exact (Kd.R_reads' HO_900002.out).2.1; rintro e w248 ⟨v958, v961, v964, rfl, ho0, ho1, ho2, hb⟩; refine ⟨_, rfl, ?_⟩; replace HO959 := am_ (Kd.R_lower (Kd.R_new' (Kd.R_new' (Kd.R_new' (Kd.R_new' (Kd.R_new' (Kd.R_new' ho0 (Kd.R_lt (Zt HO_888000))) (Kd.R_lt (Zt HO_900000))) (Kd.R_lt (Zt HO_911000))) (Kd.R_lt (Zt HO_922000))) (Kd.R_lt (Zt HO_933000))) (Kd.R_lt (Zt HO_944000))) (below_size (Zdn GE887 GE888 GE899 GE910 GE921 GE932 GE943))); replace HO_888000 := am_ (Kd.R_elder' (Zt HO_888000) (Kd.R_base ho0) hb); replace HO_900000 := am_ (Kd.R_elder' (Zt HO_900000) (Kd.R_base ho0) hb); replace HO_911000 := am_ (Kd.R_elder' (Zt HO_911000) (Kd.R_base ho0) hb); replace HO_922000 := am_ (Kd.R_elder' (Zt HO_922000) (Kd.R_base ho0) hb); replace HO_933000 := am_ (Kd.R_elder' (Zt HO_933000) (Kd.R_base ho0) hb); replace HO_944000 := am_ (Kd.R_elder' (Zt HO_944000) (Kd.R_base ho0) hb); replace HO962 := am_ (Kd.R_lower (Kd.R_new' (Kd.R_new' (Kd.R_new' (Kd.R_new' (Kd.R_new' (Kd.R_new' ho1 (Kd.R_lt (Zt HO_888001))) (Kd.R_lt (Zt HO_900001))) (Kd.R_lt (Zt HO_911001))) (Kd.R_lt (Zt HO_922001))) (Kd.R_lt (Zt HO_933001))) (Kd.R_lt (Zt HO_944001))) (below_size (Zdn GE887 GE888 GE899 GE910 GE921 GE932 GE943))); replace HO_888001 := am_ (Kd.R_elder' (Zt HO_888001) (Kd.R_base ho1) hb); replace HO_900001 := am_ (Kd.R_elder' (Zt HO_900001) (Kd.R_base ho1) hb); replace HO_911001 := am_ (Kd.R_elder' (Zt HO_911001) (Kd.R_base ho1) hb); replace HO_922001 := am_ (Kd.R_elder' (Zt HO_922001) (Kd.R_base ho1) hb); replace HO_933001 := am_ (Kd.R_elder' (Zt HO_933001) (Kd.R_base ho1) hb); replace HO_944001 := am_ (Kd.R_elder' (Zt HO_944001) (Kd.R_base ho1) hb); replace HO965 := am_ (Kd.R_lower (Kd.R_newB (Kd.R_new' (Kd.R_new' (Kd.R_new' (Kd.R_new' (Kd.R_new' (Kd.R_new' ho2 (Kd.R_lt (Zt HO_888002))) (Kd.R_lt (Zt HO_900002))) (Kd.R_lt (Zt HO_911002))) (Kd.R_lt (Zt HO_922002))) (Kd.R_lt (Zt HO_933002))) (Kd.R_lt (Zt HO_944002))) (g := gb888) (b0Z BK888)) (below_size (Zdn GE887 GE888 GE899 GE910 GE921 GE932 GE943))); replace HO_888002 := am_ (Kd.R_elder' (Zt HO_888002) (Kd.R_base ho2) hb); replace HO_900002 := am_ (Kd.R_elder' (Zt HO_900002) (Kd.R_base ho2) hb); replace HO_911002 := am_ (Kd.R_elder' (Zt HO_911002) (Kd.R_base ho2) hb); replace HO_922002 := am_ (Kd.R_elder' (Zt HO_922002) (Kd.R_base ho2) hb); replace HO_933002 := am_ (Kd.R_elder' (Zt HO_933002) (Kd.R_base ho2) hb); replace HO_944002 := am_ (Kd.R_elder' (Zt HO_944002) (Kd.R_base ho2) hb); replace BK887 := (bkZ BK887 hb); replace BK888 := (bkZ BK888 hb); replace BK899 := (bkZ BK899 hb); replace BK910 := (bkZ BK910 hb); replace BK921 := (bkZ BK921 hb); replace BK932 := (bkZ BK932 hb); replace BK943 := (bkZ BK943 hb); replace HB := (bsZ (Zdn GE887 GE888 GE899 GE910 GE921 GE932 GE943) hb); clear hb ho0 ho1 ho2) | ((with_reducible refine gate_dst (N := 19) rfl ?_); (try (refine gate_guard (by rfl) ?_; dsimp only)); refine boxZ 19 #[.slice none 0 0, .slice none 0 0, .slice none 0 0] 28 ?_; intro gb967 hg w249 hbox hb; replace HO_888000 := (hbZ HO_888000 hb); replace HO_888001 := (hbZ HO_888001 hb); replace HO_888002 := (hbZ HO_888002 hb); replace HO_900000 := (hbZ HO_900000 hb); replace HO_900001 := (hbZ HO_900001 hb); replace HO_900002 := (hbZ HO_900002 hb); replace HO_911000 := (hbZ HO_911000 hb); replace HO_911001 := (hbZ HO_911001 hb); replace HO_911002 := (hbZ HO_911002 hb); replace HO_922000 := (hbZ HO_922000 hb); replace HO_922001 := (hbZ HO_922001 hb); replace HO_922002 := (hbZ HO_922002 hb); replace HO_933000 := (hbZ HO_933000 hb); replace HO_933001 := (hbZ HO_933001 hb); replace HO_933002 := (hbZ HO_933002 hb); replace HO_944000 := (hbZ HO_944000 hb); replace HO_944001 := (hbZ HO_944001 hb); replace HO_944002 := (hbZ HO_944002 hb); replace HO959 := (hbZ HO959 hb); replace HO962 := (hbZ HO962 hb); replace HO965 := (hbZ HO965 hb); replace BK967 := am_ (hbox); replace GW967 := am_ ((by rw [hg]; exact (below_size (Zdn GE887 GE888 GE899 GE910 GE921 GE932 GE943)) : w.heap.size ≤ gb967)); replace GE967 := GW967; replace HB := (bsZ (Zdn GE887 GE888 GE899 GE910 GE921 GE932 GE943) hb); replace NB887_967 := am_ (((Zdf BK887) : gb887 ≠ gb967)); replace NB967_887 := am_ (((Zdg BK887) : gb967 ≠ gb887)); replace BK887 := (bkZ BK887 hb); replace NB888_967 := am_ (((Zdj BK888) : gb888 ≠ gb967)); replace NB967_888 := am_ (((Zdk BK888) : gb967 ≠ gb888)); replace BK888 := (bkZ BK888 hb); replace NB899_967 := am_ ((by rw [hg]; exact Nat.ne_of_lt (blk_lt (g := gb899) (b0Z BK899)) : gb899 ≠ gb967)); replace NB967_899 := am_ ((by rw [hg]; exact Nat.ne_of_gt (blk_lt (g := gb899) (b0Z BK899)) : gb967 ≠ gb899)); replace BK899 := (bkZ BK899 hb); replace NB910_967 := am_ ((by rw [hg]; exact Nat.ne_of_lt (blk_lt (g := gb910) (b0Z BK910)) : gb910 ≠ gb967)); replace NB967_910 := am_ ((by rw [hg]; exact Nat.ne_of_gt (blk_lt (g := gb910) (b0Z BK910)) : gb967 ≠ gb910)); replace BK910 := (bkZ BK910 hb); replace NB921_967 := am_ ((by rw [hg]; exact Nat.ne_of_lt (blk_lt (g := gb921) (b0Z BK921)) : gb921 ≠ gb967)); replace NB967_921 := am_ ((by rw [hg]; exact Nat.ne_of_gt (blk_lt (g := gb921) (b0Z BK921)) : gb967 ≠ gb921)); replace BK921 := (bkZ BK921 hb); replace NB932_967 := am_ ((by rw [hg]; exact Nat.ne_of_lt (blk_lt (g := gb932) (b0Z BK932)) : gb932 ≠ gb967)); replace NB967_932 := am_ ((by rw [hg]; exact Nat.ne_of_gt (blk_lt (g := gb932) (b0Z BK932)) : gb967 ≠ gb932)); replace BK932 := (bkZ BK932 hb); replace NB943_967 := am_ ((by rw [hg]; exact Nat.ne_of_lt (blk_lt (g := gb943) (b0Z BK943)) : gb943 ≠ gb967)); replace NB967_943 := am_ ((by rw [hg]; exact Nat.ne_of_gt (blk_lt (g := gb943) (b0Z BK943)) : gb967 ≠ gb943)); replace BK943 := (bkZ BK943 hb); clear hb hbox hg; obtain ⟨Ao250, co250, eo250⟩ := Kd.R_slice HO959.out; subst eo250; have hnb251 := NB967_887.out; have hnc251 := NB887_967.out; have hnb252 := NB967_888.out; have hnc252 := NB888_967.out; have hnb253 := NB967_899.out; have hnc253 := NB899_967.out; have hnb254 := NB967_910.out; have hnc254 := NB910_967.out; have hnb255 := NB967_921.out; have hnc255 := NB921_967.out; have hnb256 := NB967_932.out; have hnc256 := NB932_967.out; have hnb257 := NB967_943.out; have hnc257 := NB943_967.out; refine ci3 BK967 ?_; intros; obtain ⟨Ao259, co259, eo259⟩ := Kd.R_slice HO962.out; subst eo259; obtain ⟨Ao260, co260, eo260⟩ := Kd.R_slice HO965.out; subst eo260))
                 have n0_ : Aside0 (Kd.R k104 104 (((w249.setCell ⟨gb967, 0, none⟩ (.slice Ao250 t957.length co250)).setCell ⟨gb967, 1, none⟩ (.slice Ao259 t960.length co259)).setCell ⟨gb967, 2, none⟩ (.slice Ao260 t963.length co260)) w.heap.size (fun k_ => some k_ ≠ (.slice Ao24 t889.length co24 : Value).ownBlock ∧ some k_ ≠ (.slice Ao34 t900.length co34 : Value).ownBlock ∧ some k_ ≠ (.slice Ao43 t911.length co43 : Value).ownBlock ∧ some k_ ≠ (.slice Ao53 t922.length co53 : Value).ownBlock ∧ some k_ ≠ (.slice Ao65 t933.length co65 : Value).ownBlock ∧ some k_ ≠ (.slice Ao250 t957.length co250 : Value).ownBlock) (.slice Ao16 t874.length co16) t874) := ⟨(Zdp HO_888000 BK967)⟩; have n1_ : Aside0 (Kd.R k62 62 (((w249.setCell ⟨gb967, 0, none⟩ (.slice Ao250 t957.length co250)).setCell ⟨gb967, 1, none⟩ (.slice Ao259 t960.length co259)).setCell ⟨gb967, 2, none⟩ (.slice Ao260 t963.length co260)) w.heap.size (fun k_ => some k_ ≠ (.slice Ao28 t892.length co28 : Value).ownBlock ∧ some k_ ≠ (.slice Ao39 t903.length co39 : Value).ownBlock ∧ some k_ ≠ (.slice Ao49 t914.length co49 : Value).ownBlock ∧ some k_ ≠ (.slice Ao60 t925.length co60 : Value).ownBlock ∧ some k_ ≠ (.slice Ao73 t936.length co73 : Value).ownBlock ∧ some k_ ≠ (.slice Ao259 t960.length co259 : Value).ownBlock) (.slice Ao19 t877.length co19) t877) := ⟨(Zdp HO_888001 BK967)⟩; have n2_ : Aside0 (Kd.R k39 39 (((w249.setCell ⟨gb967, 0, none⟩ (.slice Ao250 t957.length co250)).setCell ⟨gb967, 1, none⟩ (.slice Ao259 t960.length co259)).setCell ⟨gb967, 2, none⟩ (.slice Ao260 t963.length co260)) w.heap.size (fun k_ => some k_ ≠ (.slice Ao29 t895.length co29 : Value).ownBlock ∧ some k_ ≠ (.slice Ao40 t906.length co40 : Value).ownBlock ∧ some k_ ≠ (.slice Ao50 t917.length co50 : Value).ownBlock ∧ some k_ ≠ (.slice Ao61 t928.length co61 : Value).ownBlock ∧ some k_ ≠ (.slice Ao74 t939.length co74 : Value).ownBlock ∧ some k_ ≠ (.slice Ao260 t963.length co260 : Value).ownBlock ∧ k_ ≠ gb888) (.slice Ao20 t880.length co20) t880) := ⟨(Zdq HO_888002 BK967)⟩; have n3_ : Aside0 (Kd.R k104 104 (((w249.setCell ⟨gb967, 0, none⟩ (.slice Ao250 t957.length co250)).setCell ⟨gb967, 1, none⟩ (.slice Ao259 t960.length co259)).setCell ⟨gb967, 2, none⟩ (.slice Ao260 t963.length co260)) w.heap.size (fun k_ => some k_ ≠ (.slice Ao16 t874.length co16 : Value).ownBlock ∧ some k_ ≠ (.slice Ao34 t900.length co34 : Value).ownBlock ∧ some k_ ≠ (.slice Ao43 t911.length co43 : Value).ownBlock ∧ some k_ ≠ (.slice Ao53 t922.length co53 : Value).ownBlock ∧ some k_ ≠ (.slice Ao65 t933.length co65 : Value).ownBlock ∧ some k_ ≠ (.slice Ao250 t957.length co250 : Value).ownBlock) (.slice Ao24 t889.length co24) t889) := ⟨(Zdp HO_900000 BK967)⟩; have n4_ : Aside0 (Kd.R k62 62 (((w249.setCell ⟨gb967, 0, none⟩ (.slice Ao250 t957.length co250)).setCell ⟨gb967, 1, none⟩ (.slice Ao259 t960.length co259)).setCell ⟨gb967, 2, none⟩ (.slice Ao260 t963.length co260)) w.heap.size (fun k_ => some k_ ≠ (.slice Ao19 t877.length co19 : Value).ownBlock ∧ some k_ ≠ (.slice Ao39 t903.length co39 : Value).ownBlock ∧ some k_ ≠ (.slice Ao49 t914.length co49 : Value).ownBlock ∧ some k_ ≠ (.slice Ao60 t925.length co60 : Value).ownBlock ∧ some k_ ≠ (.slice Ao73 t936.length co73 : Value).ownBlock ∧ some k_ ≠ (.slice Ao259 t960.length co259 : Value).ownBlock) (.slice Ao28 t892.length co28) t892) := ⟨(Zdp HO_900001 BK967)⟩
                 have n5_ : Aside0 (Kd.R k39 39 (((w249.setCell ⟨gb967, 0, none⟩ (.slice Ao250 t957.length co250)).setCell ⟨gb967, 1, none⟩ (.slice Ao259 t960.length co259)).setCell ⟨gb967, 2, none⟩ (.slice Ao260 t963.length co260)) w.heap.size (fun k_ => some k_ ≠ (.slice Ao20 t880.length co20 : Value).ownBlock ∧ some k_ ≠ (.slice Ao40 t906.length co40 : Value).ownBlock ∧ some k_ ≠ (.slice Ao50 t917.length co50 : Value).ownBlock ∧ some k_ ≠ (.slice Ao61 t928.length co61 : Value).ownBlock ∧ some k_ ≠ (.slice Ao74 t939.length co74 : Value).ownBlock ∧ some k_ ≠ (.slice Ao260 t963.length co260 : Value).ownBlock ∧ k_ ≠ gb888) (.slice Ao29 t895.length co29) t895) := ⟨(Zdq HO_900002 BK967)⟩; have n6_ : Aside0 (Kd.R k104 104 (((w249.setCell ⟨gb967, 0, none⟩ (.slice Ao250 t957.length co250)).setCell ⟨gb967, 1, none⟩ (.slice Ao259 t960.length co259)).setCell ⟨gb967, 2, none⟩ (.slice Ao260 t963.length co260)) w.heap.size (fun k_ => some k_ ≠ (.slice Ao16 t874.length co16 : Value).ownBlock ∧ some k_ ≠ (.slice Ao24 t889.length co24 : Value).ownBlock ∧ some k_ ≠ (.slice Ao43 t911.length co43 : Value).ownBlock ∧ some k_ ≠ (.slice Ao53 t922.length co53 : Value).ownBlock ∧ some k_ ≠ (.slice Ao65 t933.length co65 : Value).ownBlock ∧ some k_ ≠ (.slice Ao250 t957.length co250 : Value).ownBlock) (.slice Ao34 t900.length co34) t900) := ⟨(Zdp HO_911000 BK967)⟩; have n7_ : Aside0 (Kd.R k62 62 (((w249.setCell ⟨gb967, 0, none⟩ (.slice Ao250 t957.length co250)).setCell ⟨gb967, 1, none⟩ (.slice Ao259 t960.length co259)).setCell ⟨gb967, 2, none⟩ (.slice Ao260 t963.length co260)) w.heap.size (fun k_ => some k_ ≠ (.slice Ao19 t877.length co19 : Value).ownBlock ∧ some k_ ≠ (.slice Ao28 t892.length co28 : Value).ownBlock ∧ some k_ ≠ (.slice Ao49 t914.length co49 : Value).ownBlock ∧ some k_ ≠ (.slice Ao60 t925.length co60 : Value).ownBlock ∧ some k_ ≠ (.slice Ao73 t936.length co73 : Value).ownBlock ∧ some k_ ≠ (.slice Ao259 t960.length co259 : Value).ownBlock) (.slice Ao39 t903.length co39) t903) := ⟨(Zdp HO_911001 BK967)⟩; have n8_ : Aside0 (Kd.R k39 39 (((w249.setCell ⟨gb967, 0, none⟩ (.slice Ao250 t957.length co250)).setCell ⟨gb967, 1, none⟩ (.slice Ao259 t960.length co259)).setCell ⟨gb967, 2, none⟩ (.slice Ao260 t963.length co260)) w.heap.size (fun k_ => some k_ ≠ (.slice Ao20 t880.length co20 : Value).ownBlock ∧ some k_ ≠ (.slice Ao29 t895.length co29 : Value).ownBlock ∧ some k_ ≠ (.slice Ao50 t917.length co50 : Value).ownBlock ∧ some k_ ≠ (.slice Ao61 t928.length co61 : Value).ownBlock ∧ some k_ ≠ (.slice Ao74 t939.length co74 : Value).ownBlock ∧ some k_ ≠ (.slice Ao260 t963.length co260 : Value).ownBlock ∧ k_ ≠ gb888) (.slice Ao40 t906.length co40) t906) := ⟨(Zdq HO_911002 BK967)⟩; have n9_ : Aside0 (Kd.R k104 104 (((w249.setCell ⟨gb967, 0, none⟩ (.slice Ao250 t957.length co250)).setCell ⟨gb967, 1, none⟩ (.slice Ao259 t960.length co259)).setCell ⟨gb967, 2, none⟩ (.slice Ao260 t963.length co260)) w.heap.size (fun k_ => some k_ ≠ (.slice Ao16 t874.length co16 : Value).ownBlock ∧ some k_ ≠ (.slice Ao24 t889.length co24 : Value).ownBlock ∧ some k_ ≠ (.slice Ao34 t900.length co34 : Value).ownBlock ∧ some k_ ≠ (.slice Ao53 t922.length co53 : Value).ownBlock ∧ some k_ ≠ (.slice Ao65 t933.length co65 : Value).ownBlock ∧ some k_ ≠ (.slice Ao250 t957.length co250 : Value).ownBlock) (.slice Ao43 t911.length co43) t911) := ⟨(Zdp HO_922000 BK967)⟩
                 have n10_ : Aside0 (Kd.R k62 62 (((w249.setCell ⟨gb967, 0, none⟩ (.slice Ao250 t957.length co250)).setCell ⟨gb967, 1, none⟩ (.slice Ao259 t960.length co259)).setCell ⟨gb967, 2, none⟩ (.slice Ao260 t963.length co260)) w.heap.size (fun k_ => some k_ ≠ (.slice Ao19 t877.length co19 : Value).ownBlock ∧ some k_ ≠ (.slice Ao28 t892.length co28 : Value).ownBlock ∧ some k_ ≠ (.slice Ao39 t903.length co39 : Value).ownBlock ∧ some k_ ≠ (.slice Ao60 t925.length co60 : Value).ownBlock ∧ some k_ ≠ (.slice Ao73 t936.length co73 : Value).ownBlock ∧ some k_ ≠ (.slice Ao259 t960.length co259 : Value).ownBlock) (.slice Ao49 t914.length co49) t914) := ⟨(Zdp HO_922001 BK967)⟩; have n11_ : Aside0 (Kd.R k39 39 (((w249.setCell ⟨gb967, 0, none⟩ (.slice Ao250 t957.length co250)).setCell ⟨gb967, 1, none⟩ (.slice Ao259 t960.length co259)).setCell ⟨gb967, 2, none⟩ (.slice Ao260 t963.length co260)) w.heap.size (fun k_ => some k_ ≠ (.slice Ao20 t880.length co20 : Value).ownBlock ∧ some k_ ≠ (.slice Ao29 t895.length co29 : Value).ownBlock ∧ some k_ ≠ (.slice Ao40 t906.length co40 : Value).ownBlock ∧ some k_ ≠ (.slice Ao61 t928.length co61 : Value).ownBlock ∧ some k_ ≠ (.slice Ao74 t939.length co74 : Value).ownBlock ∧ some k_ ≠ (.slice Ao260 t963.length co260 : Value).ownBlock ∧ k_ ≠ gb888) (.slice Ao50 t917.length co50) t917) := ⟨(Zdq HO_922002 BK967)⟩; have n12_ : Aside0 (Kd.R k104 104 (((w249.setCell ⟨gb967, 0, none⟩ (.slice Ao250 t957.length co250)).setCell ⟨gb967, 1, none⟩ (.slice Ao259 t960.length co259)).setCell ⟨gb967, 2, none⟩ (.slice Ao260 t963.length co260)) w.heap.size (fun k_ => some k_ ≠ (.slice Ao16 t874.length co16 : Value).ownBlock ∧ some k_ ≠ (.slice Ao24 t889.length co24 : Value).ownBlock ∧ some k_ ≠ (.slice Ao34 t900.length co34 : Value).ownBlock ∧ some k_ ≠ (.slice Ao43 t911.length co43 : Value).ownBlock ∧ some k_ ≠ (.slice Ao65 t933.length co65 : Value).ownBlock ∧ some k_ ≠ (.slice Ao250 t957.length co250 : Value).ownBlock) (.slice Ao53 t922.length co53) t922) := ⟨(Zdp HO_933000 BK967)⟩; have n13_ : Aside0 (Kd.R k62 62 (((w249.setCell ⟨gb967, 0, none⟩ (.slice Ao250 t957.length co250)).setCell ⟨gb967, 1, none⟩ (.slice Ao259 t960.length co259)).setCell ⟨gb967, 2, none⟩ (.slice Ao260 t963.length co260)) w.heap.size (fun k_ => some k_ ≠ (.slice Ao19 t877.length co19 : Value).ownBlock ∧ some k_ ≠ (.slice Ao28 t892.length co28 : Value).ownBlock ∧ some k_ ≠ (.slice Ao39 t903.length co39 : Value).ownBlock ∧ some k_ ≠ (.slice Ao49 t914.length co49 : Value).ownBlock ∧ some k_ ≠ (.slice Ao73 t936.length co73 : Value).ownBlock ∧ some k_ ≠ (.slice Ao259 t960.length co259 : Value).ownBlock) (.slice Ao60 t925.length co60) t925) := ⟨(Zdp HO_933001 BK967)⟩; have n14_ : Aside0 (Kd.R k39 39 (((w249.setCell ⟨gb967, 0, none⟩ (.slice Ao250 t957.length co250)).setCell ⟨gb967, 1, none⟩ (.slice Ao259 t960.length co259)).setCell ⟨gb967, 2, none⟩ (.slice Ao260 t963.length co260)) w.heap.size (fun k_ => some k_ ≠ (.slice Ao20 t880.length co20 : Value).ownBlock ∧ some k_ ≠ (.slice Ao29 t895.length co29 : Value).ownBlock ∧ some k_ ≠ (.slice Ao40 t906.length co40 : Value).ownBlock ∧ some k_ ≠ (.slice Ao50 t917.length co50 : Value).ownBlock ∧ some k_ ≠ (.slice Ao74 t939.length co74 : Value).ownBlock ∧ some k_ ≠ (.slice Ao260 t963.length co260 : Value).ownBlock ∧ k_ ≠ gb888) (.slice Ao61 t928.length co61) t928) := ⟨(Zdq HO_933002 BK967)⟩
                 have n15_ : Aside0 (Kd.R k104 104 (((w249.setCell ⟨gb967, 0, none⟩ (.slice Ao250 t957.length co250)).setCell ⟨gb967, 1, none⟩ (.slice Ao259 t960.length co259)).setCell ⟨gb967, 2, none⟩ (.slice Ao260 t963.length co260)) w.heap.size (fun k_ => some k_ ≠ (.slice Ao16 t874.length co16 : Value).ownBlock ∧ some k_ ≠ (.slice Ao24 t889.length co24 : Value).ownBlock ∧ some k_ ≠ (.slice Ao34 t900.length co34 : Value).ownBlock ∧ some k_ ≠ (.slice Ao43 t911.length co43 : Value).ownBlock ∧ some k_ ≠ (.slice Ao53 t922.length co53 : Value).ownBlock ∧ some k_ ≠ (.slice Ao250 t957.length co250 : Value).ownBlock) (.slice Ao65 t933.length co65) t933) := ⟨(Zdp HO_944000 BK967)⟩; have n16_ : Aside0 (Kd.R k62 62 (((w249.setCell ⟨gb967, 0, none⟩ (.slice Ao250 t957.length co250)).setCell ⟨gb967, 1, none⟩ (.slice Ao259 t960.length co259)).setCell ⟨gb967, 2, none⟩ (.slice Ao260 t963.length co260)) w.heap.size (fun k_ => some k_ ≠ (.slice Ao19 t877.length co19 : Value).ownBlock ∧ some k_ ≠ (.slice Ao28 t892.length co28 : Value).ownBlock ∧ some k_ ≠ (.slice Ao39 t903.length co39 : Value).ownBlock ∧ some k_ ≠ (.slice Ao49 t914.length co49 : Value).ownBlock ∧ some k_ ≠ (.slice Ao60 t925.length co60 : Value).ownBlock ∧ some k_ ≠ (.slice Ao259 t960.length co259 : Value).ownBlock) (.slice Ao73 t936.length co73) t936) := ⟨(Zdp HO_944001 BK967)⟩; have n17_ : Aside0 (Kd.R k39 39 (((w249.setCell ⟨gb967, 0, none⟩ (.slice Ao250 t957.length co250)).setCell ⟨gb967, 1, none⟩ (.slice Ao259 t960.length co259)).setCell ⟨gb967, 2, none⟩ (.slice Ao260 t963.length co260)) w.heap.size (fun k_ => some k_ ≠ (.slice Ao20 t880.length co20 : Value).ownBlock ∧ some k_ ≠ (.slice Ao29 t895.length co29 : Value).ownBlock ∧ some k_ ≠ (.slice Ao40 t906.length co40 : Value).ownBlock ∧ some k_ ≠ (.slice Ao50 t917.length co50 : Value).ownBlock ∧ some k_ ≠ (.slice Ao61 t928.length co61 : Value).ownBlock ∧ some k_ ≠ (.slice Ao260 t963.length co260 : Value).ownBlock ∧ k_ ≠ gb888) (.slice Ao74 t939.length co74) t939) := ⟨(Zdq HO_944002 BK967)⟩; have n18_ : Aside0 (Kd.R k104 104 (((w249.setCell ⟨gb967, 0, none⟩ (.slice Ao250 t957.length co250)).setCell ⟨gb967, 1, none⟩ (.slice Ao259 t960.length co259)).setCell ⟨gb967, 2, none⟩ (.slice Ao260 t963.length co260)) w.heap.size (fun k_ => some k_ ≠ (.slice Ao16 t874.length co16 : Value).ownBlock ∧ some k_ ≠ (.slice Ao24 t889.length co24 : Value).ownBlock ∧ some k_ ≠ (.slice Ao34 t900.length co34 : Value).ownBlock ∧ some k_ ≠ (.slice Ao43 t911.length co43 : Value).ownBlock ∧ some k_ ≠ (.slice Ao53 t922.length co53 : Value).ownBlock ∧ some k_ ≠ (.slice Ao65 t933.length co65 : Value).ownBlock) (.slice Ao250 t957.length co250) t957) := ⟨(Zdr HO959 BK967)⟩; have n19_ : Aside0 (Kd.R k62 62 (((w249.setCell ⟨gb967, 0, none⟩ (.slice Ao250 t957.length co250)).setCell ⟨gb967, 1, none⟩ (.slice Ao259 t960.length co259)).setCell ⟨gb967, 2, none⟩ (.slice Ao260 t963.length co260)) w.heap.size (fun k_ => some k_ ≠ (.slice Ao19 t877.length co19 : Value).ownBlock ∧ some k_ ≠ (.slice Ao28 t892.length co28 : Value).ownBlock ∧ some k_ ≠ (.slice Ao39 t903.length co39 : Value).ownBlock ∧ some k_ ≠ (.slice Ao49 t914.length co49 : Value).ownBlock ∧ some k_ ≠ (.slice Ao60 t925.length co60 : Value).ownBlock ∧ some k_ ≠ (.slice Ao73 t936.length co73 : Value).ownBlock) (.slice Ao259 t960.length co259) t960) := ⟨(Zdr HO962 BK967)⟩
                 have n20_ : Aside0 (Kd.R k39 39 (((w249.setCell ⟨gb967, 0, none⟩ (.slice Ao250 t957.length co250)).setCell ⟨gb967, 1, none⟩ (.slice Ao259 t960.length co259)).setCell ⟨gb967, 2, none⟩ (.slice Ao260 t963.length co260)) w.heap.size (fun k_ => some k_ ≠ (.slice Ao20 t880.length co20 : Value).ownBlock ∧ some k_ ≠ (.slice Ao29 t895.length co29 : Value).ownBlock ∧ some k_ ≠ (.slice Ao40 t906.length co40 : Value).ownBlock ∧ some k_ ≠ (.slice Ao50 t917.length co50 : Value).ownBlock ∧ some k_ ≠ (.slice Ao61 t928.length co61 : Value).ownBlock ∧ some k_ ≠ (.slice Ao74 t939.length co74 : Value).ownBlock ∧ k_ ≠ gb888) (.slice Ao260 t963.length co260) t963) := ⟨by (with_reducible repeat (first | apply Kd.R_alloc | apply Kd.R_drewN | apply Kd.R_drew)); exact Kd.R_mono (rfZ (Kd.R_types HO965.out BK967.out (by decide))) (fun _ hk => ⟨hk.1.1.1.1.1.1.1.2, ⟨hk.1.1.1.1.1.1.2, ⟨hk.1.1.1.1.1.2, ⟨hk.1.1.1.1.2, ⟨hk.1.1.1.2, ⟨hk.1.1.2, hk.1.2⟩⟩⟩⟩⟩⟩)⟩; have n21_ : Aside0 ((((w249.setCell ⟨gb967, 0, none⟩ (.slice Ao250 t957.length co250)).setCell ⟨gb967, 1, none⟩ (.slice Ao259 t960.length co259)).setCell ⟨gb967, 2, none⟩ (.slice Ao260 t963.length co260)).heap[gb887]? = some (.cells #[.slice Ao16 t874.length co16, .slice Ao19 t877.length co19, .slice Ao20 t880.length co20] 28 (0, 0))) := ⟨(Zda NB887_967 BK887)⟩; have n22_ : Aside0 ((((w249.setCell ⟨gb967, 0, none⟩ (.slice Ao250 t957.length co250)).setCell ⟨gb967, 1, none⟩ (.slice Ao259 t960.length co259)).setCell ⟨gb967, 2, none⟩ (.slice Ao260 t963.length co260)).heap[gb888]? = some (.cells #[.int .i64 t883, .int .i64 t884, .string t885, .int .i64 t886] 39 (0, 0))) := ⟨(Zda NB888_967 BK888)⟩; have n23_ : Aside0 ((((w249.setCell ⟨gb967, 0, none⟩ (.slice Ao250 t957.length co250)).setCell ⟨gb967, 1, none⟩ (.slice Ao259 t960.length co259)).setCell ⟨gb967, 2, none⟩ (.slice Ao260 t963.length co260)).heap[gb899]? = some (.cells #[.slice Ao24 t889.length co24, .slice Ao28 t892.length co28, .slice Ao29 t895.length co29] 28 (0, 0))) := ⟨(Zda NB899_967 BK899)⟩; have n24_ : Aside0 ((((w249.setCell ⟨gb967, 0, none⟩ (.slice Ao250 t957.length co250)).setCell ⟨gb967, 1, none⟩ (.slice Ao259 t960.length co259)).setCell ⟨gb967, 2, none⟩ (.slice Ao260 t963.length co260)).heap[gb910]? = some (.cells #[.slice Ao34 t900.length co34, .slice Ao39 t903.length co39, .slice Ao40 t906.length co40] 28 (0, 0))) := ⟨(Zda NB910_967 BK910)⟩; have n25_ : Aside0 ((((w249.setCell ⟨gb967, 0, none⟩ (.slice Ao250 t957.length co250)).setCell ⟨gb967, 1, none⟩ (.slice Ao259 t960.length co259)).setCell ⟨gb967, 2, none⟩ (.slice Ao260 t963.length co260)).heap[gb921]? = some (.cells #[.slice Ao43 t911.length co43, .slice Ao49 t914.length co49, .slice Ao50 t917.length co50] 28 (0, 0))) := ⟨(Zda NB921_967 BK921)⟩; have n26_ : Aside0 ((((w249.setCell ⟨gb967, 0, none⟩ (.slice Ao250 t957.length co250)).setCell ⟨gb967, 1, none⟩ (.slice Ao259 t960.length co259)).setCell ⟨gb967, 2, none⟩ (.slice Ao260 t963.length co260)).heap[gb932]? = some (.cells #[.slice Ao53 t922.length co53, .slice Ao60 t925.length co60, .slice Ao61 t928.length co61] 28 (0, 0))) := ⟨(Zda NB932_967 BK932)⟩
                 have n27_ : Aside0 ((((w249.setCell ⟨gb967, 0, none⟩ (.slice Ao250 t957.length co250)).setCell ⟨gb967, 1, none⟩ (.slice Ao259 t960.length co259)).setCell ⟨gb967, 2, none⟩ (.slice Ao260 t963.length co260)).heap[gb943]? = some (.cells #[.slice Ao65 t933.length co65, .slice Ao73 t936.length co73, .slice Ao74 t939.length co74] 28 (0, 0))) := ⟨(Zda NB943_967 BK943)⟩; have n28_ : Aside0 ((((w249.setCell ⟨gb967, 0, none⟩ (.slice Ao250 t957.length co250)).setCell ⟨gb967, 1, none⟩ (.slice Ao259 t960.length co259)).setCell ⟨gb967, 2, none⟩ (.slice Ao260 t963.length co260)).heap[gb967]? = some (.cells #[.slice Ao250 t957.length co250, .slice Ao259 t960.length co259, .slice Ao260 t963.length co260] 28 (0, 0))) := ⟨by refine blk_put (cs := #[.slice Ao250 t957.length co250, .slice Ao259 t960.length co259, .slice none 0 0]) ?_ 2 _ rfl; refine blk_put (cs := #[.slice Ao250 t957.length co250, .slice none 0 0, .slice none 0 0]) ?_ 1 _ rfl; refine blk_put (cs := #[.slice none 0 0, .slice none 0 0, .slice none 0 0]) ?_ 0 _ rfl; exact BK967.out⟩; have n29_ : Aside0 (Below w.heap.size w (((w249.setCell ⟨gb967, 0, none⟩ (.slice Ao250 t957.length co250)).setCell ⟨gb967, 1, none⟩ (.slice Ao259 t960.length co259)).setCell ⟨gb967, 2, none⟩ (.slice Ao260 t963.length co260))) := ⟨(Zds GE887 GE888 GE899 GE910 GE921 GE932 GE943 GE967)⟩
                 (try clear HO_888000)
                 (try clear HO_888001)
                 (try clear HO_888002)
                 (try clear HO_900000)
                 (try clear HO_900001)
                 (try clear HO_900002)
                 (try clear HO_911000)
                 (try clear HO_911001)
                 (try clear HO_911002)
                 (try clear HO_922000)
                 (try clear HO_922001)
                 (try clear HO_922002)
                 (try clear HO_933000)
                 (try clear HO_933001)
                 (try clear HO_933002)
                 (try clear HO_944000)
                 (try clear HO_944001)
                 (try clear HO_944002)
                 (try clear HO959)
                 (try clear HO962)
                 (try clear HO965)
                 (try clear BK887)
                 (try clear BK888)
                 (try clear BK899)
                 (try clear BK910)
                 (try clear BK921)
                 (try clear BK932)
                 (try clear BK943)
                 (try clear BK967)
                 (try clear HB)
                 generalize (((w249.setCell ⟨gb967, 0, none⟩ (.slice Ao250 t957.length co250)).setCell ⟨gb967, 1, none⟩ (.slice Ao259 t960.length co259)).setCell ⟨gb967, 2, none⟩ (.slice Ao260 t963.length co260)) = w261 at n0_ n1_ n2_ n3_ n4_ n5_ n6_ n7_ n8_ n9_ n10_ n11_ n12_ n13_ n14_ n15_ n16_ n17_ n18_ n19_ n20_ n21_ n22_ n23_ n24_ n25_ n26_ n27_ n28_ n29_ ⊢; have HO_888000 := n0_; have HO_888001 := n1_; have HO_888002 := n2_; have HO_900000 := n3_; have HO_900001 := n4_; have HO_900002 := n5_; have HO_911000 := n6_; have HO_911001 := n7_; have HO_911002 := n8_; have HO_922000 := n9_; have HO_922001 := n10_; have HO_922002 := n11_; have HO_933000 := n12_; have HO_933001 := n13_; have HO_933002 := n14_; have HO_944000 := n15_; have HO_944001 := n16_; have HO_944002 := n17_; have HO959 := n18_; have HO962 := n19_; have HO965 := n20_; have BK887 := n21_; have BK888 := n22_; have BK899 := n23_; have BK910 := n24_; have BK921 := n25_; have BK932 := n26_; have BK943 := n27_; have BK967 := n28_; have HB := n29_; clear n0_ n1_ n2_ n3_ n4_ n5_ n6_ n7_ n8_ n9_ n10_ n11_ n12_ n13_ n14_ n15_ n16_ n17_ n18_ n19_ n20_ n21_ n22_ n23_ n24_ n25_ n26_ n27_ n28_ n29_; replace HO_888000 := am_ (Kd.R_drew HO_888000.out); replace HO_888001 := am_ (Kd.R_drew HO_888001.out); replace HO_888002 := am_ (Kd.R_drew HO_888002.out); replace HO_900000 := am_ (Kd.R_drew HO_900000.out); replace HO_900001 := am_ (Kd.R_drew HO_900001.out); replace HO_900002 := am_ (Kd.R_drew HO_900002.out); replace HO_911000 := am_ (Kd.R_drew HO_911000.out); replace HO_911001 := am_ (Kd.R_drew HO_911001.out); replace HO_911002 := am_ (Kd.R_drew HO_911002.out); replace HO_922000 := am_ (Kd.R_drew HO_922000.out); replace HO_922001 := am_ (Kd.R_drew HO_922001.out); replace HO_922002 := am_ (Kd.R_drew HO_922002.out); replace HO_933000 := am_ (Kd.R_drew HO_933000.out); replace HO_933001 := am_ (Kd.R_drew HO_933001.out); replace HO_933002 := am_ (Kd.R_drew HO_933002.out); replace HO_944000 := am_ (Kd.R_drew HO_944000.out); replace HO_944001 := am_ (Kd.R_drew HO_944001.out); replace HO_944002 := am_ (Kd.R_drew HO_944002.out); replace HO959 := am_ (Kd.R_drew HO959.out); replace HO962 := am_ (Kd.R_drew HO962.out); replace HO965 := am_ (Kd.R_drew HO965.out); replace BK887 := am_ (blk_drew BK887.out); replace BK888 := am_ (blk_drew BK888.out); replace BK899 := am_ (blk_drew BK899.out); replace BK910 := am_ (blk_drew BK910.out); replace BK921 := am_ (blk_drew BK921.out); replace BK932 := am_ (blk_drew BK932.out); replace BK943 := am_ (blk_drew BK943.out); replace BK967 := am_ (blk_drew BK967.out); replace HB := am_ (below_drew1 HB.out); have p970 : 0 ≤ ((ji232) : Int) := of_decide_eq_true Ze; have q970 : (ji232) < (t895.length : Int) := of_decide_eq_true Ze; obtain ⟨ad970, e970, hx970_0, hx970_1, hx970_2, hx970_3⟩ := at_T39 (Kd.R_reads' HO_900002.out).2.2 (ji232) p970 q970
                 cases e970
                 replace p970 := eq_true p970; replace q970 := eq_true q970; refine start_ (n := 24) (S := fun w' => w'.cell? ⟨gb967, 0, none⟩ = some (.slice Ao250 t957.length co250) ∧ w'.cell? ⟨gb967, 1, none⟩ = some (.slice Ao259 t960.length co259) ∧ w'.cell? ⟨gb967, 2, none⟩ = some (.slice Ao260 t963.length co260) ∧ w'.cell? ⟨gb887, 0, none⟩ = some (.slice Ao16 t874.length co16) ∧ w'.cell? ⟨gb887, 1, none⟩ = some (.slice Ao19 t877.length co19) ∧ w'.cell? ⟨gb887, 2, none⟩ = some (.slice Ao20 t880.length co20) ∧ w'.cell? ⟨gb899, 0, none⟩ = some (.slice Ao24 t889.length co24) ∧ w'.cell? ⟨gb899, 1, none⟩ = some (.slice Ao28 t892.length co28) ∧ w'.cell? ⟨gb899, 2, none⟩ = some (.slice (some ad970) t895.length co29) ∧ w'.cell? ⟨gb910, 0, none⟩ = some (.slice Ao34 t900.length co34) ∧ w'.cell? ⟨gb910, 1, none⟩ = some (.slice Ao39 t903.length co39) ∧ w'.cell? ⟨gb910, 2, none⟩ = some (.slice Ao40 t906.length co40) ∧ w'.cell? ⟨gb888, 0, none⟩ = some (.int .i64 t883) ∧ w'.cell? ⟨gb888, 1, none⟩ = some (.int .i64 t884) ∧ w'.cell? ⟨gb888, 2, none⟩ = some (.string t885) ∧ w'.cell? ⟨gb888, 3, none⟩ = some (.int .i64 t886) ∧ w'.cell? (ad970.add (((ji232)).toNat * 4)) = some (.int .i64 ((rd_T39 t895 (ji232)).f0)) ∧ w'.cell? ⟨(ad970.add (((ji232)).toNat * 4)).block, (ad970.add (((ji232)).toNat * 4)).off + 1, none⟩ = some (.int .i64 ((rd_T39 t895 (ji232)).f1)) ∧ w'.cell? ⟨(ad970.add (((ji232)).toNat * 4)).block, (ad970.add (((ji232)).toNat * 4)).off + 2, none⟩ = some (.string ((rd_T39 t895 (ji232)).f2)) ∧ w'.cell? ⟨(ad970.add (((ji232)).toNat * 4)).block, (ad970.add (((ji232)).toNat * 4)).off + 3, none⟩ = some (.int .i64 ((rd_T39 t895 (ji232)).f3))) (ds := []) (bT 24 0) Za rfl rfl ⟨(blk_cell BK967.out 0).trans rfl, (blk_cell BK967.out 1).trans rfl, (blk_cell BK967.out 2).trans rfl, (blk_cell BK887.out 0).trans rfl, (blk_cell BK887.out 1).trans rfl, (blk_cell BK887.out 2).trans rfl, (blk_cell BK899.out 0).trans rfl, (blk_cell BK899.out 1).trans rfl, (blk_cell BK899.out 2).trans rfl, (blk_cell BK910.out 0).trans rfl, (blk_cell BK910.out 1).trans rfl, (blk_cell BK910.out 2).trans rfl, (blk_cell BK888.out 0).trans rfl, (blk_cell BK888.out 1).trans rfl, (blk_cell BK888.out 2).trans rfl, (blk_cell BK888.out 3).trans rfl, hx970_0, hx970_1, hx970_2, hx970_3⟩ (fun hHeld => ?_); refine with_tabW laws_FnCueChanges.tab20 laws_FnCueChanges.bits20 (fun HT_ HW_ => ?_); generalize w261.drew = w262 at HO_888000 HO_888001 HO_888002 HO_900000 HO_900001 HO_900002 HO_911000 HO_911001 HO_911002 HO_922000 HO_922001 HO_922002 HO_933000 HO_933001 HO_933002 HO_944000 HO_944001 HO_944002 HO959 HO962 HO965 BK887 BK888 BK899 BK910 BK921 BK932 BK943 BK967 HB hx970_0 hx970_1 hx970_2 hx970_3 hHeld ⊢; refine pureZ HT_ 0 (some 135) (bT 24 1) ?_; refine pureZ HT_ 1 (some 136) (bT 24 2) ?_; refine pureZ HT_ 2 (some 137) (bT 24 3) ?_; refine takeZ20 HT_ HW_ 3 (some 138) (bT 24 4) hHeld ?_; refine takeZ20 HT_ HW_ 4 (some 139) (bT 24 5) hHeld ?_; refine one_ (i := 5) (N := some 140) (bT 24 6) rfl rfl (one_of HT_.out Za) (by decide) (fun K hK => ?_)
                 refine goes_ Try.func24 Za rfl #[.agg #[.slice Ao250 t957.length co250, .slice Ao259 t960.length co259, .slice Ao260 t963.length co260], .agg #[.slice Ao16 t874.length co16, .slice Ao19 t877.length co19, .slice Ao20 t880.length co20]] (by rfl) rfl rfl Zk ?_
                 with_reducible refine (laws_likeShow.calls kj217 _ _ t957 _ _ t960 _ _ t963 _ _ t874 _ _ t877 _ _ t880 true _ ?side1 ?side2 ?side3 ?side4 ?side5 ?side6 ?side7 ?side8 ?side9 ?side10 ?side11 ?side12 A228.out).mono ?_
                 (case side1 => exact (Zak HO959))
                 (case side2 => exact (Kd.R_reads' HO959.out).2.1)
                 (case side3 => exact (Zak HO962))
                 (case side4 => exact (Kd.R_reads' HO962.out).2.1)
                 (case side5 => exact (Zak HO965))
                 (case side6 => exact (Kd.R_reads' HO965.out).2.1)
                 (case side7 => exact (Zak HO_888000))
                 (case side8 => exact (Kd.R_reads' HO_888000.out).2.1)
                 (case side9 => exact (Zak HO_888001))
                 (case side10 => exact (Kd.R_reads' HO_888001.out).2.1)
                 (case side11 => exact (Zak HO_888002))
                 (case side12 => exact (Kd.R_reads' HO_888002.out).2.1)
                 rintro e w263 ⟨rfl, hb⟩; have HS16_ := (hb.cell (World.block_lt_of_cell? _ _ (hHeld.2.2.2.2.2.2.2.2.2.2.2.2.2.2.2.2.1))).trans (hHeld.2.2.2.2.2.2.2.2.2.2.2.2.2.2.2.2.1); have HS17_ := (hb.cell (World.block_lt_of_cell? _ _ (hHeld.2.2.2.2.2.2.2.2.2.2.2.2.2.2.2.2.2.1))).trans (hHeld.2.2.2.2.2.2.2.2.2.2.2.2.2.2.2.2.2.1); have HS18_ := (hb.cell (World.block_lt_of_cell? _ _ (hHeld.2.2.2.2.2.2.2.2.2.2.2.2.2.2.2.2.2.2.1))).trans (hHeld.2.2.2.2.2.2.2.2.2.2.2.2.2.2.2.2.2.2.1); have HS19_ := (hb.cell (World.block_lt_of_cell? _ _ (hHeld.2.2.2.2.2.2.2.2.2.2.2.2.2.2.2.2.2.2.2))).trans (hHeld.2.2.2.2.2.2.2.2.2.2.2.2.2.2.2.2.2.2.2); refine ⟨_, rfl, ?_⟩; replace HO_888000 := (hbZ HO_888000 hb); replace HO_888001 := (hbZ HO_888001 hb); replace HO_888002 := (hbZ HO_888002 hb); replace HO_900000 := (hbZ HO_900000 hb); replace HO_900001 := (hbZ HO_900001 hb); replace HO_900002 := (hbZ HO_900002 hb); replace HO_911000 := (hbZ HO_911000 hb); replace HO_911001 := (hbZ HO_911001 hb); replace HO_911002 := (hbZ HO_911002 hb); replace HO_922000 := (hbZ HO_922000 hb); replace HO_922001 := (hbZ HO_922001 hb); replace HO_922002 := (hbZ HO_922002 hb); replace HO_933000 := (hbZ HO_933000 hb); replace HO_933001 := (hbZ HO_933001 hb); replace HO_933002 := (hbZ HO_933002 hb); replace HO_944000 := (hbZ HO_944000 hb); replace HO_944001 := (hbZ HO_944001 hb); replace HO_944002 := (hbZ HO_944002 hb); replace HO959 := (hbZ HO959 hb); replace HO962 := (hbZ HO962 hb); replace HO965 := (hbZ HO965 hb); replace BK887 := (bkZ BK887 hb); replace BK888 := (bkZ BK888 hb); replace BK899 := (bkZ BK899 hb); replace BK910 := (bkZ BK910 hb); replace BK921 := (bkZ BK921 hb); replace BK932 := (bkZ BK932 hb); replace BK943 := (bkZ BK943 hb); replace BK967 := (bkZ BK967 hb); replace HB := (bsZ (Zds GE887 GE888 GE899 GE910 GE921 GE932 GE943 GE967) hb)
                 (try clear hb)
                 (try clear hb2)
                 (try clear hk)
                 (try clear hi)
                 refine hK.out _ _ (Zdt BK967 BK887 BK899 BK910 BK888) (fun hHeld => ?_); clear hK K; refine normZ 140 ?_; refine pureZ HT_ 6 (some 141) (bT 24 7) ?_; refine pureZ HT_ 7 (some 142) (bT 24 8) ?_; refine takeZ20 HT_ HW_ 8 (some 143) (bT 24 9) hHeld ?_; refine one_ (i := 9) (N := some 144) (bT 24 10) rfl rfl (one_of HT_.out Za) (by decide) (fun K hK => ?_); refine goes_ Try.func25 Za rfl #[.agg #[.slice Ao24 t889.length co24, .slice Ao28 t892.length co28, .slice (some ad970) t895.length co29]] (by rfl) rfl rfl Zk ?_
                 with_reducible refine (impl_IsShow.calls kj217 _ _ t889 _ _ t892 _ _ t895 true _ ?side1 ?side2 ?side3 ?side4 ?side5 ?side6 A230.out).mono ?_
                 (case side1 => exact (Zak HO_900000))
                 (case side2 => exact (Kd.R_reads' HO_900000.out).2.1)
                 (case side3 => exact (Zak HO_900001))
                 (case side4 => exact (Kd.R_reads' HO_900001.out).2.1)
                 (case side5 => exact (Zak HO_900002))
                 (case side6 => exact (Kd.R_reads' HO_900002.out).2.1)
                 rintro e w264 ⟨rfl, hb⟩; have HS16_ := (hb.cell (World.block_lt_of_cell? _ _ (hHeld.2.2.2.2.2.2.2.2.2.2.2.2.2.2.2.2.1))).trans (hHeld.2.2.2.2.2.2.2.2.2.2.2.2.2.2.2.2.1); have HS17_ := (hb.cell (World.block_lt_of_cell? _ _ (hHeld.2.2.2.2.2.2.2.2.2.2.2.2.2.2.2.2.2.1))).trans (hHeld.2.2.2.2.2.2.2.2.2.2.2.2.2.2.2.2.2.1); have HS18_ := (hb.cell (World.block_lt_of_cell? _ _ (hHeld.2.2.2.2.2.2.2.2.2.2.2.2.2.2.2.2.2.2.1))).trans (hHeld.2.2.2.2.2.2.2.2.2.2.2.2.2.2.2.2.2.2.1); have HS19_ := (hb.cell (World.block_lt_of_cell? _ _ (hHeld.2.2.2.2.2.2.2.2.2.2.2.2.2.2.2.2.2.2.2))).trans (hHeld.2.2.2.2.2.2.2.2.2.2.2.2.2.2.2.2.2.2.2); refine ⟨_, rfl, ?_⟩; replace HO_888000 := (hbZ HO_888000 hb); replace HO_888001 := (hbZ HO_888001 hb); replace HO_888002 := (hbZ HO_888002 hb); replace HO_900000 := (hbZ HO_900000 hb); replace HO_900001 := (hbZ HO_900001 hb); replace HO_900002 := (hbZ HO_900002 hb); replace HO_911000 := (hbZ HO_911000 hb); replace HO_911001 := (hbZ HO_911001 hb); replace HO_911002 := (hbZ HO_911002 hb); replace HO_922000 := (hbZ HO_922000 hb); replace HO_922001 := (hbZ HO_922001 hb); replace HO_922002 := (hbZ HO_922002 hb); replace HO_933000 := (hbZ HO_933000 hb); replace HO_933001 := (hbZ HO_933001 hb); replace HO_933002 := (hbZ HO_933002 hb); replace HO_944000 := (hbZ HO_944000 hb); replace HO_944001 := (hbZ HO_944001 hb); replace HO_944002 := (hbZ HO_944002 hb); replace HO959 := (hbZ HO959 hb); replace HO962 := (hbZ HO962 hb); replace HO965 := (hbZ HO965 hb); replace BK887 := (bkZ BK887 hb); replace BK888 := (bkZ BK888 hb); replace BK899 := (bkZ BK899 hb); replace BK910 := (bkZ BK910 hb); replace BK921 := (bkZ BK921 hb); replace BK932 := (bkZ BK932 hb); replace BK943 := (bkZ BK943 hb); replace BK967 := (bkZ BK967 hb); replace HB := (bsZ (Zds GE887 GE888 GE899 GE910 GE921 GE932 GE943 GE967) hb)
                 (try clear hb)
                 (try clear hb2)
                 (try clear hk)
                 (try clear hi)
                 refine hK.out _ _ (Zdt BK967 BK887 BK899 BK910 BK888) (fun hHeld => ?_); clear hK K; refine normZ 144 ?_; refine pureZ HT_ 10 (some 145) (bT 24 11) ?_; refine pureZ HT_ 11 (some 146) (bT 24 12) ?_; refine pureZ HT_ 12 (some 147) (bT 24 13) ?_; refine pureZ HT_ 14 (some 149) (bB 24 24575) ?_; refine takeZ20 HT_ HW_ 13 (some 148) (bT 24 15) hHeld ?_; refine takeZ20 HT_ HW_ 15 (some 150) (bT 24 16) hHeld ?_; refine pureZ HT_ 16 (some 151) (bT 24 17) ?_; refine pureZ HT_ 17 (some 152) (bT 24 18) ?_; refine pureZ HT_ 18 (some 153) (bT 24 19) ?_; refine takeZ20 HT_ HW_ 19 (some 154) (bT 24 20) hHeld ?_; refine takeZ20 HT_ HW_ 20 (some 155) (bT 24 21) hHeld ?_; refine pureZ HT_ 21 (some 156) (bT 24 22) ?_; refine pureZ HT_ 22 (some 157) (bT 24 23) ?_; refine pureZ HT_ 23 (some 2) (bT 24 24) ?_; refine done_ (done_of HT_.out Za) ?_
                 try go_wp2
                 go_ret
                 exact ⟨by first | rfl | (simp [errW_none, errW_some] <;> rfl) | (simp only [← hji232]; first | rfl | (simp [errW_none, errW_some] <;> rfl)) | (simp [*, errW_none, errW_some] <;> rfl), (Zds GE887 GE888 GE899 GE910 GE921 GE932 GE943 GE967)⟩
                ·rw [if_neg c234] at H
                 exact absurd H (by simp)
               ·rw [if_neg c233] at H
                exact absurd H (by simp)
              ·replace c231 := Bool.eq_false_iff.mpr c231
               subst c231
               have H1 : (some false) = some r := by rw [if_neg (show ¬ (false = true) by decide)] at H; exact H
               clear H; have H := H1; clear H1; exact absurd ((Option.some.inj H).trans HR_.out) (by decide)
             ·replace c229 := Bool.eq_false_iff.mpr c229
              subst c229
              have H1 : (some false) = some r := by rw [if_neg (show ¬ (false = true) by decide)] at H; exact H
              clear H; have H := H1; clear H1; exact absurd ((Option.some.inj H).trans HR_.out) (by decide)
            ·rw [if_neg c227] at H
             have c227b0 := beq_eq_false_iff_ne.mpr c227; have c227b1 := bne_iff_ne.mpr c227; exact absurd ((Option.some.inj H).trans HR_.out) (by decide)
           ·rw [if_neg c225] at H
            have c225b0 := beq_eq_false_iff_ne.mpr c225; have c225b1 := bne_iff_ne.mpr c225; obtain rfl := Option.some.inj H
            go_wp2
            go_ret
            exact ⟨Zi, (Zdn GE887 GE888 GE899 GE910 GE921 GE932 GE943)⟩
def laws_FnCueChanges.Pure : Prop := ∀ (l0 : List Int), l0.length ≤ maxLen → l0.length * 1 ≤ 140737488351232 → (∀ x ∈ l0, (Lit.int .u8 x).wf = true) → ∃ k, laws_FnCueChanges.f k l0 = some true
theorem laws_FnCueChanges.walk (P : laws_FnCueChanges.Pure) (a0 : Option Addr) (len0 cap0 : Nat) (z0 : List Int) (w : World) (w0 : (a0 = none ∧ len0 = 0 ∧ cap0 = 0 ∧ z0 = []) ∨ ∃ x, a0 = some x ∧ len0 ≤ cap0 ∧ cap0 ≤ maxLen ∧ z0.length = cap0 ∧ (∀ i, i < z0.length → w.cell? (x.add i) = some (.int .u8 (z0.getD i 0))) ∧ ∀ n ∈ z0, (Lit.int .u8 n).wf = true) (y0 : len0 * 1 ≤ 140737488351232) :
  Calls Try.prog 4 #[.slice a0 len0 cap0] w fun e w' => e = .returned (.bool true) ∧ Below w.heap.size w w' := by
 obtain ⟨l0, rfl, hr0, hm0, hw0, hc0⟩ := ReadsInt.ofRowC w0; obtain ⟨k, h⟩ := P l0 hm0 y0 hw0; refine (laws_FnCueChanges.calls k _ _ l0 true w (Kd.C_of_reads (d := (0 : Int)) (h1 := fun _ => rfl) hr0) hc0 h rfl).mono ?_; rintro e w' ⟨rfl, hd⟩; exact ⟨rfl, hd⟩
end Go.Proofs.Ythhijbdekboahaa.F
namespace Go.Proofs.Ythhijbdekboahaa.F
open Go.RowKit Go.Proofs.YthhijbdekboahaaW.PrintWords Go.Proofs.YthhijbdekboahaaW.PrintLast Go.Proofs.YthhijbdekboahaaW.PrintMore
set_option linter.unusedVariables false
set_option linter.unusedSimpArgs false
def Evt (P : Nat → Prop) : Prop := ∃ K, ∀ k, K ≤ k → P k
theorem Evt.mono {P Q : Nat → Prop} (h : Evt P) (hq : ∀ k, P k → Q k) : Evt Q := by
 obtain ⟨K, h⟩ := h; exact ⟨K, fun k hk => hq k (h k hk)⟩
theorem Evt.succ {P : Nat → Prop} (h : Evt (fun k => P (k + 1))) : Evt P := by
 obtain ⟨K, h⟩ := h; refine ⟨K + 1, fun k hk => ?_⟩; obtain ⟨m, rfl⟩ : ∃ m, k = m + 1 := ⟨k - 1, by omega⟩; exact h m (by omega)
theorem w64 {n : Int} (h : -9223372036854775808 ≤ n ∧ n ≤ 9223372036854775807) : wrap64 n = n := by unfold wrap64; omega
def allF (p : Nat → Bool) : Nat → Nat → Bool
 | _, 0 => true
 | i, d + 1 => p i && allF p (i + 1) d
theorem allF_true {p : Nat → Bool} : ∀ (d i : Nat), allF p i d = true ↔ ∀ j, i ≤ j → j < i + d → p j = true
 | 0, i => by simp [allF]; intro j h1 h2; omega
 | d + 1, i => by
  unfold allF
  rw [Bool.and_eq_true, allF_true d (i + 1)]; constructor
  ·rintro ⟨h1, h2⟩ j h3 h4
   rcases Nat.eq_or_lt_of_le h3 with e | e
   ·exact e ▸ h1
   ·exact h2 j e (by omega)
  ·exact fun h => ⟨h i (Nat.le_refl _) (by omega), fun j h1 h2 => h j (by omega) (by omega)⟩
theorem all_loopF {f : Nat → Nat → Option Bool} {p : Nat → Bool} {e : Bool} (a n : Nat) (hs : ∀ k i, a ≤ i → i < n → f (k + 1) i = if p i = true then f k (i + 1) else some false) (he : ∀ k, f (k + 1) n = some e) :
  ∀ d k i, a ≤ i → n - i = d → i ≤ n → d < k → f k i = some (allF p i d && e) := by
 intro d
 induction d with
 | zero =>
  intro k i ha hd hi hk; obtain ⟨k, rfl⟩ : ∃ m, k = m + 1 := ⟨k - 1, by omega⟩
  have : i = n := by omega
  subst this; rw [he]
  rfl
 | succ d ih =>
  intro k i ha hd hi hk; obtain ⟨k, rfl⟩ : ∃ m, k = m + 1 := ⟨k - 1, by omega⟩; rw [hs k i ha (by omega)]
  unfold allF
  by_cases hp : p i = true
  ·rw [if_pos hp, ih k (i + 1) (by omega) (by omega) (by omega) (by omega), hp, Bool.true_and]
  ·rw [if_neg hp]
   replace hp := Bool.eq_false_iff.mpr hp; rw [hp, Bool.false_and, Bool.false_and]
theorem all_loop {f : Nat → Nat → Option Bool} {p : Nat → Bool} {e : Bool} (n : Nat) (hs : ∀ k i, i < n → f (k + 1) i = if p i = true then f k (i + 1) else some false) (he : ∀ k, f (k + 1) n = some e) :
  ∀ d k i, n - i = d → i ≤ n → d < k → f k i = some (allF p i d && e) := fun d k i => all_loopF 0 n (fun k i _ h => hs k i h) he d k i (Nat.zero_le _)
def foldF {σ : Type} (step : Nat → σ → σ) : Nat → Nat → σ → σ
 | _, 0, s => s
 | i, d + 1, s => foldF step (i + 1) d (step i s)
theorem foldF_snoc {σ : Type} (f : Nat → σ → σ) : ∀ (d i : Nat) (s : σ), foldF f i (d + 1) s = f (i + d) (foldF f i d s)
 | 0, i, s => rfl
 | d + 1, i, s => by
  have h := foldF_snoc f d (i + 1) (f i s); rw [show i + 1 + d = i + (d + 1) by omega] at h; exact h
theorem fold_loop {σ β : Type} {f : Nat → Nat → σ → Option β} {step : Nat → σ → σ} {I : Nat → σ → Prop} {e : σ → Option β} (n : Nat) (hs : ∀ k i s, i < n → I i s → f (k + 1) i s = f k (i + 1) (step i s)) (hI : ∀ i s, i < n → I i s → I (i + 1) (step i s)) (he : ∀ k s, I n s → f (k + 1) n s = e s) :
  ∀ d k i s, n - i = d → i ≤ n → I i s → d < k → f k i s = e (foldF step i d s) := by
 intro d
 induction d with
 | zero =>
  intro k i s hd hi h0 hk; obtain ⟨k, rfl⟩ : ∃ m, k = m + 1 := ⟨k - 1, by omega⟩
  have : i = n := by omega
  subst this; exact he k s h0
 | succ d ih =>
  intro k i s hd hi h0 hk; obtain ⟨k, rfl⟩ : ∃ m, k = m + 1 := ⟨k - 1, by omega⟩; rw [hs k i s (by omega) h0]; exact ih k (i + 1) _ (by omega) (by omega) (hI i s (by omega) h0) (by omega)
def inB (n lo hi : Int) : Bool := decide (lo ≤ n ∧ n ≤ hi)
theorem inB_true {n lo hi : Int} : inB n lo hi = true ↔ lo ≤ n ∧ n ≤ hi := by unfold inB; exact decide_eq_true_iff
theorem inB_false {n lo hi : Int} : inB n lo hi = false ↔ ¬ (lo ≤ n ∧ n ≤ hi) := by unfold inB; exact decide_eq_false_iff_not
theorem getD_take {α : Type} (xs : List α) (z : α) (n i : Nat) (h : i < n) : (xs.take n).getD i z = xs.getD i z := by
 rw [List.getD_eq_getElem?_getD, List.getD_eq_getElem?_getD, List.getElem?_take, if_pos h]
def Code (c : List Int) : Prop := c.length ≤ 4096 ∧ ∀ x ∈ c, 0 ≤ x ∧ x ≤ 255
def St (c : List Int) (a s : Int) : Prop := 0 ≤ a ∧ a ≤ (c.length : Int) ∧ 0 ≤ s ∧ s < 2147483647
theorem rd_code {c : List Int} (hc : Code c) (i : Int) : 0 ≤ rd c i ∧ rd c i ≤ 255 := by
 unfold rd
 rw [List.getD_eq_getElem?_getD]
 cases h : c[i.toNat]? with
 | none => exact ⟨Int.le_refl _, by decide⟩
 | some x => exact hc.2 x (List.mem_of_getElem? h)
theorem tmod_nn {a b : Int} (ha : 0 ≤ a) (hb : 0 < b) : 0 ≤ Int.tmod a b ∧ Int.tmod a b < b := by
 rw [Int.tmod_eq_emod_of_nonneg ha]; exact ⟨Int.emod_nonneg _ (by omega), Int.emod_lt_of_pos _ hb⟩
theorem next_ok {c : List Int} (hc : Code c) {a s : Int} (h : St c a s) (n : Int) (hn : n ≤ 4611686018427387904) : ∃ r a' s', spec_l01Next.f c a s n = some (r, a', s') ∧ St c a' s' ∧ 0 ≤ r ∧ (r < n ∨ (n ≤ 1 ∧ r = 0)) := by
 obtain ⟨h1, h2, h3, h4⟩ := h; have hl := hc.1
 unfold spec_l01Next.f
 by_cases c1 : n ≤ 1
 ·rw [if_pos c1]
  exact ⟨0, a, s, rfl, ⟨h1, h2, h3, h4⟩, Int.le_refl _, .inr ⟨c1, rfl⟩⟩
 ·have hs := tmod_nn (a := s * 48271 + 29) (b := 2147483647) (by omega) (by omega)
  rw [if_neg c1, w64 (n := s * 48271) (by omega), w64 (n := s * 48271 + 29) (by omega)]; generalize Int.tmod (s * 48271 + 29) 2147483647 = z at hs ⊢; have hd : Int.tdiv z 31 = z / 31 := Int.tdiv_eq_ediv_of_nonneg hs.1; rw [hd]
  have n0 : ¬ n = 0 := by omega
  by_cases c2 : a < (c.length : Int)
  ·have hr := rd_code hc a
   have p := tmod_nn (a := z / 31 + rd c a) (b := n) (by omega) (by omega); have q := tmod_nn (a := rd c a) (b := n) (by omega) (by omega); simp only [if_neg n0]; rw [if_pos c2, if_pos h1, w64 (n := a + 1) (by omega), w64 (n := z / 31) (by omega), w64 (n := rd c a) (by omega), w64 (n := z / 31 + rd c a) (by omega), w64 (n := a + 1 - 1) (by omega), show a + 1 - 1 = a by omega, w64 (n := rd c a) (by omega)]
   by_cases c3 : n ≤ 256
   ·rw [if_pos c3]
    by_cases c4 : Int.tmod (a + 1) 2 = 0
    ·rw [if_pos c4, if_pos h1, if_pos c2]
     exact ⟨_, _, _, rfl, ⟨by omega, by omega, hs.1, hs.2⟩, q.1, .inl q.2⟩
    ·rw [if_neg c4]
     exact ⟨_, _, _, rfl, ⟨by omega, by omega, hs.1, hs.2⟩, p.1, .inl p.2⟩
   ·rw [if_neg c3]
    exact ⟨_, _, _, rfl, ⟨by omega, by omega, hs.1, hs.2⟩, p.1, .inl p.2⟩
  ·have p := tmod_nn (a := z / 31) (b := n) (by omega) (by omega)
   simp only [if_neg n0]; rw [if_neg c2, w64 (n := z / 31) (by omega)]; exact ⟨_, _, _, rfl, ⟨h1, h2, hs.1, hs.2⟩, p.1, .inl p.2⟩
theorem pick_ok {c : List Int} (hc : Code c) {a s : Int} (h : St c a s) (l : List Int) (hl : 0 < l.length) (hl2 : l.length ≤ 1000) : ∃ r a' s', spec_l01Pick.f c a s l = some (r, a', s') ∧ St c a' s' ∧ r ∈ l := by
 obtain ⟨r, a', s', e, h', h0, h1⟩ := next_ok hc h (l.length : Int) (by omega); refine ⟨rd l r, a', s', ?_, h', ?_⟩
 ·unfold spec_l01Pick.f
  rw [e]; simp only [Option.bind_some]; rw [if_pos h0, if_pos (by omega)]
 ·have hr : r.toNat < l.length := by omega
  unfold rd
  rw [List.getD_eq_getElem?_getD, List.getElem?_eq_getElem hr]; exact List.getElem_mem hr
theorem from_ok {c : List Int} (hc : Code c) : ∃ s, (∀ k, 70 ≤ k → spec_l01From.f k c = some (c, 0, s)) ∧ St c 0 s := by
 have loop : ∀ (d : Nat) (i s : Int), 0 ≤ i → i ≤ 64 → 64 - i ≤ d → 0 ≤ s → s < 2147483647 → ∃ s', (∀ k, d < k → spec_l01From.l0 k c i c 0 s = some (c, 0, s')) ∧ St c 0 s' := by
  intro d
  induction d with
  | zero =>
   intro i s h1 h2 h3 h4 h5; refine ⟨s, fun k hk => ?_, by omega, by omega, h4, h5⟩; obtain ⟨k, rfl⟩ : ∃ m, k = m + 1 := ⟨k - 1, by omega⟩; simp only [spec_l01From.l0]; rw [if_neg (show ¬ i < 64 by omega)]
   split <;> rfl
  | succ d ih =>
   intro i s h1 h2 h3 h4 h5
   by_cases c1 : i < (c.length : Int) ∧ i < 64
   ·have hr := rd_code hc i
    have hm := tmod_nn (a := s * 83 + rd c i) (b := 2147483647) (by omega) (by omega); obtain ⟨s', e, hs⟩ := ih (i + 1) (Int.tmod (s * 83 + rd c i) 2147483647) (by omega) (by omega) (by omega) hm.1 hm.2; refine ⟨s', fun k hk => ?_, hs⟩; obtain ⟨k, rfl⟩ : ∃ m, k = m + 1 := ⟨k - 1, by omega⟩; simp only [spec_l01From.l0]; rw [if_pos c1.1, if_pos c1.2, if_pos h1, w64 (n := i + 1) (by omega), w64 (n := s * 83) (by omega), w64 (n := rd c i) (by omega), w64 (n := s * 83 + rd c i) (by omega)]; exact e k (by omega)
   ·refine ⟨s, fun k hk => ?_, by omega, by omega, h4, h5⟩
    obtain ⟨k, rfl⟩ : ∃ m, k = m + 1 := ⟨k - 1, by omega⟩; simp only [spec_l01From.l0]
    by_cases c2 : i < (c.length : Int)
    ·rw [if_pos c2, if_neg (fun x => c1 ⟨c2, x⟩)]
    ·rw [if_neg c2]
 obtain ⟨s', e, hs⟩ := loop 64 0 61043 (by omega) (by omega) (by omega) (by omega) (by omega); exact ⟨s', fun k hk => e k (by omega), hs⟩
theorem code_of {l : List Int} (h : ¬ (l.length : Int) > 4096) (hb : ∀ x ∈ l, (Go.Lit.int .u8 x).wf = true) : Code l := ⟨by omega, fun x hx => by
 have h := hb x hx
 simp [Go.Lit.wf, Go.IntKind.min, Go.IntKind.max, Go.IntKind.signed, Go.IntKind.bits] at h
 omega⟩
theorem good_art {c : List Int} (hc : Code c) {a s : Int} (h : St c a s) (nm : ByteArray) : ∃ q2 q3 q4 q5 q6 q7 q8 q9 a' s', spec_l03Good.f c a s nm = some (nm, q2, q3, q4, q5, q6, q7, q8, q9, a', s') ∧ St c a' s' := by
 obtain ⟨r1, a1, s1, e1, h1, _⟩ := next_ok hc h 4 (by decide); obtain ⟨r2, a2, s2, e2, h2, _⟩ := next_ok hc h1 281 (by decide); obtain ⟨r3, a3, s3, e3, h3, _⟩ := pick_ok hc h2 [50, 75, 100, 150, wrap64 (20 + r2)] (by simp) (by simp); obtain ⟨r4, a4, s4, e4, h4, _⟩ := next_ok hc h3 5000 (by decide); obtain ⟨r5, a5, s5, e5, h5, _⟩ := next_ok hc h4 300 (by decide); obtain ⟨r6, a6, s6, e6, h6, _⟩ := next_ok hc h5 2000 (by decide); obtain ⟨r7, a7, s7, e7, h7, _⟩ := next_ok hc h6 4 (by decide); obtain ⟨r8, a8, s8, e8, h8, _⟩ := next_ok hc h7 8 (by decide); obtain ⟨r9, a9, s9, e9, h9, _⟩ := next_ok hc h8 2000 (by decide)
 unfold spec_l03Good.f
 rw [e1, Option.bind_some]; dsimp only; rw [e2, Option.bind_some]; dsimp only; rw [e3, Option.bind_some]; dsimp only; rw [e4, Option.bind_some]; dsimp only; rw [e5, Option.bind_some]; dsimp only; rw [e6, Option.bind_some]; dsimp only; rw [e7, Option.bind_some]; dsimp only
 by_cases g : r1 = 1
 ·rw [if_pos g, e8, Option.bind_some]; dsimp only
  rw [e9, Option.bind_some]; dsimp only
  by_cases g2 : r1 = 2
  ·rw [if_pos g2]; exact ⟨_, _, _, _, _, _, _, _, _, _, rfl, h9⟩
  ·rw [if_neg g2]; exact ⟨_, _, _, _, _, _, _, _, _, _, rfl, h9⟩
 ·rw [if_neg g]
  by_cases g2 : r1 = 2
  ·rw [if_pos g2]; exact ⟨_, _, _, _, _, _, _, _, _, _, rfl, h7⟩
  ·rw [if_neg g2]; exact ⟨_, _, _, _, _, _, _, _, _, _, rfl, h7⟩
theorem In_eq (n lo hi : Int) : spec_l01In.f n lo hi = some (inB n lo hi) := by
 unfold spec_l01In.f inB
 by_cases h : n ≥ lo
 ·rw [if_pos h]; congr 1; simp; omega
 ·rw [if_neg h]; congr 1; simp; omega
theorem Wi_eq (n lo hi : Int) : impl_within.f n lo hi = some (inB n lo hi) := by
 unfold impl_within.f inB
 by_cases h : lo ≤ n
 ·rw [if_pos h]; congr 1; simp; omega
 ·rw [if_neg h]; congr 1; simp; omega
def bt_at (xs : List S104) (i : Nat) : Int := (xs.getD i z104).f0
def ln_at (xs : List S104) (i : Nat) : Int := (xs.getD i z104).f1
def barAt (xs : List S104) (i : Nat) : Bool := inB (bt_at xs i) 1 16 && inB (ln_at xs i) 100 5000
def isScore (xs : List S104) : Bool := allF (barAt xs) 0 xs.length && inB (xs.length : Int) 1 20
theorem rd_bar (xs : List S104) (i : Nat) : rd_T104 xs (i : Int) = xs.getD i z104 := by unfold rd_T104; rw [Int.toNat_natCast]
theorem spec_score (xs : List S104) (hx : xs.length ≤ 9223372036854775807) (k : Nat) (hk : xs.length < k) : spec_IsScore.f k xs = some (isScore xs) := by
 refine all_loop (f := fun k i => spec_IsScore.l0 k xs (i : Int)) xs.length (fun k i hi => ?_) (fun k => ?_) xs.length k 0 (by omega) (by omega) (by omega)
 ·show spec_IsScore.l0 (k + 1) xs i = _
  simp only [spec_IsScore.l0, In_eq, Option.bind_some]; rw [if_pos (by omega), if_pos (by omega), w64 (by omega), rd_bar]
  unfold barAt bt_at ln_at
  cases inB (xs.getD i z104).f0 1 16 <;> cases inB (xs.getD i z104).f1 100 5000 <;> rfl
 ·show spec_IsScore.l0 (k + 1) xs _ = _
  simp only [spec_IsScore.l0, In_eq, Option.bind_some]; rw [if_neg (by omega)]
theorem impl_score (xs : List S104) (hx : xs.length ≤ 9223372036854775807) (k : Nat) (hk : xs.length + 1 < k) : impl_IsScore.f k xs = some (isScore xs) := by
 obtain ⟨k, rfl⟩ : ∃ m, k = m + 1 := ⟨k - 1, by omega⟩
 unfold impl_IsScore.f isScore
 simp only [impl_IsScore.j0]
 by_cases h1 : (xs.length : Int) < 1
 ·rw [if_pos h1, if_pos trivial, inB_false.2 (by omega), Bool.and_false]
 ·rw [if_neg h1]
  by_cases h2 : (xs.length : Int) > 20
  ·rw [if_pos (decide_eq_true h2), inB_false.2 (by omega), Bool.and_false]
  ·rw [if_neg (by simpa using h2), inB_true.2 (by omega)]
   refine all_loop (f := fun k i => impl_IsScore.l0 k xs (xs.length : Int) (i : Int)) xs.length (fun k i hi => ?_) (fun k => ?_) xs.length k 0 (by omega) (by omega) (by omega)
   ·show impl_IsScore.l0 (k + 1) xs (xs.length : Int) i = _
    simp only [impl_IsScore.l0, Wi_eq, Option.bind_some]; rw [if_pos (by omega), if_pos (by omega), if_pos (by omega), w64 (by omega), rd_bar]
    unfold barAt bt_at ln_at
    cases inB (xs.getD i z104).f0 1 16 <;> cases inB (xs.getD i z104).f1 100 5000 <;> rfl
   ·show impl_IsScore.l0 (k + 1) xs (xs.length : Int) _ = _
    simp only [impl_IsScore.l0]; rw [if_neg (by omega)]
theorem isScore_true {xs : List S104} (h : isScore xs = true) : 1 ≤ xs.length ∧ xs.length ≤ 20 ∧ ∀ i, i < xs.length → 1 ≤ bt_at xs i ∧ bt_at xs i ≤ 16 ∧ 100 ≤ ln_at xs i ∧ ln_at xs i ≤ 5000 := by
 unfold isScore at h
 rw [Bool.and_eq_true, allF_true, inB_true] at h; refine ⟨by omega, by omega, fun i hi => ?_⟩; have := h.1 i (by omega) (by omega)
 unfold barAt at this
 rw [Bool.and_eq_true, inB_true, inB_true] at this
 omega
def tm (xs : List S104) (i : Nat) : Int := foldF (fun j s => s + bt_at xs j * ln_at xs j) 0 i 0
theorem tm_succ (xs : List S104) (i : Nat) : tm xs (i + 1) = tm xs i + bt_at xs i * ln_at xs i := by
 unfold tm
 rw [foldF_snoc, Nat.zero_add]
theorem prod_le {a b : Int} (h : 1 ≤ a ∧ a ≤ 16 ∧ 100 ≤ b ∧ b ≤ 5000) : 100 ≤ a * b ∧ a * b ≤ 80000 := by
 have h1 : 1 * b ≤ a * b := Int.mul_le_mul_of_nonneg_right h.1 (by omega); have h2 : a * b ≤ 16 * b := Int.mul_le_mul_of_nonneg_right h.2.1 (by omega)
 omega
theorem tm_le {xs : List S104} (h : isScore xs = true) : ∀ i, i ≤ xs.length → 0 ≤ tm xs i ∧ tm xs i ≤ 80000 * i
 | 0, _ => by unfold tm foldF; omega
 | i + 1, hi => by
  have h1 := tm_le h i (by omega); have h2 := prod_le ((isScore_true h).2.2 i (by omega)); rw [tm_succ]
  omega
def GoodBars (xs : List S104) : Prop := ∀ x ∈ xs, (2 ≤ x.f0 ∧ x.f0 ≤ 5) ∧ 400 ≤ x.f1 ∧ x.f1 ≤ 999
theorem score_good {c : List Int} (hc : Code c) {a s : Int} (h : St c a s) : ∃ xs a' s', (∀ k, 20 ≤ k → spec_l07Good.f k c a s = some (xs, a', s')) ∧ St c a' s' ∧ 1 ≤ xs.length ∧ xs.length ≤ 6 ∧ GoodBars xs := by
 have loop : ∀ (d : Nat) (n : Int) (xs : List S104) (a s : Int), n = d → GoodBars xs → xs.length + d ≤ 6 → St c a s → ∃ r a' s', (∀ k, d < k → spec_l07Good.l0 k xs n c a s = some (r, a', s')) ∧ St c a' s' ∧ r.length = xs.length + d ∧ GoodBars r := by
  intro d
  induction d with
  | zero =>
   intro n xs a s hn hg hl h; refine ⟨xs, a, s, fun k hk => ?_, h, rfl, hg⟩; obtain ⟨k, rfl⟩ : ∃ m, k = m + 1 := ⟨k - 1, by omega⟩; simp only [spec_l07Good.l0]; rw [if_neg (by omega)]
  | succ d ih =>
   intro n xs a s hn hg hl h; obtain ⟨r1, a1, s1, e1, h1, b1, c1⟩ := next_ok hc h 4 (by omega); obtain ⟨r2, a2, s2, e2, h2, b2, c2⟩ := next_ok hc h1 600 (by omega)
   obtain ⟨r, a', s', e, h', hr, hg'⟩ := ih (n - 1) (xs ++ [(⟨2 + r1, 400 + r2⟩ : S104)]) a2 s2 (by omega) (by
    intro x hx
    rcases List.mem_append.1 hx with y | y
    ·exact hg x y
    ·rw [List.mem_singleton.1 y]
     exact ⟨by show 2 ≤ 2 + r1 ∧ 2 + r1 ≤ 5; omega, by show 400 ≤ 400 + r2 ∧ 400 + r2 ≤ 999; omega⟩) (by rw [List.length_append]; show xs.length + 1 + d ≤ 6; omega) h2
   refine ⟨r, a', s', fun k hk => ?_, h', by rw [hr, List.length_append]; show xs.length + 1 + d = _; omega, hg'⟩; obtain ⟨k, rfl⟩ : ∃ m, k = m + 1 := ⟨k - 1, by omega⟩; simp only [spec_l07Good.l0]; rw [if_pos (by omega)]; simp only [e1, e2, Option.bind_some]; rw [if_pos (by omega), w64 (n := 2 + r1) (by omega), w64 (n := 400 + r2) (by omega), w64 (n := n - 1) (by omega)]; exact e k (by omega)
 obtain ⟨r1, a1, s1, e1, h1, b1, c1⟩ := next_ok hc h 6 (by omega); obtain ⟨r, a', s', e, h', hr, hg⟩ := loop (1 + r1).toNat (1 + r1) [] a1 s1 (by omega) (fun x hx => absurd hx (by simp)) (by show 0 + _ ≤ 6; omega) h1
 have hr' : r.length = (1 + r1).toNat := by rw [hr]; show 0 + _ = _; omega
 refine ⟨r, a', s', fun k hk => ?_, h', by omega, by omega, hg⟩
 unfold spec_l07Good.f
 rw [e1]; simp only [Option.bind_some]; rw [w64 (n := 1 + r1) (by omega)]; exact e k (by omega)
theorem score_draw {c : List Int} (hc : Code c) {a s : Int} (h : St c a s) : ∃ xs a' s', (∀ k, 60 ≤ k → spec_l07Draw.f k c a s = some (xs, a', s')) ∧ St c a' s' ∧ xs.length ≤ 30 := by
 have loop : ∀ (d : Nat) (xs : List S104) (a s : Int), 21 - xs.length = d → xs.length ≤ 30 → St c a s → ∃ r a' s', (∀ k, d < k → spec_l07Draw.l0 k xs c a s = some (r, a', s')) ∧ St c a' s' ∧ r.length ≤ 30 := by
  intro d
  induction d with
  | zero =>
   intro xs a s hd hx h; obtain ⟨r1, a1, s1, e1, h1, b1, b2⟩ := next_ok hc h 2 (by omega); refine ⟨xs, a1, s1, fun k hk => ?_, h1, hx⟩; obtain ⟨k, rfl⟩ : ∃ m, k = m + 1 := ⟨k - 1, by omega⟩; simp only [spec_l07Draw.l0, e1, Option.bind_some]; rw [w64 (n := 20 + r1) (by omega), if_neg (by omega)]
  | succ d ih =>
   intro xs a s hd hx h; obtain ⟨r1, a1, s1, e1, h1, b1, b2⟩ := next_ok hc h 2 (by omega)
   by_cases c1 : (xs.length : Int) < 20 + r1
   ·obtain ⟨r, a', s', e, h', hl⟩ := ih (xs ++ [(⟨4, 500⟩ : S104)]) a1 s1 (by rw [List.length_append]; show 21 - (xs.length + 1) = d; omega) (by rw [List.length_append]; show xs.length + 1 ≤ 30; omega) h1
    refine ⟨r, a', s', fun k hk => ?_, h', hl⟩; obtain ⟨k, rfl⟩ : ∃ m, k = m + 1 := ⟨k - 1, by omega⟩; simp only [spec_l07Draw.l0, e1, Option.bind_some]; rw [w64 (n := 20 + r1) (by omega), if_pos c1, if_pos (by omega)]; exact e k (by omega)
   ·refine ⟨xs, a1, s1, fun k hk => ?_, h1, hx⟩
    obtain ⟨k, rfl⟩ : ∃ m, k = m + 1 := ⟨k - 1, by omega⟩; simp only [spec_l07Draw.l0, e1, Option.bind_some]; rw [w64 (n := 20 + r1) (by omega), if_neg c1]
 obtain ⟨xs, a1, s1, e1, h1, l1, l2, hg⟩ := score_good hc h; obtain ⟨r2, a2, s2, e2, h2, b2, c2⟩ := next_ok hc h1 40 (by omega)
 by_cases d0 : r2 = 0
 ·obtain ⟨r3, a3, s3, e3, h3, _⟩ := pick_ok hc h2 [0, 1, 16, 17] (by simp) (by simp)
  refine ⟨xs.set (0 : Int).toNat (⟨r3, (rd_T104 xs 0).f1⟩ : S104), a3, s3, fun k hk => ?_, h3, by rw [List.length_set]; omega⟩
  unfold spec_l07Draw.f
  simp only [e1 k (by omega), e2, e3, Option.bind_some]; rw [if_pos d0, if_pos (by omega)]
 by_cases d1 : r2 = 1
 ·obtain ⟨r3, a3, s3, e3, h3, _⟩ := pick_ok hc h2 [99, 100, 5000, 5001] (by simp) (by simp)
  refine ⟨xs.set (0 : Int).toNat (⟨(rd_T104 xs 0).f0, r3⟩ : S104), a3, s3, fun k hk => ?_, h3, by rw [List.length_set]; omega⟩
  unfold spec_l07Draw.f
  simp only [e1 k (by omega), e2, e3, Option.bind_some]; rw [if_neg d0, if_pos d1, if_pos (by omega)]
 by_cases d2 : r2 = 2
 ·obtain ⟨r, a', s', e, h', hl⟩ := loop (21 - xs.length) xs a2 s2 rfl (by omega) h2
  refine ⟨r, a', s', fun k hk => ?_, h', hl⟩
  unfold spec_l07Draw.f
  simp only [e1 k (by omega), e2, Option.bind_some]; rw [if_neg d0, if_neg d1, if_pos d2]; exact e k (by omega)
 by_cases d3 : r2 = 3
 ·refine ⟨xs.take (0 : Int).toNat, a2, s2, fun k hk => ?_, h2, Nat.zero_le _⟩
  unfold spec_l07Draw.f
  simp only [e1 k (by omega), e2, Option.bind_some]; rw [if_neg d0, if_neg d1, if_neg d2, if_pos d3, if_pos (by omega)]
 ·refine ⟨xs, a2, s2, fun k hk => ?_, h2, by omega⟩
  unfold spec_l07Draw.f
  simp only [e1 k (by omega), e2, Option.bind_some]; rw [if_neg d0, if_neg d1, if_neg d2, if_neg d3]
def word (s : ByteArray) : Bool := allF (fun j => inB (bt s (j : Int)) 97 122) 0 s.size && inB (s.size : Int) 1 16
theorem spec_word (s : ByteArray) (hs : s.size ≤ 9223372036854775807) (k : Nat) (hk : s.size < k) : spec_IsWord.f k s = some (word s) := by
 refine all_loop (f := fun k i => spec_IsWord.l0 k s (i : Int)) s.size (fun k i hi => ?_) (fun k => ?_) s.size k 0 (by omega) (by omega) (by omega)
 ·show spec_IsWord.l0 (k + 1) s i = _
  simp only [spec_IsWord.l0]; rw [if_pos (by omega), if_pos (by omega), w64 (n := (i : Int) + 1) (by omega)]
  by_cases c1 : bt s (i : Int) < 97
  ·rw [if_pos c1, inB_false.2 (by omega), if_neg (by decide)]
  ·rw [if_neg c1]
   by_cases c2 : bt s (i : Int) > 122
   ·rw [if_pos c2, inB_false.2 (by omega), if_neg (by decide)]
   ·rw [if_neg c2, inB_true.2 (by omega), if_pos rfl]; rfl
 ·show spec_IsWord.l0 (k + 1) s _ = _
  simp only [spec_IsWord.l0]; rw [if_neg (by omega), In_eq]; rfl
theorem impl_word (s : ByteArray) (hs : s.size ≤ 9223372036854775807) (k : Nat) (hk : s.size + 1 < k) : impl_IsWord.f k s = some (word s) := by
 obtain ⟨k, rfl⟩ : ∃ m, k = m + 1 := ⟨k - 1, by omega⟩
 unfold impl_IsWord.f word
 simp only [impl_IsWord.j0]
 by_cases h1 : (s.size : Int) < 1
 ·rw [if_pos h1, if_pos trivial, inB_false.2 (by omega), Bool.and_false]
 ·rw [if_neg h1]
  by_cases h2 : (s.size : Int) > 16
  ·rw [if_pos (decide_eq_true h2), inB_false.2 (by omega), Bool.and_false]
  ·rw [if_neg (by simpa using h2), inB_true.2 (by omega)]
   refine all_loop (f := fun k i => impl_IsWord.l0 k s (i : Int)) s.size (fun k i hi => ?_) (fun k => ?_) s.size k 0 (by omega) (by omega) (by omega)
   ·show impl_IsWord.l0 (k + 1) s i = _
    simp only [impl_IsWord.l0]; rw [if_pos (by omega), if_pos (by omega), w64 (n := (i : Int) + 1) (by omega)]
    by_cases c1 : bt s (i : Int) < 97
    ·rw [if_pos c1, inB_false.2 (by omega), if_neg (by decide)]
    ·rw [if_neg c1]
     by_cases c2 : bt s (i : Int) > 122
     ·rw [if_pos c2, inB_false.2 (by omega), if_neg (by decide)]
     ·rw [if_neg c2, inB_true.2 (by omega), if_pos rfl]; rfl
   ·show impl_IsWord.l0 (k + 1) s _ = _
    simp only [impl_IsWord.l0]; rw [if_neg (by omega)]
def art (a : S62) : Bool := word a.f0 && (inB a.f1 0 3 && (inB a.f2 20 300 && (inB a.f3 0 10000 && (inB a.f4 0 a.f3 && (inB a.f5 1 50 && (inB a.f6 0 10000 && (inB a.f7 1 100000 && inB a.f8 0 3)))))))
theorem spec_art (a : S62) (hs : a.f0.size ≤ 9223372036854775807) (k : Nat) (hk : a.f0.size < k) : spec_IsArticle.f k a.f0 a.f1 a.f2 a.f3 a.f4 a.f5 a.f6 a.f7 a.f8 = some (art a) := by
 unfold spec_IsArticle.f art
 rw [spec_word a.f0 hs k hk]; simp only [In_eq, Option.bind_some]
 cases word a.f0 <;> cases inB a.f1 0 3 <;> cases inB a.f2 20 300 <;> cases inB a.f3 0 10000 <;> cases inB a.f4 0 a.f3 <;> cases inB a.f5 1 50 <;> cases inB a.f6 0 10000 <;> cases inB a.f7 1 100000 <;> rfl
theorem impl_art (a : S62) (hs : a.f0.size ≤ 9223372036854775807) (k : Nat) (hk : a.f0.size + 1 < k) : impl_IsArticle.f k a.f0 a.f1 a.f2 a.f3 a.f4 a.f5 a.f6 a.f7 a.f8 = some (art a) := by
 unfold impl_IsArticle.f art
 rw [impl_word a.f0 hs k hk]; simp only [Wi_eq, Option.bind_some]
 cases word a.f0 <;> cases inB a.f1 0 3 <;> cases inB a.f2 20 300 <;> cases inB a.f3 0 10000 <;> cases inB a.f4 0 a.f3 <;> cases inB a.f5 1 50 <;> cases inB a.f6 0 10000 <;> cases inB a.f7 1 100000 <;> rfl
def ar_at (xs : List S62) (i : Nat) : S62 := xs.getD i z62
theorem rd_art (xs : List S62) (i : Nat) : rd_T62 xs (i : Int) = ar_at xs i := by unfold rd_T62 ar_at; rw [Int.toNat_natCast]
def artAt (xs : List S62) (i : Nat) : Bool := art (ar_at xs i) && (decide (i = 0) || Op.bytesLess (ar_at xs (i - 1)).f0.toList (ar_at xs i).f0.toList)
def areArts (xs : List S62) : Bool := allF (artAt xs) 0 xs.length && decide ((xs.length : Int) ≤ 12)
def Small (B : Nat) (xs : List S62) : Prop := B ≤ 9223372036854775807 ∧ ∀ x ∈ xs, x.f0.size ≤ B
theorem small_at {B : Nat} {xs : List S62} (h : Small B xs) (i : Nat) (hi : i < xs.length) : (ar_at xs i).f0.size ≤ B := by
 unfold ar_at
 rw [List.getD_eq_getElem?_getD, List.getElem?_eq_getElem hi]; exact h.2 _ (List.getElem_mem hi)
theorem spec_arts (B : Nat) (xs : List S62) (hx : xs.length ≤ 9223372036854775807) (hB : Small B xs) (k : Nat) (hk : xs.length + B < k) : spec_AreArticles.f k xs = some (areArts xs) := by
 have loop : ∀ d k i, xs.length - i = d → i ≤ xs.length → d + B < k → spec_AreArticles.l0 k xs (i : Int) = some (allF (artAt xs) i d && decide ((xs.length : Int) ≤ 12)) := by
  intro d
  induction d with
  | zero =>
   intro k i hd hi hk; obtain ⟨k, rfl⟩ : ∃ m, k = m + 1 := ⟨k - 1, by omega⟩; simp only [spec_AreArticles.l0]; rw [if_neg (by omega)]
   rfl
  | succ d ih =>
   intro k i hd hi hk; obtain ⟨k, rfl⟩ : ∃ m, k = m + 1 := ⟨k - 1, by omega⟩; have hb := small_at hB i (by omega); have hB1 := hB.1; have nx := ih k (i + 1) (by omega) (by omega) (by omega); simp only [spec_AreArticles.l0]; rw [if_pos (by omega), if_pos (by omega), rd_art, spec_art _ (by omega) k (by omega), w64 (n := (i : Int) + 1) (by omega)]; simp only [Option.bind_some]
   unfold allF artAt
   cases ha : art (ar_at xs i) with
   | false => rfl
   | true =>
    rw [if_pos rfl, Bool.true_and]
    by_cases i0 : i = 0
    ·subst i0
     rw [if_neg (by omega), decide_eq_true rfl, Bool.true_or, Bool.true_and]; exact nx
    ·rw [if_pos (by omega), w64 (n := (i : Int) - 1) (by omega), if_pos (by omega), if_pos (by omega), show (i : Int) - 1 = ((i - 1 : Nat) : Int) by omega, rd_art, decide_eq_false i0, Bool.false_or]
     cases hl : Op.bytesLess (ar_at xs (i - 1)).f0.toList (ar_at xs i).f0.toList with
     | false => rfl
     | true => rw [if_pos rfl, Bool.true_and]; exact nx
 unfold spec_AreArticles.f
 exact loop xs.length k 0 (by omega) (by omega) hk
theorem impl_arts (B : Nat) (xs : List S62) (hx : xs.length ≤ 9223372036854775807) (hB : Small B xs) (k : Nat) (hk : xs.length + B + 1 < k) : impl_AreArticles.f k xs = some (areArts xs) := by
 have loop : ∀ d k i, xs.length - i = d → i ≤ xs.length → d + B + 1 < k → impl_AreArticles.l0 k xs xs (xs.length : Int) (i : Int) = some (allF (artAt xs) i d && true) := by
  intro d
  induction d with
  | zero =>
   intro k i hd hi hk; obtain ⟨k, rfl⟩ : ∃ m, k = m + 1 := ⟨k - 1, by omega⟩; simp only [impl_AreArticles.l0]; rw [if_neg (by omega)]
   rfl
  | succ d ih =>
   intro k i hd hi hk; obtain ⟨k, rfl⟩ : ∃ m, k = m + 1 := ⟨k - 1, by omega⟩; have hb := small_at hB i (by omega); have hB1 := hB.1; have nx := ih k (i + 1) (by omega) (by omega) (by omega); simp only [impl_AreArticles.l0]; rw [if_pos (by omega), if_pos (by omega), if_pos (by omega), rd_art, impl_art _ (by omega) k (by omega), w64 (n := (i : Int) + 1) (by omega)]; simp only [Option.bind_some]
   unfold allF artAt
   cases ha : art (ar_at xs i) with
   | false => rfl
   | true =>
    rw [if_pos rfl, Bool.true_and]
    by_cases i0 : i = 0
    ·subst i0
     rw [if_neg (by omega), decide_eq_true rfl, Bool.true_or, Bool.true_and]; exact nx
    ·rw [if_pos (by omega), w64 (n := (i : Int) - 1) (by omega), if_pos (by omega), if_pos (by omega), show (i : Int) - 1 = ((i - 1 : Nat) : Int) by omega, rd_art, decide_eq_false i0, Bool.false_or]
     cases hl : Op.bytesLess (ar_at xs (i - 1)).f0.toList (ar_at xs i).f0.toList with
     | false => rfl
     | true => rw [if_pos rfl, Bool.true_and]; exact nx
 unfold impl_AreArticles.f areArts
 by_cases c : (xs.length : Int) > 12
 ·rw [if_pos c, decide_eq_false (by omega), Bool.and_false]
 ·rw [if_neg c, decide_eq_true (by omega)]
  exact loop xs.length k 0 (by omega) (by omega) hk
def findF (xs : List S62) (s : ByteArray) : Nat → Nat → Int
 | _, 0 => -1
 | i, d + 1 => if (ar_at xs i).f0.toList = s.toList then (i : Int) else findF xs s (i + 1) d
def find (xs : List S62) (s : ByteArray) : Int := findF xs s 0 xs.length
theorem find_go (xs : List S62) (hx : xs.length ≤ 9223372036854775807) (s : ByteArray) : ∀ d k i, xs.length - i = d → i ≤ xs.length → d < k → spec_l03Find.l0 k xs s (i : Int) = some (findF xs s i d) ∧ impl_articleOf.l0 k s xs (xs.length : Int) (i : Int) = some (findF xs s i d) := by
 intro d
 induction d with
 | zero =>
  intro k i hd hi hk; obtain ⟨k, rfl⟩ : ∃ m, k = m + 1 := ⟨k - 1, by omega⟩; simp only [spec_l03Find.l0, impl_articleOf.l0]; rw [if_neg (by omega), if_neg (by omega)]; exact ⟨rfl, rfl⟩
 | succ d ih =>
  intro k i hd hi hk; obtain ⟨k, rfl⟩ : ∃ m, k = m + 1 := ⟨k - 1, by omega⟩; obtain ⟨a, b⟩ := ih k (i + 1) (by omega) (by omega) (by omega); have w : wrap64 ((i : Int) + 1) = ((i + 1 : Nat) : Int) := w64 (by omega)
  have g1 : (i : Int) < (xs.length : Int) := by clear w; omega
  have g2 : 0 ≤ (i : Int) := by clear w; omega
  simp only [spec_l03Find.l0, impl_articleOf.l0, if_pos g1, if_pos g2, rd_art, w]
  unfold findF
  by_cases c : (ar_at xs i).f0.toList = s.toList
  ·rw [if_pos c, if_pos c, if_pos c]; exact ⟨rfl, rfl⟩
  ·rw [if_neg c, if_neg c, if_neg c]; exact ⟨a, b⟩
theorem spec_find (xs : List S62) (hx : xs.length ≤ 9223372036854775807) (s : ByteArray) (k : Nat) (hk : xs.length < k) : spec_l03Find.f k xs s = some (find xs s) := (find_go xs hx s xs.length k 0 (by omega) (by omega) hk).1
theorem impl_find (xs : List S62) (hx : xs.length ≤ 9223372036854775807) (s : ByteArray) (k : Nat) (hk : xs.length < k) : impl_articleOf.f k xs s = some (find xs s) := (find_go xs hx s xs.length k 0 (by omega) (by omega) hk).2
theorem findF_range (xs : List S62) (s : ByteArray) : ∀ d i, findF xs s i d = -1 ∨ ((i : Int) ≤ findF xs s i d ∧ findF xs s i d < (i : Int) + d)
 | 0, _ => .inl rfl
 | d + 1, i => by
  unfold findF
  by_cases c : (ar_at xs i).f0.toList = s.toList
  ·rw [if_pos c]; exact .inr ⟨Int.le_refl _, by omega⟩
  ·rw [if_neg c]
   rcases findF_range xs s d (i + 1) with h | h
   ·exact .inl h
   ·exact .inr ⟨by omega, by omega⟩
theorem find_range (xs : List S62) (s : ByteArray) : find xs s = -1 ∨ (0 ≤ find xs s ∧ find xs s < (xs.length : Int)) := by
 have := findF_range xs s xs.length 0
 unfold find
 omega
theorem spec_time {xs : List S104} (h : isScore xs = true) (bar : Nat) (hb : bar < xs.length) (beat : Int) (h0 : 0 ≤ beat ∧ beat ≤ 16) (k : Nat) (hk : bar < k) : spec_l07Time.f k xs (bar : Int) beat = some (tm xs bar + beat * ln_at xs bar) := by
 have hs := isScore_true h; have hl := hs.2.2 bar hb
 have hb2 : 0 ≤ beat * ln_at xs bar ∧ beat * ln_at xs bar ≤ 80000 := by
  have h1 : 0 * ln_at xs bar ≤ beat * ln_at xs bar := Int.mul_le_mul_of_nonneg_right h0.1 (by omega); have h2 : beat * ln_at xs bar ≤ 16 * ln_at xs bar := Int.mul_le_mul_of_nonneg_right h0.2 (by omega)
  omega
 refine fold_loop (f := fun k i s => spec_l07Time.l0 k xs (bar : Int) beat s (i : Int)) (step := fun j s => s + bt_at xs j * ln_at xs j) (I := fun i s => s = tm xs i) (e := fun s => some (s + beat * ln_at xs bar)) bar (fun k i s hi hI => ?_) (fun i s hi hI => ?_) (fun k s hI => ?_) bar k 0 0 (by omega) (by omega) rfl hk
 ·have h1 := tm_le h i (by omega)
  have h2 := prod_le (hs.2.2 i (by omega)); show spec_l07Time.l0 (k + 1) xs (bar : Int) beat s (i : Int) = spec_l07Time.l0 k xs (bar : Int) beat (s + bt_at xs i * ln_at xs i) ((i + 1 : Nat) : Int); simp only [spec_l07Time.l0]; rw [if_pos (by omega), if_pos (by omega), if_pos (by omega), rd_bar]; show spec_l07Time.l0 k xs (bar : Int) beat (wrap64 (s + wrap64 (bt_at xs i * ln_at xs i))) (wrap64 ((i : Int) + 1)) = _; rw [w64 (n := bt_at xs i * ln_at xs i) (by omega), w64 (n := s + _) (by omega), w64 (by omega)]
  rfl
 ·show s + bt_at xs i * ln_at xs i = tm xs (i + 1)
  rw [tm_succ, hI]
 ·have h1 := tm_le h bar (by omega)
  show spec_l07Time.l0 (k + 1) xs (bar : Int) beat s (bar : Int) = some (s + beat * ln_at xs bar); simp only [spec_l07Time.l0]; rw [if_neg (by omega), if_pos (by omega), if_pos (by omega), rd_bar]; show some (wrap64 (s + wrap64 (beat * ln_at xs bar))) = _; rw [w64 (n := beat * ln_at xs bar) (by omega), w64 (by omega)]
theorem impl_time {xs : List S104} (h : isScore xs = true) (bar : Nat) (beat : Int) (hb : bar < xs.length ∨ (bar = xs.length ∧ beat = 0)) (h0 : 0 ≤ beat ∧ beat ≤ 16) (k : Nat) (hk : bar < k) : impl_beatTime.f k xs (bar : Int) beat = some (tm xs bar + beat * ln_at xs bar) := by
 have hs := isScore_true h
 have hlen : (xs.take bar).length = bar := by rw [List.length_take]; omega
 unfold impl_beatTime.f
 rw [if_pos (by omega), if_pos (by omega), Int.toNat_natCast]; simp only [Option.bind_some]; rw [hlen]; refine fold_loop (f := fun k i s => impl_beatTime.l0 k xs (bar : Int) beat s (xs.take bar) (bar : Int) (i : Int)) (step := fun j s => s + bt_at xs j * ln_at xs j) (I := fun i s => s = tm xs i) (e := fun s => some (s + beat * ln_at xs bar)) bar (fun k i s hi hI => ?_) (fun i s hi hI => ?_) (fun k s hI => ?_) bar k 0 0 (by omega) (by omega) rfl hk
 ·have h1 := tm_le h i (by omega)
  have h2 := prod_le (hs.2.2 i (by omega)); show impl_beatTime.l0 (k + 1) xs (bar : Int) beat s (xs.take bar) (bar : Int) (i : Int) = impl_beatTime.l0 k xs (bar : Int) beat (s + bt_at xs i * ln_at xs i) (xs.take bar) (bar : Int) ((i + 1 : Nat) : Int); simp only [impl_beatTime.l0]; rw [if_pos (by omega), if_pos (by omega), if_pos (by rw [hlen]; omega), rd_bar, getD_take _ _ _ _ hi]; show impl_beatTime.l0 k xs (bar : Int) beat (wrap64 (s + wrap64 (bt_at xs i * ln_at xs i))) (xs.take bar) (bar : Int) (wrap64 ((i : Int) + 1)) = _; rw [w64 (n := bt_at xs i * ln_at xs i) (by omega), w64 (n := s + _) (by omega), w64 (by omega)]
  rfl
 ·show s + bt_at xs i * ln_at xs i = tm xs (i + 1)
  rw [tm_succ, hI]
 ·have h1 := tm_le h bar (by omega)
  show impl_beatTime.l0 (k + 1) xs (bar : Int) beat s (xs.take bar) (bar : Int) (bar : Int) = some (s + beat * ln_at xs bar); simp only [impl_beatTime.l0]; rw [if_neg (by omega)]
  by_cases hp : beat > 0
  ·have hlt : bar < xs.length := by omega
   have hl := hs.2.2 bar hlt
   have hb2 : 0 ≤ beat * ln_at xs bar ∧ beat * ln_at xs bar ≤ 80000 := by
    have h1 : 0 * ln_at xs bar ≤ beat * ln_at xs bar := Int.mul_le_mul_of_nonneg_right h0.1 (by omega); have h2 : beat * ln_at xs bar ≤ 16 * ln_at xs bar := Int.mul_le_mul_of_nonneg_right h0.2 (by omega)
    omega
   rw [if_pos hp, if_pos (by omega), if_pos (by omega), rd_bar]; show some (wrap64 (s + wrap64 (beat * ln_at xs bar))) = _; rw [w64 (n := beat * ln_at xs bar) (by omega), w64 (by omega)]
  ·have e : beat = 0 := by omega
   rw [if_neg hp, e, Int.zero_mul, Int.add_zero]
theorem index_eq (a n : Int) : impl_isIndex.f a n = some (inB a 0 (wrap64 (n - 1))) := by
 unfold impl_isIndex.f
 simp only [Wi_eq, Option.bind_some]
def hasBeat (xs : List S104) (bar beat : Int) : Bool := inB bar 0 ((xs.length : Int) - 1) && inB beat 0 (bt_at xs bar.toNat - 1)
theorem hasBeat_true {xs : List S104} {bar beat : Int} (h : hasBeat xs bar beat = true) : ∃ b : Nat, bar = b ∧ b < xs.length ∧ 0 ≤ beat ∧ beat ≤ bt_at xs b - 1 := by
 unfold hasBeat at h
 rw [Bool.and_eq_true, inB_true, inB_true] at h; exact ⟨bar.toNat, by omega, by omega, h.2⟩
theorem spec_has {xs : List S104} (h : isScore xs = true) (bar beat : Int) : spec_l07Has.f xs bar beat = some (hasBeat xs bar beat) := by
 have hs := isScore_true h
 unfold spec_l07Has.f hasBeat
 rw [w64 (n := (xs.length : Int) - 1) (by omega), In_eq]; simp only [Option.bind_some]
 cases g : inB bar 0 ((xs.length : Int) - 1) with
 | false => rfl
 | true =>
  rw [inB_true] at g; obtain ⟨b, rfl⟩ : ∃ n : Nat, bar = n := ⟨bar.toNat, by omega⟩; have hb := hs.2.2 b (by omega); rw [if_pos rfl, if_pos (by omega), if_pos (by omega), rd_bar]; show ((spec_l01In.f beat 0 (wrap64 (bt_at xs b - 1))).bind fun t => some t) = _; rw [w64 (by omega), In_eq]; rfl
theorem impl_has {xs : List S104} (h : isScore xs = true) (bar beat : Int) : impl_isBeat.f xs bar beat = some (hasBeat xs bar beat) := by
 have hs := isScore_true h
 unfold impl_isBeat.f hasBeat
 rw [index_eq, w64 (n := (xs.length : Int) - 1) (by omega)]; simp only [Option.bind_some]
 cases g : inB bar 0 ((xs.length : Int) - 1) with
 | false => rfl
 | true =>
  rw [inB_true] at g; obtain ⟨b, rfl⟩ : ∃ n : Nat, bar = n := ⟨bar.toNat, by omega⟩; have hb := hs.2.2 b (by omega); rw [if_pos rfl, if_pos (by omega), if_pos (by omega), rd_bar]; show ((impl_within.f beat 0 (wrap64 (bt_at xs b - 1))).bind fun t => some t) = _; rw [w64 (by omega), Wi_eq]; rfl
end Go.Proofs.Ythhijbdekboahaa.F
