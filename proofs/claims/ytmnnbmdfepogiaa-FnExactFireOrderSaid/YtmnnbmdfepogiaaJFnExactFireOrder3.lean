import Derived.Test.YtmnnbmdfepogiaaJFnExactFireOrder2
import Derived.Below
import Derived.Deep.Draws
import Derived.Deep.AppendLies
import Derived.Maps.AppendAt
import Derived.OwnWalk
import Derived.Laws.BytesArg
import Derived.Laws.MakeOwn
import Derived.Laws.OwnMore
import Derived.Tactics
import Derived.Lib.ConvBytes
import Derived.Laws.Slices
import Derived.WalkKit
import Derived.KernelRfl
import Derived.RowKit3
import Derived.Deep.LoopGhost
import Derived.Deep.QuietTactic
import Derived.BigQuiet
import Derived.WideLaws
import Derived.Deep.DeepCutAuto
import Derived.Deep.CutBlock
import Derived.Deep.RegionHeld3
import Derived.Lib.AppendStr
import Derived.ArgAppend
import Derived.Laws.IdiomCopy
import Derived.RowKit
import Derived.OrdersHeld
import Derived.Laws.BitsLemmas
import Derived.Laws.StructEq
import Derived.Test.YtmnnbmdfepogiaaProg
import Derived.ChangeSlices
import Derived.OpenShut
import Derived.Laws.Cover1
namespace Go.Proofs.Ytmnnbmdfepogiaa.F
open Go.RowKit Go.Proofs.YtmnnbmdfepogiaaW.PrintWords Go.Proofs.YtmnnbmdfepogiaaW.PrintLast Go.Proofs.YtmnnbmdfepogiaaW.PrintMore
set_option linter.unusedVariables false
set_option linter.unusedSimpArgs false
attribute [local go_sem] max2_int min2_int max_two min_two max_three min_three max_four min_four
 mutual
def full_toArticleS.j0 : Nat → List (S99) → Bool → Option ((List (S61)))
 | 0, _, _ => none
 | k + 1, x0, x13 => if x13 = true then (some ([] : List (S61))) else ((laws_roomBehind.f (x0.length : Int)).bind fun t1088 => (if 0 ≤ (wrap64 ((x0.length : Int) + t1088)) then (if (wrap64 ((x0.length : Int) + t1088) : Int).toNat ≤ 3518437208883 then (full_toArticleS.l0 k x0 (List.replicate (wrap64 ((x0.length : Int) + t1088) : Int).toNat z61) 0) else (none)) else (none)))
def full_toArticleS.l0 : Nat → List (S99) → List (S61) → Int → Option ((List (S61)))
 | 0, _, _, _ => none
 | k + 1, x0, x5, x6 => if x6 < (x0.length : Int) then (if 0 ≤ x6 then ((laws_toArticle.f ((rd_T99 x0 x6).f0) ((rd_T99 x0 x6).f1) ((rd_T99 x0 x6).f2) ((rd_T99 x0 x6).f3) ((rd_T99 x0 x6).f4) ((rd_T99 x0 x6).f5) ((rd_T99 x0 x6).f6) ((rd_T99 x0 x6).f7) ((rd_T99 x0 x6).f8)).bind fun bt1093 => (if x6 < (x5.length : Int) then (full_toArticleS.l0 k x0 (x5.set (x6 : Int).toNat (⟨bt1093.1, bt1093.2.1, bt1093.2.2.1, bt1093.2.2.2.1, bt1093.2.2.2.2.1, bt1093.2.2.2.2.2.1, bt1093.2.2.2.2.2.2.1, bt1093.2.2.2.2.2.2.2.1, bt1093.2.2.2.2.2.2.2.2⟩ : S61)) (wrap64 (x6 + 1))) else (none))) else (none)) else (full_toArticleS.l1 k x0 x5 (x0.length : Int))
def full_toArticleS.l1 : Nat → List (S99) → List (S61) → Int → Option ((List (S61)))
 | 0, _, _, _ => none
 | k + 1, x0, x5, x7 => if x7 < (x5.length : Int) then ((laws_fillerArticle.f).bind fun bt1103 => (if 0 ≤ x7 then (full_toArticleS.l1 k x0 (x5.set (x7 : Int).toNat (⟨bt1103.1, bt1103.2.1, bt1103.2.2.1, bt1103.2.2.2.1, bt1103.2.2.2.2.1, bt1103.2.2.2.2.2.1, bt1103.2.2.2.2.2.2.1, bt1103.2.2.2.2.2.2.2.1, bt1103.2.2.2.2.2.2.2.2⟩ : S61)) (wrap64 (x7 + 1))) else (none))) else (if 0 ≤ (x0.length : Int) then (if (x0.length : Int) ≤ (x5.length : Int) then (some x5) else (none)) else (none))
end
def full_toArticleS.f (k : Nat) (l0 : List (S99)) (a1 : Bool) : Option ((List (S61))) := if a1 = true then (full_toArticleS.j0 k l0 ((l0.length : Int) == 0)) else (full_toArticleS.j0 k l0 false)
set_option maxHeartbeats 8000000 in
set_option maxRecDepth 100000 in
theorem full_toArticleS.calls (k : Nat) (A0 : Option Addr) (c0 : Nat) (l0 : List (S99)) (a1 : Bool) (r : List (S61)) (w : World) (hr0 : Kd.C k99 w A0 l0.length l0) (hc0 : l0.length ≤ c0) (h : full_toArticleS.f k l0 a1 = some r) :
  Calls Try.prog 47 #[.slice A0 l0.length c0, .bool a1] w fun e w' => ∃ v0_ : Value, e = .returned (v0_) ∧ Full k61 61 w' w.heap.size l0.length v0_ r ∧ Below w.heap.size w w' := by
 have hu99 := Try.underlying99; have hu61 := Try.underlying61; have HR0 := am_ hr0; have HC0 := am_ hc0; clear hr0 hc0; have HB := am_ (Below.refl w.heap.size w); have H : (if a1 = true then (full_toArticleS.j0 k l0 ((l0.length : Int) == 0)) else (full_toArticleS.j0 k l0 false)) = some r := h; clear h; have HC3 := am_ H; clear H
 go_enter Try.func47, Try.ntmps47
 go_upto_region 1 with (fail)
 go_cut [13] (fun v13 wc => ∃ (kq : Nat) (x13_2 : Bool), v13 = .bool x13_2 ∧ Aside0 (full_toArticleS.j0 kq l0 x13_2 = some r) ∧ Aside0 (kq ≤ k) ∧ Aside0 (Below w.heap.size w wc))
 case first =>
  have H := HC3.out; clear HC3
  by_cases c4 : a1 = true
  ·subst c4
   rw [if_pos rfl] at H; have H' := am_ H; clear H
   go_wp2
   go_meet
   case rel => exact ⟨_, (((l0.length : Int) == 0)), Za, H', ⟨Zl⟩, ⟨Zd⟩⟩
  ·replace c4 := Bool.eq_false_iff.mpr c4
   subst c4; rw [if_neg (show ¬ (false = true) by decide)] at H; have H' := am_ H; clear H
   go_wp2
   go_meet
   case rel => exact ⟨_, (false), Za, H', ⟨Zl⟩, ⟨Zd⟩⟩
 case rest =>
  clear HC3
  try clear p2
  try clear c4
  obtain ⟨kq, x13_2, rfl, HA, HJ2, HB⟩ := hcut
  cases kq with
  | zero => exact absurd HA.out (by simp [full_toArticleS.j0])
  | succ kj2 =>
   have H := HA.out; clear HA; simp only [full_toArticleS.j0] at H
   by_cases c5 : x13_2 = true
   ·subst c5
    rw [if_pos rfl] at H; obtain rfl := Option.some.inj H
    go_wp2
    go_ret
    exact ⟨_, Zj, fun h_ => absurd rfl h_, Zd⟩
   ·replace c5 := Bool.eq_false_iff.mpr c5
    subst c5; rw [if_neg (show ¬ (false = true) by decide)] at H; replace H := Option.bind_eq_some_iff.mp H; obtain ⟨t1088, A60, H⟩ := H; have A6 := am_ A60; clear A60; obtain ⟨ji7, hji7⟩ : ∃ j_ : Int, (wrap64 ((l0.length : Int) + t1088)) = j_ := ⟨_, rfl⟩
    replace H : (if 0 ≤ (ji7) then (if (ji7 : Int).toNat ≤ 3518437208883 then (full_toArticleS.l0 kj2 l0 (List.replicate (ji7 : Int).toNat z61) 0) else (none)) else (none)) = some r := by first | (rw [hji7] at H; exact H) | (simp only [hji7] at H ⊢; exact H)
    (try rw [hji7] at A6)
    have hji7w : (IntKind.i64.wrap ((l0.length : Int) + t1088)) = ji7 := (i64_w _).trans hji7
    by_cases c8 : 0 ≤ (ji7)
    ·rw [if_pos c8] at H
     have c8b0 := eq_true c8; have c8b1 := decide_eq_true c8; clear c8
     by_cases c9 : (ji7 : Int).toNat ≤ 3518437208883
     ·rw [if_pos c9] at H
      have c9b0 := eq_true c9; have c9b1 := decide_eq_true c9; clear c9; obtain ⟨y1089, hy1089⟩ : ∃ y_ : List (S61), y_ = (List.replicate (ji7 : Int).toNat z61) := ⟨_, rfl⟩
      (first | (rw [← hy1089] at H; with_reducible replace H := bindZ H) | rw [← hy1089] at H | skip)
      have Ny1089 := am_ hy1089; clear hy1089; have H' := am_ H; clear H
      go_wp2_with (first | ((with_reducible refine gate_callee (f := 84) rfl ?_); refine gZ 18 Try.func84 #[.int .i64 (l0.length : Int)] ?_; (with_reducible refine (laws_roomBehind.calls (l0.length : Int) t1088 _ A6.out).mono ?_); rintro e w' ⟨rfl, ⟨nd, rfl⟩⟩; refine ⟨_, rfl, ?_⟩) | ((with_reducible refine gate_dst (N := 20) rfl ?_); (try (refine gate_guard (by rfl) ?_; dsimp only)); refine Kd.R_make k61 _ 61 rfl (N := 20) rfl 32 _ _ rfl ji7 rfl rfl Try.underlying32 (.agg #[(.string ⟨#[]⟩), (.int .i64 0), (.int .i64 0), (.int .i64 0), (.int .i64 0), (.int .i64 0), (.int .i64 0), (.int .i64 0), (.int .i64 0)]) 80 info61 rfl (by decide) (by omega) z61 (ok := fun _ => True) (okp := fun _ => True) (k61_mkM _ _ _ z61 ) (fun _ hk => hk) trivial (of_decide_eq_true Zn) (Nat.le_trans (Nat.mul_le_mul_right _ (of_decide_eq_true Zn : ji7.toNat ≤ 3518437208883)) (by omega)) (Below.refl _ _) (Nat.le_refl _) ?_; intro v1090 w10 ho11 hb hg_ hnew_; clear hg_ hnew_; (first | rw [← Ny1089.out] at ho11 | (simp only [Int.reduceToNat] at ho11; rw [← Ny1089.out] at ho11)); replace HO1091 := am_ (Kd.R_lower ho11 (below_size Zd)); replace HB := (bsZ Zd hb); clear hb ho11))
      go_loopg [6] kj2 (fun kq v6 w' => ∃ (x5_2 : List (S61)) (x6_2 : Int), v6 = .int .i64 x6_2 ∧ Aside0 (full_toArticleS.l0 kq l0 x5_2 x6_2 = some r) ∧ Aside0 (kq ≤ kj2) ∧ Aside0 (Kd.R k61 61 w' w.heap.size (fun _ => True) v1090 x5_2) ∧ Aside0 (Below w.heap.size w w'))
      case atStart => exact ⟨(y1089), (0), Za, H', ⟨Nat.le_refl _⟩, ⟨(Zo HO1091)⟩, ⟨Zd⟩⟩
      case round =>
       clear H'
       try clear p2
       try clear c4
       try clear c5
       try clear p6
       try clear c8
       try clear c8b0
       try clear c8b1
       try clear c9
       try clear c9b0
       try clear c9b1
       try clear p2
       obtain ⟨x5_2, x6_2, rfl, HA, HK2, HO_5, HB⟩ := hrel
       cases gk with
       | zero => exact absurd HA.out (by simp [full_toArticleS.l0])
       | succ k2 =>
        have H := HA.out; clear HA; simp only [full_toArticleS.l0] at H
        by_cases c12 : x6_2 < (l0.length : Int)
        ·rw [if_pos c12] at H
         have c12b0 := decide_eq_true c12; clear c12
         by_cases c13 : 0 ≤ x6_2
         ·rw [if_pos c13] at H
          have c13b0 := decide_eq_true c13; clear c13; replace H := Option.bind_eq_some_iff.mp H; obtain ⟨⟨t1093, t1094, t1095, t1096, t1097, t1098, t1099, t1100, t1101⟩, A140, H⟩ := H
          dsimp only at H
          have A14 := am_ A140; clear A140
          by_cases c15 : x6_2 < (x5_2.length : Int)
          ·rw [if_pos c15] at H
           have c15b0 := decide_eq_true c15; clear c15; obtain ⟨y1102, hy1102⟩ : ∃ y_ : List (S61), y_ = (x5_2.set (x6_2 : Int).toNat (⟨t1093, t1094, t1095, t1096, t1097, t1098, t1099, t1100, t1101⟩ : S61)) := ⟨_, rfl⟩
           (first | (rw [← hy1102] at H; with_reducible replace H := bindZ H) | rw [← hy1102] at H | skip)
           have Ny1102 := am_ hy1102; clear hy1102; have H' := am_ H; clear H; have p1092 : 0 ≤ (x6_2 : Int) := of_decide_eq_true Zn; have q1092 : x6_2 < (l0.length : Int) := of_decide_eq_true Zn; obtain ⟨ad1092, e1092, hx1092_0, hx1092_1, hx1092_2, hx1092_3, hx1092_4, hx1092_5, hx1092_6, hx1092_7, hx1092_8⟩ := at_T99 HR0.out x6_2 p1092 q1092
           cases e1092
           replace hx1092_0 := cbH HB hx1092_0; replace hx1092_1 := cbH HB hx1092_1; replace hx1092_2 := cbH HB hx1092_2; replace hx1092_3 := cbH HB hx1092_3; replace hx1092_4 := cbH HB hx1092_4; replace hx1092_5 := cbH HB hx1092_5; replace hx1092_6 := cbH HB hx1092_6; replace hx1092_7 := cbH HB hx1092_7; replace hx1092_8 := cbH HB hx1092_8; replace p1092 := eq_true p1092; replace q1092 := eq_true q1092
           go_wp2_with (first | ((with_reducible refine gate_callee (f := 87) rfl ?_); refine gZ 33 Try.func87 #[.agg #[.string ((rd_T99 l0 x6_2).f0), .int .i64 ((rd_T99 l0 x6_2).f1), .int .i64 ((rd_T99 l0 x6_2).f2), .int .i64 ((rd_T99 l0 x6_2).f3), .int .i64 ((rd_T99 l0 x6_2).f4), .int .i64 ((rd_T99 l0 x6_2).f5), .int .i64 ((rd_T99 l0 x6_2).f6), .int .i64 ((rd_T99 l0 x6_2).f7), .int .i64 ((rd_T99 l0 x6_2).f8)]] ?_; (with_reducible refine (laws_toArticle.calls ((rd_T99 l0 x6_2).f0) ((rd_T99 l0 x6_2).f1) ((rd_T99 l0 x6_2).f2) ((rd_T99 l0 x6_2).f3) ((rd_T99 l0 x6_2).f4) ((rd_T99 l0 x6_2).f5) ((rd_T99 l0 x6_2).f6) ((rd_T99 l0 x6_2).f7) ((rd_T99 l0 x6_2).f8) t1093 t1094 t1095 t1096 t1097 t1098 t1099 t1100 t1101 _ A14.out).mono ?_); rintro e w17 ⟨rfl, hb⟩; refine ⟨_, rfl, ?_⟩; replace HO_5 := (hbZ HO_5 hb); replace HB := (bsZ Zd hb); clear hb; have p16 : 0 ≤ (x6_2 : Int) := of_decide_eq_true Zn; have q16 : (x6_2 : Int) < ((x5_2.length : Int) : Int) := of_decide_eq_true Zn; obtain ⟨go16, co16, eo16, gb16, gl16, cl16, HG16⟩ := Kd.R_form HO_5.out (by omega); (first | cases eo16 | (injection eo16 with ea_ en_ ec_; (first | subst ea_ | (injection ea_ with ea_; subst ea_)); subst ec_; clear en_)); have GB16 := am_ gb16; have GG16 := am_ HG16; clear gb16 gl16 HG16; obtain ⟨ce16, hcl16, hM16, hcc16, hfr16⟩ := Kd.R_elem HO_5.out z61 (x6_2 : Int) p16 q16; obtain rfl := k61_openM hM16; have hx16_0 : w17.cell? ⟨go16, (x6_2 : Int).toNat * 9, none⟩ = some (.string ((rd_T61 x5_2 x6_2).f0)) := hcc16 0 _ rfl; have hx16_1 : w17.cell? ⟨go16, (x6_2 : Int).toNat * 9 + 1, none⟩ = some (.int .i64 ((rd_T61 x5_2 x6_2).f1)) := hcc16 1 _ rfl; have hx16_2 : w17.cell? ⟨go16, (x6_2 : Int).toNat * 9 + 2, none⟩ = some (.int .i64 ((rd_T61 x5_2 x6_2).f2)) := hcc16 2 _ rfl; have hx16_3 : w17.cell? ⟨go16, (x6_2 : Int).toNat * 9 + 3, none⟩ = some (.int .i64 ((rd_T61 x5_2 x6_2).f3)) := hcc16 3 _ rfl; have hx16_4 : w17.cell? ⟨go16, (x6_2 : Int).toNat * 9 + 4, none⟩ = some (.int .i64 ((rd_T61 x5_2 x6_2).f4)) := hcc16 4 _ rfl; have hx16_5 : w17.cell? ⟨go16, (x6_2 : Int).toNat * 9 + 5, none⟩ = some (.int .i64 ((rd_T61 x5_2 x6_2).f5)) := hcc16 5 _ rfl; have hx16_6 : w17.cell? ⟨go16, (x6_2 : Int).toNat * 9 + 6, none⟩ = some (.int .i64 ((rd_T61 x5_2 x6_2).f6)) := hcc16 6 _ rfl; have hx16_7 : w17.cell? ⟨go16, (x6_2 : Int).toNat * 9 + 7, none⟩ = some (.int .i64 ((rd_T61 x5_2 x6_2).f7)) := hcc16 7 _ rfl; have hx16_8 : w17.cell? ⟨go16, (x6_2 : Int).toNat * 9 + 8, none⟩ = some (.int .i64 ((rd_T61 x5_2 x6_2).f8)) := hcc16 8 _ rfl; have hf16_0 : w17.frozen? ⟨go16, (x6_2 : Int).toNat * 9, none⟩ = false := hfr16 0; have hf16_1 := hfr16 1; have hf16_2 := hfr16 2; have hf16_3 := hfr16 3; have hf16_4 := hfr16 4; have hf16_5 := hfr16 5; have hf16_6 := hfr16 6; have hf16_7 := hfr16 7; have hf16_8 := hfr16 8; clear hcl16 hcc16 hfr16 hM16; replace p16 := eq_true p16; replace q16 := eq_true q16; have HX18 := am_ (show Kd.R k61 61 w17 w.heap.size (fun _ => True) (.slice (some ⟨go16, 0, none⟩) x5_2.length co16) x5_2 from (Zo HO_5)); obtain ⟨ce18, hcl18, hM18, hcc18, hfr18⟩ := Kd.R_elem HX18.out z61 (x6_2 : Int) (of_decide_eq_true Zn) (by have h_ : (x6_2 : Int) < ((x5_2.length : Int) : Int) := of_decide_eq_true Zn; first | exact h_ | (have e_ := (Kd.R_reads' HO_5.out).1; omega) | simpa using h_); obtain rfl := k61_openM hM18; have HP18 := Kd.R_seg HX18.out (x6_2 : Int) (of_decide_eq_true Zn) (by have h_ : (x6_2 : Int) < ((x5_2.length : Int) : Int) := of_decide_eq_true Zn; first | exact h_ | (have e_ := (Kd.R_reads' HO_5.out).1; omega) | simpa using h_) (seg := [.string t1093, .int .i64 t1094, .int .i64 t1095, .int .i64 t1096, .int .i64 t1097, .int .i64 t1098, .int .i64 t1099, .int .i64 t1100, .int .i64 t1101]) (j := 0) hcl18 hcc18 (show 9 ≤ 9 from (by decide)) (x' := (⟨t1093, t1094, t1095, t1096, t1097, t1098, t1099, t1100, t1101⟩ : S61)) (k61_mkM _ _ _ (⟨t1093, t1094, t1095, t1096, t1097, t1098, t1099, t1100, t1101⟩ : S61) ) (fun _ hk => hk); have hx18_0 := hcc18 0 _ rfl; (try simp only [show (k61).sz = 9 from rfl, Nat.mul_one, Nat.add_zero] at hx18_0); have hf18_0 := hfr18 0; (try simp only [show (k61).sz = 9 from rfl, Nat.mul_one, Nat.add_zero] at hf18_0); have hx18_1 := hcc18 1 _ rfl; (try simp only [show (k61).sz = 9 from rfl, Nat.mul_one, Nat.add_zero] at hx18_1); have hf18_1 := hfr18 1; (try simp only [show (k61).sz = 9 from rfl, Nat.mul_one, Nat.add_zero] at hf18_1); have hx18_2 := hcc18 2 _ rfl; (try simp only [show (k61).sz = 9 from rfl, Nat.mul_one, Nat.add_zero] at hx18_2); have hf18_2 := hfr18 2; (try simp only [show (k61).sz = 9 from rfl, Nat.mul_one, Nat.add_zero] at hf18_2); have hx18_3 := hcc18 3 _ rfl; (try simp only [show (k61).sz = 9 from rfl, Nat.mul_one, Nat.add_zero] at hx18_3); have hf18_3 := hfr18 3; (try simp only [show (k61).sz = 9 from rfl, Nat.mul_one, Nat.add_zero] at hf18_3); have hx18_4 := hcc18 4 _ rfl; (try simp only [show (k61).sz = 9 from rfl, Nat.mul_one, Nat.add_zero] at hx18_4); have hf18_4 := hfr18 4; (try simp only [show (k61).sz = 9 from rfl, Nat.mul_one, Nat.add_zero] at hf18_4); have hx18_5 := hcc18 5 _ rfl; (try simp only [show (k61).sz = 9 from rfl, Nat.mul_one, Nat.add_zero] at hx18_5); have hf18_5 := hfr18 5; (try simp only [show (k61).sz = 9 from rfl, Nat.mul_one, Nat.add_zero] at hf18_5); have hx18_6 := hcc18 6 _ rfl; (try simp only [show (k61).sz = 9 from rfl, Nat.mul_one, Nat.add_zero] at hx18_6); have hf18_6 := hfr18 6; (try simp only [show (k61).sz = 9 from rfl, Nat.mul_one, Nat.add_zero] at hf18_6); have hx18_7 := hcc18 7 _ rfl; (try simp only [show (k61).sz = 9 from rfl, Nat.mul_one, Nat.add_zero] at hx18_7); have hf18_7 := hfr18 7; (try simp only [show (k61).sz = 9 from rfl, Nat.mul_one, Nat.add_zero] at hf18_7); have hx18_8 := hcc18 8 _ rfl; (try simp only [show (k61).sz = 9 from rfl, Nat.mul_one, Nat.add_zero] at hx18_8); have hf18_8 := hfr18 8; (try simp only [show (k61).sz = 9 from rfl, Nat.mul_one, Nat.add_zero] at hf18_8); clear hcl18 hcc18 hfr18 hM18) | ((with_reducible refine gate_store (t := 61) (p := 34) rfl ?_); refine store_event (t := 61) (p := 34) (v := ?vo_w19) (w1 := (((((((((w17.setCell ⟨go16, (x6_2 : Int).toNat * 9, none⟩ (.string t1093)).setCell ⟨go16, (x6_2 : Int).toNat * 9 + 1, none⟩ (.int .i64 t1094)).setCell ⟨go16, (x6_2 : Int).toNat * 9 + 2, none⟩ (.int .i64 t1095)).setCell ⟨go16, (x6_2 : Int).toNat * 9 + 3, none⟩ (.int .i64 t1096)).setCell ⟨go16, (x6_2 : Int).toNat * 9 + 4, none⟩ (.int .i64 t1097)).setCell ⟨go16, (x6_2 : Int).toNat * 9 + 5, none⟩ (.int .i64 t1098)).setCell ⟨go16, (x6_2 : Int).toNat * 9 + 6, none⟩ (.int .i64 t1099)).setCell ⟨go16, (x6_2 : Int).toNat * 9 + 7, none⟩ (.int .i64 t1100)).setCell ⟨go16, (x6_2 : Int).toNat * 9 + 8, none⟩ (.int .i64 t1101))) ?hg ?ho ?hn ?hr ?_; (case ho => rfl); (case hg => rfl); (case hn => rfl); (case hr => first | (go_simp; done) | (go_simp; rfl)); intro w19 hw; have hg : w17.grownBy w19 (some go16) := (by rw [hw]; exact HP18.2); have hp_ : Kd.R k61 61 w19 w.heap.size (fun _ => True) (.slice (some ⟨go16, 0, none⟩) x5_2.length co16) y1102 := (by rw [hw, Ny1102.out]; exact HP18.1); clear HP18; replace HO_5 := am_ (hp_); replace HB := am_ (((Zx GB16) : Below w.heap.size w w19)); clear hg hw hp_))
           go_roundg k2
           case measure => have := HJ2.out; have := HK2.out; omega
           case rel => exact ⟨(y1102), (wrap64 (x6_2 + 1)), Za, H', ⟨by have := HJ2.out; have := HK2.out; omega⟩, ⟨(Zo HO_5)⟩, ⟨Zd⟩⟩
          ·rw [if_neg c15] at H
           exact absurd H (by simp)
         ·rw [if_neg c13] at H
          exact absurd H (by simp)
        ·rw [if_neg c12] at H
         have c12b0 := decide_eq_false c12; clear c12; have H' := am_ H; clear H
         go_wp2
         go_loopg [7] k2 (fun kq v7 w' => ∃ (x5_3 : List (S61)) (x7_3 : Int), v7 = .int .i64 x7_3 ∧ Aside0 (full_toArticleS.l1 kq l0 x5_3 x7_3 = some r) ∧ Aside0 (kq ≤ k2) ∧ Aside0 (Kd.R k61 61 w' w.heap.size (fun _ => True) v1090 x5_3) ∧ Aside0 (Below w.heap.size w w'))
         case atStart => exact ⟨(x5_2), ((l0.length : Int)), Za, H', ⟨Nat.le_refl _⟩, ⟨(Zo HO_5)⟩, ⟨Zd⟩⟩
         case round =>
          clear H'
          try clear c1
          try clear p1
          try clear q1
          try clear hx1
          try clear p2
          try clear c4
          try clear c5
          try clear p6
          try clear c8
          try clear c8b0
          try clear c8b1
          try clear c9
          try clear c9b0
          try clear c9b1
          try clear p10
          try clear q10
          try clear hx10
          try clear c12
          try clear c12b0
          try clear c13
          try clear c13b0
          try clear c15
          try clear c15b0
          try clear c16
          try clear p16
          try clear q16
          try clear hx16
          try clear hf16
          try clear c18
          try clear hx18
          try clear hf18
          try clear hx1092_0
          try clear hx1092_1
          try clear hx1092_2
          try clear hx1092_3
          try clear hx1092_4
          try clear hx1092_5
          try clear hx1092_6
          try clear hx1092_7
          try clear hx1092_8
          try clear hx16_0
          try clear hx16_1
          try clear hx16_2
          try clear hx16_3
          try clear hx16_4
          try clear hx16_5
          try clear hx16_6
          try clear hx16_7
          try clear hx16_8
          try clear hx18_0
          try clear hx18_1
          try clear hx18_2
          try clear hx18_3
          try clear hx18_4
          try clear hx18_5
          try clear hx18_6
          try clear hx18_7
          try clear hx18_8
          try clear p1092
          try clear p16
          try clear p2
          try clear p6
          try clear q1092
          try clear q16
          obtain ⟨x5_3, x7_3, rfl, HA, HK3, HO_5, HB⟩ := hrel
          cases gk with
          | zero => exact absurd HA.out (by simp [full_toArticleS.l1])
          | succ k3 =>
           have H := HA.out; clear HA; simp only [full_toArticleS.l1] at H
           by_cases c20 : x7_3 < (x5_3.length : Int)
           ·rw [if_pos c20] at H
            have c20b0 := decide_eq_true c20; clear c20; replace H := Option.bind_eq_some_iff.mp H; obtain ⟨⟨t1103, t1104, t1105, t1106, t1107, t1108, t1109, t1110, t1111⟩, A210, H⟩ := H
            dsimp only at H
            have A21 := am_ A210; clear A210
            by_cases c22 : 0 ≤ x7_3
            ·rw [if_pos c22] at H
             have c22b0 := decide_eq_true c22; clear c22; obtain ⟨y1112, hy1112⟩ : ∃ y_ : List (S61), y_ = (x5_3.set (x7_3 : Int).toNat (⟨t1103, t1104, t1105, t1106, t1107, t1108, t1109, t1110, t1111⟩ : S61)) := ⟨_, rfl⟩
             (first | (rw [← hy1112] at H; with_reducible replace H := bindZ H) | rw [← hy1112] at H | skip)
             have Ny1112 := am_ hy1112; clear hy1112; have H' := am_ H; clear H; obtain ⟨Ao24, co24, eo24⟩ := Kd.R_slice HO_5.out; subst eo24
             go_wp2_with (first | ((with_reducible refine gate_callee (f := 88) rfl ?_); refine gZ 45 Try.func88 #[] ?_; (with_reducible refine (laws_fillerArticle.calls  t1103 t1104 t1105 t1106 t1107 t1108 t1109 t1110 t1111 _ A21.out).mono ?_); rintro e w25 ⟨rfl, hb⟩; refine ⟨_, rfl, ?_⟩; replace HO_5 := (hbZ HO_5 hb); replace HB := (bsZ Zd hb); clear hb; have p23 : 0 ≤ (x7_3 : Int) := of_decide_eq_true Zn; have q23 : (x7_3 : Int) < ((x5_3.length : Int) : Int) := of_decide_eq_true Zn; obtain ⟨go23, co23, eo23, gb23, gl23, cl23, HG23⟩ := Kd.R_form HO_5.out (by omega); (first | cases eo23 | (injection eo23 with ea_ en_ ec_; (first | subst ea_ | (injection ea_ with ea_; subst ea_)); subst ec_; clear en_)); have GB23 := am_ gb23; have GG23 := am_ HG23; clear gb23 gl23 HG23; obtain ⟨ce23, hcl23, hM23, hcc23, hfr23⟩ := Kd.R_elem HO_5.out z61 (x7_3 : Int) p23 q23; obtain rfl := k61_openM hM23; have hx23_0 : w25.cell? ⟨go23, (x7_3 : Int).toNat * 9, none⟩ = some (.string ((rd_T61 x5_3 x7_3).f0)) := hcc23 0 _ rfl; have hx23_1 : w25.cell? ⟨go23, (x7_3 : Int).toNat * 9 + 1, none⟩ = some (.int .i64 ((rd_T61 x5_3 x7_3).f1)) := hcc23 1 _ rfl; have hx23_2 : w25.cell? ⟨go23, (x7_3 : Int).toNat * 9 + 2, none⟩ = some (.int .i64 ((rd_T61 x5_3 x7_3).f2)) := hcc23 2 _ rfl; have hx23_3 : w25.cell? ⟨go23, (x7_3 : Int).toNat * 9 + 3, none⟩ = some (.int .i64 ((rd_T61 x5_3 x7_3).f3)) := hcc23 3 _ rfl; have hx23_4 : w25.cell? ⟨go23, (x7_3 : Int).toNat * 9 + 4, none⟩ = some (.int .i64 ((rd_T61 x5_3 x7_3).f4)) := hcc23 4 _ rfl; have hx23_5 : w25.cell? ⟨go23, (x7_3 : Int).toNat * 9 + 5, none⟩ = some (.int .i64 ((rd_T61 x5_3 x7_3).f5)) := hcc23 5 _ rfl; have hx23_6 : w25.cell? ⟨go23, (x7_3 : Int).toNat * 9 + 6, none⟩ = some (.int .i64 ((rd_T61 x5_3 x7_3).f6)) := hcc23 6 _ rfl; have hx23_7 : w25.cell? ⟨go23, (x7_3 : Int).toNat * 9 + 7, none⟩ = some (.int .i64 ((rd_T61 x5_3 x7_3).f7)) := hcc23 7 _ rfl; have hx23_8 : w25.cell? ⟨go23, (x7_3 : Int).toNat * 9 + 8, none⟩ = some (.int .i64 ((rd_T61 x5_3 x7_3).f8)) := hcc23 8 _ rfl; have hf23_0 : w25.frozen? ⟨go23, (x7_3 : Int).toNat * 9, none⟩ = false := hfr23 0; have hf23_1 := hfr23 1; have hf23_2 := hfr23 2; have hf23_3 := hfr23 3; have hf23_4 := hfr23 4; have hf23_5 := hfr23 5; have hf23_6 := hfr23 6; have hf23_7 := hfr23 7; have hf23_8 := hfr23 8; clear hcl23 hcc23 hfr23 hM23; replace p23 := eq_true p23; replace q23 := eq_true q23; have HX26 := am_ (show Kd.R k61 61 w25 w.heap.size (fun _ => True) (.slice (some ⟨go23, 0, none⟩) x5_3.length co24) x5_3 from (Zo HO_5)); obtain ⟨ce26, hcl26, hM26, hcc26, hfr26⟩ := Kd.R_elem HX26.out z61 (x7_3 : Int) (of_decide_eq_true Zn) (by have h_ : (x7_3 : Int) < ((x5_3.length : Int) : Int) := of_decide_eq_true Zn; first | exact h_ | (have e_ := (Kd.R_reads' HO_5.out).1; omega) | simpa using h_); obtain rfl := k61_openM hM26; have HP26 := Kd.R_seg HX26.out (x7_3 : Int) (of_decide_eq_true Zn) (by have h_ : (x7_3 : Int) < ((x5_3.length : Int) : Int) := of_decide_eq_true Zn; first | exact h_ | (have e_ := (Kd.R_reads' HO_5.out).1; omega) | simpa using h_) (seg := [.string t1103, .int .i64 t1104, .int .i64 t1105, .int .i64 t1106, .int .i64 t1107, .int .i64 t1108, .int .i64 t1109, .int .i64 t1110, .int .i64 t1111]) (j := 0) hcl26 hcc26 (show 9 ≤ 9 from (by decide)) (x' := (⟨t1103, t1104, t1105, t1106, t1107, t1108, t1109, t1110, t1111⟩ : S61)) (k61_mkM _ _ _ (⟨t1103, t1104, t1105, t1106, t1107, t1108, t1109, t1110, t1111⟩ : S61) ) (fun _ hk => hk); have hx26_0 := hcc26 0 _ rfl; (try simp only [show (k61).sz = 9 from rfl, Nat.mul_one, Nat.add_zero] at hx26_0); have hf26_0 := hfr26 0; (try simp only [show (k61).sz = 9 from rfl, Nat.mul_one, Nat.add_zero] at hf26_0); have hx26_1 := hcc26 1 _ rfl; (try simp only [show (k61).sz = 9 from rfl, Nat.mul_one, Nat.add_zero] at hx26_1); have hf26_1 := hfr26 1; (try simp only [show (k61).sz = 9 from rfl, Nat.mul_one, Nat.add_zero] at hf26_1); have hx26_2 := hcc26 2 _ rfl; (try simp only [show (k61).sz = 9 from rfl, Nat.mul_one, Nat.add_zero] at hx26_2); have hf26_2 := hfr26 2; (try simp only [show (k61).sz = 9 from rfl, Nat.mul_one, Nat.add_zero] at hf26_2); have hx26_3 := hcc26 3 _ rfl; (try simp only [show (k61).sz = 9 from rfl, Nat.mul_one, Nat.add_zero] at hx26_3); have hf26_3 := hfr26 3; (try simp only [show (k61).sz = 9 from rfl, Nat.mul_one, Nat.add_zero] at hf26_3); have hx26_4 := hcc26 4 _ rfl; (try simp only [show (k61).sz = 9 from rfl, Nat.mul_one, Nat.add_zero] at hx26_4); have hf26_4 := hfr26 4; (try simp only [show (k61).sz = 9 from rfl, Nat.mul_one, Nat.add_zero] at hf26_4); have hx26_5 := hcc26 5 _ rfl; (try simp only [show (k61).sz = 9 from rfl, Nat.mul_one, Nat.add_zero] at hx26_5); have hf26_5 := hfr26 5; (try simp only [show (k61).sz = 9 from rfl, Nat.mul_one, Nat.add_zero] at hf26_5); have hx26_6 := hcc26 6 _ rfl; (try simp only [show (k61).sz = 9 from rfl, Nat.mul_one, Nat.add_zero] at hx26_6); have hf26_6 := hfr26 6; (try simp only [show (k61).sz = 9 from rfl, Nat.mul_one, Nat.add_zero] at hf26_6); have hx26_7 := hcc26 7 _ rfl; (try simp only [show (k61).sz = 9 from rfl, Nat.mul_one, Nat.add_zero] at hx26_7); have hf26_7 := hfr26 7; (try simp only [show (k61).sz = 9 from rfl, Nat.mul_one, Nat.add_zero] at hf26_7); have hx26_8 := hcc26 8 _ rfl; (try simp only [show (k61).sz = 9 from rfl, Nat.mul_one, Nat.add_zero] at hx26_8); have hf26_8 := hfr26 8; (try simp only [show (k61).sz = 9 from rfl, Nat.mul_one, Nat.add_zero] at hf26_8); clear hcl26 hcc26 hfr26 hM26) | ((with_reducible refine gate_store (t := 61) (p := 46) rfl ?_); refine store_event (t := 61) (p := 46) (v := ?vo_w27) (w1 := (((((((((w25.setCell ⟨go23, (x7_3 : Int).toNat * 9, none⟩ (.string t1103)).setCell ⟨go23, (x7_3 : Int).toNat * 9 + 1, none⟩ (.int .i64 t1104)).setCell ⟨go23, (x7_3 : Int).toNat * 9 + 2, none⟩ (.int .i64 t1105)).setCell ⟨go23, (x7_3 : Int).toNat * 9 + 3, none⟩ (.int .i64 t1106)).setCell ⟨go23, (x7_3 : Int).toNat * 9 + 4, none⟩ (.int .i64 t1107)).setCell ⟨go23, (x7_3 : Int).toNat * 9 + 5, none⟩ (.int .i64 t1108)).setCell ⟨go23, (x7_3 : Int).toNat * 9 + 6, none⟩ (.int .i64 t1109)).setCell ⟨go23, (x7_3 : Int).toNat * 9 + 7, none⟩ (.int .i64 t1110)).setCell ⟨go23, (x7_3 : Int).toNat * 9 + 8, none⟩ (.int .i64 t1111))) ?hg ?ho ?hn ?hr ?_; (case ho => rfl); (case hg => rfl); (case hn => rfl); (case hr => first | (go_simp; done) | (go_simp; rfl)); intro w27 hw; have hg : w25.grownBy w27 (some go23) := (by rw [hw]; exact HP26.2); have hp_ : Kd.R k61 61 w27 w.heap.size (fun _ => True) (.slice (some ⟨go23, 0, none⟩) x5_3.length co24) y1112 := (by rw [hw, Ny1112.out]; exact HP26.1); clear HP26; replace HO_5 := am_ (hp_); replace HB := am_ (((Zx GB23) : Below w.heap.size w w27)); clear hg hw hp_))
             go_roundg k3
             case measure => have := HJ2.out; have := HK2.out; have := HK3.out; omega
             case rel => exact ⟨(y1112), (wrap64 (x7_3 + 1)), Za, H', ⟨Zp⟩, ⟨(Zo HO_5)⟩, ⟨Zd⟩⟩
            ·rw [if_neg c22] at H
             exact absurd H (by simp)
           ·rw [if_neg c20] at H
            have c20b0 := decide_eq_false c20; clear c20
            by_cases c28 : 0 ≤ (l0.length : Int)
            ·rw [if_pos c28] at H
             have c28b0 := eq_true c28; have c28b1 := decide_eq_true c28; clear c28
             by_cases c29 : (l0.length : Int) ≤ (x5_3.length : Int)
             ·rw [if_pos c29] at H
              have c29b0 := eq_true c29; have c29b1 := decide_eq_true c29; clear c29; have HE_ := am_ (Option.some.inj H); clear H; obtain ⟨Ao30, co30, eo30⟩ := Kd.R_slice HO_5.out; subst eo30; have q31 : ((l0.length : Int) : Int) ≤ ((x5_3.length : Int) : Int) := of_decide_eq_true Zn; obtain ⟨i031, hi031, _, hsz31, _⟩ := info_parts info61; have hcut31 := cut_to (P := Try.prog) 32 61 .i64 Try.underlying32 hi031 Ao30 x5_3.length co30 (l0.length : Int) (of_decide_eq_true Zn) q31 (Kd.R_reads' HO_5.out).2.1; have hz_ : ((l0.length : Int) : Int).toNat = l0.length := Int.toNat_natCast _; rw [hz_] at hcut31; clear hi031 hsz31 hz_; have HL_ := am_ (show l0.length ≤ x5_3.length by omega); replace q31 := eq_true q31
              go_wp2
              go_ret
              exact ⟨_, rfl, (fun _ => ⟨_, _, rfl, (by rw [← HE_.out]; exact HL_.out), (Zv HO_5)⟩), Zd⟩
             ·rw [if_neg c29] at H
              exact absurd H (by simp)
            ·rw [if_neg c28] at H
             exact absurd H (by simp)
     ·rw [if_neg c9] at H
      exact absurd H (by simp)
    ·rw [if_neg c8] at H
     exact absurd H (by simp)
 
def T_intactArticleS : Bool × List (List Nat × List Nat) := (true, [([], []), ([0], [0]), ([], []), ([2], [2]), ([1, 3], [1, 3]), ([4], [4]), ([5], [5]), ([5], [5]), ([6, 7, 5], [5, 6, 7]), ([5], [5]), ([5], [5]), ([9, 10, 5], [5, 9, 10]), ([8, 11, 5, 5], [5, 8, 11]), ([5, 12], [5, 12]), ([13, 12, 0, 1, 2, 3, 4, 5, 6, 7, 8, 9, 10, 11, 12, 13], [13])])
def B_intactArticleS : List Nat := [0, 1, 0, 4, 15, 31, 63, 63, 255, 63, 63, 1599, 4095, 8191, 16383]
theorem tab_intactArticleS : rtab .any (opsOf Try.f51 2) = T_intactArticleS := by kernel_rfl
theorem bits_intactArticleS : waitsOk T_intactArticleS.2 B_intactArticleS = true := by kernel_rfl
set_option maxHeartbeats 8000000 in
set_option maxRecDepth 100000 in
theorem same_intactArticleS (k n : Nat) (A0 : Option Addr) (c0 : Nat) (A1 : Option Addr) (c1 : Nat) (L : List S61) (t : Int) (w : World) (hr0 : Kd.C k61 w A0 L.length L) (hc0 : L.length ≤ c0) (hr1 : Kd.C k61 w A1 L.length L) (hc1 : L.length ≤ c1)
    (ht : laws_roomBehind.f (n : Int) = some t) (hj : wrap64 ((n : Int) + t) = (L.length : Int)) (he : laws_eqArticleS.f k L L = some true) :
    Calls Try.prog 51 #[.slice A0 n c0, .slice A1 n c1] w fun e w' => e = .returned (.bool true) ∧ Below w.heap.size w w' := by
  have HR0 := am_ hr0; have HC0 := am_ hc0; clear hr0 hc0; have HR1 := am_ hr1; have HC1 := am_ hc1; clear hr1 hc1; have HB := am_ (Below.refl w.heap.size w); have A3 := am_ ht; have A10 := am_ he; clear ht he; obtain ⟨ji5, hji⟩ : ∃ j_ : Int, (L.length : Int) = j_ := ⟨_, rfl⟩; rw [hji] at hj; have hji5w : (IntKind.i64.wrap ((n : Int) + t)) = ji5 := (i64_w _).trans hj; have hji5 := hj; clear hj; obtain ⟨i012, hi012, _, hsz12, _⟩ := info_parts info61; have hcut12 := cut_cap (P := Try.prog) 32 61 .i64 Try.underlying32 hi012 A0 n c0 ji5 (by omega) (by have := HC0.out; omega); have hcut13 := cut_cap (P := Try.prog) 32 61 .i64 Try.underlying32 hi012 A1 n c1 ji5 (by omega) (by have := HC1.out; omega)
  have hL : ji5.toNat = L.length := by omega
  rw [hL] at hcut12 hcut13; clear hL hi012 hsz12 hji
  go_enter Try.func51, Try.ntmps51
  go_wp2_with (first | ((with_reducible refine gate_callee (f := 84) rfl ?_); refine gZ 10 Try.func84 #[.int .i64 (n : Int)] ?_; (with_reducible refine (laws_roomBehind.calls (n : Int) t _ A3.out).mono ?_); rintro e w' ⟨rfl, ⟨nd, rfl⟩⟩; refine ⟨_, rfl, ?_⟩))
  replace HB := am_ (below_drew1 (pw_below_drewN HB.out nd)); refine start_ (n := 15) (S := fun w' => True) (ds := []) (bT 15 0) Zi rfl rfl trivial (fun hHeld => ?_); refine with_tabW tab_intactArticleS bits_intactArticleS (fun HT_ HW_ => ?_); generalize (w.drewN nd).drew = w11 at HB hHeld ⊢; refine pure_ (i := 0) (N := some 12) (v := ?_) (a' := ?_) (bT 15 1) rfl rfl (any_of HT_.out Zi) (fun _ _ _ h => h) (Or.inl ⟨by rfl, ?_⟩) ?_ ?_; rotate_left
  · intro w'
    go_simp
    with_reducible rfl
  rotate_left
  · simp only [Act.put, List.setIfInBounds_toArray, List.set_cons_zero, List.set_cons_succ, i64_w, i32_w]
    rfl
  refine pure_ (i := 1) (N := some 13) (v := ?_) (a' := ?_) (bT 15 2) rfl rfl (any_of HT_.out Zi) (fun _ _ _ h => h) (Or.inl ⟨by rfl, ?_⟩) ?_ ?_; rotate_left
  · intro w'
    go_simp
    with_reducible rfl
  rotate_left
  · simp only [Act.put, List.setIfInBounds_toArray, List.set_cons_zero, List.set_cons_succ, i64_w, i32_w]
    rfl
  refine pure_ (i := 2) (N := some 14) (v := ?_) (a' := ?_) (bT 15 3) rfl rfl (any_of HT_.out Zi) (fun _ _ _ h => h) (Or.inl ⟨by rfl, ?_⟩) ?_ ?_; rotate_left
  · intro w'
    go_simp
    with_reducible rfl
  rotate_left
  · simp only [Act.put, List.setIfInBounds_toArray, List.set_cons_zero, List.set_cons_succ, i64_w, i32_w]
    rfl
  refine pure_ (i := 3) (N := some 15) (v := ?_) (a' := ?_) (bT 15 4) rfl rfl (any_of HT_.out Zi) (fun _ _ _ h => h) (Or.inl ⟨by rfl, ?_⟩) ?_ ?_; rotate_left
  · intro w'
    go_simp
    with_reducible rfl
  rotate_left
  · simp only [Act.put, List.setIfInBounds_toArray, List.set_cons_zero, List.set_cons_succ, i64_w, i32_w]
    rfl
  refine pure_ (i := 4) (N := some 16) (v := ?_) (a' := ?_) (bT 15 5) rfl rfl (any_of HT_.out Zi) (fun _ _ _ h => h) (Or.inl ⟨by rfl, ?_⟩) ?_ ?_; rotate_left
  · intro w'
    go_simp
    with_reducible rfl
  rotate_left
  · simp only [Act.put, List.setIfInBounds_toArray, List.set_cons_zero, List.set_cons_succ, i64_w, i32_w]
    rfl
  refine pure_ (i := 5) (N := some 17) (v := ?_) (a' := ?_) (bT 15 6) rfl rfl (any_of HT_.out Zi) (fun _ _ _ h => h) (Or.inl ⟨by rfl, ?_⟩) ?_ ?_; rotate_left
  · intro w'
    go_simp
    with_reducible rfl
  rotate_left
  · simp only [Act.put, List.setIfInBounds_toArray, List.set_cons_zero, List.set_cons_succ, i64_w, i32_w]
    rfl
  refine pure_ (i := 6) (N := some 18) (v := ?_) (a' := ?_) (bT 15 7) rfl rfl (any_of HT_.out Zi) (fun _ _ _ h => h) (Or.inl ⟨by rfl, ?_⟩) ?_ ?_; rotate_left
  · intro w'
    go_simp
    with_reducible rfl
  rotate_left
  · simp only [Act.put, List.setIfInBounds_toArray, List.set_cons_zero, List.set_cons_succ, i64_w, i32_w]
    rfl
  refine pure_ (i := 7) (N := some 19) (v := ?_) (a' := ?_) (bT 15 8) rfl rfl (any_of HT_.out Zi) (fun _ _ _ h => h) (Or.inl ⟨by rfl, ?_⟩) ?_ ?_; rotate_left
  · intro w'
    go_simp
    with_reducible rfl
  rotate_left
  · simp only [Act.put, List.setIfInBounds_toArray, List.set_cons_zero, List.set_cons_succ, i64_w, i32_w]
    rfl
  refine pure_ (i := 8) (N := some 20) (v := ?_) (a' := ?_) (bT 15 9) rfl rfl (any_of HT_.out Zi) (fun _ _ _ h => h) (Or.inl ⟨by rfl, ?_⟩) ?_ ?_; rotate_left
  · intro w'
    go_simp
    with_reducible rfl
  rotate_left
  · simp only [Act.put, List.setIfInBounds_toArray, List.set_cons_zero, List.set_cons_succ, i64_w, i32_w]
    rfl
  refine pure_ (i := 9) (N := some 21) (v := ?_) (a' := ?_) (bT 15 10) rfl rfl (any_of HT_.out Zi) (fun _ _ _ h => h) (Or.inl ⟨by rfl, ?_⟩) ?_ ?_; rotate_left
  · intro w'
    go_simp
    with_reducible rfl
  rotate_left
  · simp only [Act.put, List.setIfInBounds_toArray, List.set_cons_zero, List.set_cons_succ, i64_w, i32_w]
    rfl
  refine pure_ (i := 10) (N := some 22) (v := ?_) (a' := ?_) (bT 15 11) rfl rfl (any_of HT_.out Zi) (fun _ _ _ h => h) (Or.inl ⟨by rfl, ?_⟩) ?_ ?_; rotate_left
  · intro w'
    go_simp
    with_reducible rfl
  rotate_left
  · simp only [Act.put, List.setIfInBounds_toArray, List.set_cons_zero, List.set_cons_succ, i64_w, i32_w]
    rfl
  refine pure_ (i := 11) (N := some 23) (v := ?_) (a' := ?_) (bT 15 12) rfl rfl (any_of HT_.out Zi) (fun _ _ _ h => h) (Or.inl ⟨by rfl, ?_⟩) ?_ ?_; rotate_left
  · intro w'
    go_simp
    with_reducible rfl
  rotate_left
  · simp only [Act.put, List.setIfInBounds_toArray, List.set_cons_zero, List.set_cons_succ, i64_w, i32_w]
    rfl
  refine one_ (i := 12) (N := some 24) (bT 15 13) rfl rfl (one_of HT_.out Zi) (by decide) (fun K hK => ?_); refine goes_ Try.func92 Zi rfl #[.slice A0 L.length c0, .slice A1 L.length c1] (by rfl) rfl rfl (by (try simp only [List.map_toArray, List.map_cons, List.map_nil]); first | done | rfl) ?_
  with_reducible refine (laws_eqArticleS.calls k _ _ L _ _ L true _ (Kd.C_below HR0.out HB.out) HC0.out (Kd.C_below HR1.out HB.out) HC1.out A10.out).mono ?_
  rintro e w14 ⟨rfl, hb⟩; refine ⟨_, rfl, ?_⟩; replace HB := (bsZ HB.out hb); clear hb; refine hK.out _ _ trivial (fun hHeld => ?_); clear hK K; refine normZ 24 ?_; refine pure_ (i := 13) (N := some 25) (v := ?_) (a' := ?_) (bT 15 14) rfl rfl (any_of HT_.out Zi) (fun _ _ _ h => h) (Or.inl ⟨by rfl, ?_⟩) ?_ ?_; rotate_left
  · intro w'
    go_simp
    with_reducible rfl
  rotate_left
  · simp only [Act.put, List.setIfInBounds_toArray, List.set_cons_zero, List.set_cons_succ, i64_w, i32_w]
    rfl
  refine pure_ (i := 14) (N := some 4) (v := ?_) (a' := ?_) (bT 15 15) rfl rfl (any_of HT_.out Zi) (fun _ _ _ h => h) (Or.inl ⟨by rfl, ?_⟩) ?_ ?_; rotate_left
  · intro w'
    go_simp
    with_reducible rfl
  rotate_left
  · simp only [Act.put, List.setIfInBounds_toArray, List.set_cons_zero, List.set_cons_succ, i64_w, i32_w]
    rfl
  refine done_ (done_of HT_.out Zi) ?_
  try go_wp2
  go_ret
  exact ⟨rfl, HB.out⟩
theorem one99 : Try.prog.cellsOf 2 = 1 := by kernel_rfl
theorem ones99 : Try.prog.cellsOf 9 = 1 := by kernel_rfl
theorem size99 : Try.prog.cellsOf 99 = 9 := by kernel_rfl
def Pr99 (x : S99) : Prop := x.f0.size ≤ maxLen ∧ I64 x.f1 ∧ I64 x.f2 ∧ I64 x.f3 ∧ I64 x.f4 ∧ I64 x.f5 ∧ I64 x.f6 ∧ I64 x.f7 ∧ I64 x.f8
theorem open_S99 {H : Type} {enc : TypeId × Value → H} {W : World} {base : Nat} {sp : Nat → Bool} {held : Bool} {fuel : Nat} {cs : List Value} {y : DataW H × List MemPlace} (h : DataW.trod enc Try.prog W base sp held fuel 99 cs = some y) (w : World) : ∃ a : S99, k99.K w a cs ∧ Pr99 a := by
  obtain ⟨xs, n, _, rfl, hl, hlen, hf⟩ := DataW.trod_struct Try.underlying99 h; rw [size99] at hl; obtain ⟨v0, e0, _, w0⟩ := DataW.trod_string Try.underlying9 ((hf 0 _ rfl).trans (List.getElem?_eq_getElem Zw)); have g0 : cs[0]? = some (.string v0) := one_cell (by have z : List.take (Try.prog.cellsOf 9) (List.drop 0 cs) = [.string v0] := e0; rw [ones99] at z; exact z); obtain ⟨v1, e1, _, w1⟩ := DataW.trod_int Try.underlying2 ((hf 1 _ rfl).trans (List.getElem?_eq_getElem Zw)); have g1 : cs[1]? = some (.int .i64 v1) := one_cell (by have z : List.take (Try.prog.cellsOf 2) (List.drop 1 cs) = [.int .i64 v1] := e1; rw [one99] at z; exact z); obtain ⟨v2, e2, _, w2⟩ := DataW.trod_int Try.underlying2 ((hf 2 _ rfl).trans (List.getElem?_eq_getElem Zw)); have g2 : cs[2]? = some (.int .i64 v2) := one_cell (by have z : List.take (Try.prog.cellsOf 2) (List.drop 2 cs) = [.int .i64 v2] := e2; rw [one99] at z; exact z); obtain ⟨v3, e3, _, w3⟩ := DataW.trod_int Try.underlying2 ((hf 3 _ rfl).trans (List.getElem?_eq_getElem Zw)); have g3 : cs[3]? = some (.int .i64 v3) := one_cell (by have z : List.take (Try.prog.cellsOf 2) (List.drop 3 cs) = [.int .i64 v3] := e3; rw [one99] at z; exact z); obtain ⟨v4, e4, _, w4⟩ := DataW.trod_int Try.underlying2 ((hf 4 _ rfl).trans (List.getElem?_eq_getElem Zw)); have g4 : cs[4]? = some (.int .i64 v4) := one_cell (by have z : List.take (Try.prog.cellsOf 2) (List.drop 4 cs) = [.int .i64 v4] := e4; rw [one99] at z; exact z); obtain ⟨v5, e5, _, w5⟩ := DataW.trod_int Try.underlying2 ((hf 5 _ rfl).trans (List.getElem?_eq_getElem Zw)); have g5 : cs[5]? = some (.int .i64 v5) := one_cell (by have z : List.take (Try.prog.cellsOf 2) (List.drop 5 cs) = [.int .i64 v5] := e5; rw [one99] at z; exact z); obtain ⟨v6, e6, _, w6⟩ := DataW.trod_int Try.underlying2 ((hf 6 _ rfl).trans (List.getElem?_eq_getElem Zw)); have g6 : cs[6]? = some (.int .i64 v6) := one_cell (by have z : List.take (Try.prog.cellsOf 2) (List.drop 6 cs) = [.int .i64 v6] := e6; rw [one99] at z; exact z); obtain ⟨v7, e7, _, w7⟩ := DataW.trod_int Try.underlying2 ((hf 7 _ rfl).trans (List.getElem?_eq_getElem Zw)); have g7 : cs[7]? = some (.int .i64 v7) := one_cell (by have z : List.take (Try.prog.cellsOf 2) (List.drop 7 cs) = [.int .i64 v7] := e7; rw [one99] at z; exact z); obtain ⟨v8, e8, _, w8⟩ := DataW.trod_int Try.underlying2 ((hf 8 _ rfl).trans (List.getElem?_eq_getElem Zw)); have g8 : cs[8]? = some (.int .i64 v8) := one_cell (by have z : List.take (Try.prog.cellsOf 2) (List.drop 8 cs) = [.int .i64 v8] := e8; rw [one99] at z; exact z)
  have hcs : cs = [.string v0, .int .i64 v1, .int .i64 v2, .int .i64 v3, .int .i64 v4, .int .i64 v5, .int .i64 v6, .int .i64 v7, .int .i64 v8] := by
    apply List.ext_getElem?
    intro i
    match i with
    | 0 => exact g0
    | 1 => exact g1
    | 2 => exact g2
    | 3 => exact g3
    | 4 => exact g4
    | 5 => exact g5
    | 6 => exact g6
    | 7 => exact g7
    | 8 => exact g8
    | i + 9 => rw [List.getElem?_eq_none (by omega)]; rfl
  subst hcs; exact ⟨⟨v0, v1, v2, v3, v4, v5, v6, v7, v8⟩, k99_mk w _, w0, I64_of w1, I64_of w2, I64_of w3, I64_of w4, I64_of w5, I64_of w6, I64_of w7, I64_of w8⟩
end Go.Proofs.Ytmnnbmdfepogiaa.F
namespace Go.Proofs.Ytmnnbmdfepogiaa.F
open Go.RowKit Go.Proofs.YtmnnbmdfepogiaaW.PrintWords Go.Proofs.YtmnnbmdfepogiaaW.PrintLast Go.Proofs.YtmnnbmdfepogiaaW.PrintMore
attribute [local go_sem] max2_int min2_int max_two min_two max_three min_three max_four min_four
set_option linter.unusedVariables false
set_option linter.unusedSimpArgs false
def laws_szCue.f (a0_0 : Int) (a0_1 : Int) (a0_2 : ByteArray) (a0_3 : Int) (a1 : Int) : Option (Int) := if (wrap64 (a1 - (a0_2.size : Int))) < 0 then (some (-1)) else (some (wrap64 (a1 - (a0_2.size : Int))))
set_option maxHeartbeats 8000000 in
set_option maxRecDepth 100000 in
theorem laws_szCue.calls (a0_0 : Int) (a0_1 : Int) (a0_2 : ByteArray) (a0_3 : Int) (a1 : Int) (r : Int) (w : World) (h : laws_szCue.f a0_0 a0_1 a0_2 a0_3 a1 = some r) :
  Calls Try.prog 81 #[.agg #[.int .i64 a0_0, .int .i64 a0_1, .string a0_2, .int .i64 a0_3], .int .i64 a1] w fun e w' => e = .returned (.int .i64 r) ∧ Below w.heap.size w w' := by
 have hu101 := Try.underlying101; have HB := am_ (Below.refl w.heap.size w); have H : (if (wrap64 (a1 - (a0_2.size : Int))) < 0 then (some (-1)) else (some (wrap64 (a1 - (a0_2.size : Int))))) = some r := h; clear h
 by_cases c3 : (wrap64 (a1 - (a0_2.size : Int))) < 0
 ·rw [if_pos c3] at H
  have c3b0 := decide_eq_true c3; clear c3; obtain rfl := Option.some.inj H
  go_enter Try.func81, Try.ntmps81
  go_wp2_with (first | ((with_reducible refine gate_dst (N := 2) rfl ?_); refine boxZ 2 #[.int .i64 a0_0, .int .i64 a0_1, .string a0_2, .int .i64 a0_3] 101 ?_; intro gb1059 hg w4 hbox hb; replace BK1059 := am_ (hbox); replace GW1059 := am_ ((Zc : w.heap.size ≤ gb1059)); replace GE1059 := GW1059; replace HB := (bsZ Zd hb); clear hb hbox hg; refine ci4 BK1059 ?_; intros))
  go_ret
  exact ⟨Zj, (Zf GE1059)⟩
 ·rw [if_neg c3] at H
  have c3b0 := decide_eq_false c3; clear c3; obtain rfl := Option.some.inj H
  go_enter Try.func81, Try.ntmps81
  go_wp2_with (first | ((with_reducible refine gate_dst (N := 2) rfl ?_); refine boxZ 2 #[.int .i64 a0_0, .int .i64 a0_1, .string a0_2, .int .i64 a0_3] 101 ?_; intro gb1059 hg w6 hbox hb; replace BK1059 := am_ (hbox); replace GW1059 := am_ ((Zc : w.heap.size ≤ gb1059)); replace GE1059 := GW1059; replace HB := (bsZ Zd hb); clear hb hbox hg; refine ci4 BK1059 ?_; intros))
  go_ret
  exact ⟨Zj, (Zf GE1059)⟩
 /-! ### laws_szCueS: function 42 -/
def laws_szCueS.l0 : Nat → List (S101) → Int → Int → Option (Int)
 | 0, _, _, _ => none
 | k + 1, x0, x1, x5 => if x5 < (x0.length : Int) then (if 0 ≤ x5 then ((laws_szCue.f ((rd_T101 x0 x5).f0) ((rd_T101 x0 x5).f1) ((rd_T101 x0 x5).f2) ((rd_T101 x0 x5).f3) x1).bind fun t1061 => (if t1061 < 0 then (some (-1)) else (laws_szCueS.l0 k x0 t1061 (wrap64 (x5 + 1))))) else (none)) else (some x1)
def laws_szCueS.f (k : Nat) (l0 : List (S101)) (a1 : Int) : Option (Int) := if (wrap64 (a1 - (l0.length : Int))) < 0 then (some (-1)) else (laws_szCueS.l0 k l0 (wrap64 (a1 - (l0.length : Int))) 0)
set_option maxHeartbeats 8000000 in
set_option maxRecDepth 100000 in
theorem laws_szCueS.calls (k : Nat) (A0 : Option Addr) (c0 : Nat) (l0 : List (S101)) (a1 : Int) (r : Int) (w : World) (hr0 : Kd.C k101 w A0 l0.length l0) (hc0 : l0.length ≤ c0) (h : laws_szCueS.f k l0 a1 = some r) :
  Calls Try.prog 42 #[.slice A0 l0.length c0, .int .i64 a1] w fun e w' => e = .returned (.int .i64 r) ∧ Below w.heap.size w w' := by
 have hu101 := Try.underlying101; have HR0 := am_ hr0; have HC0 := am_ hc0; clear hr0 hc0; have HB := am_ (Below.refl w.heap.size w); have H : (if (wrap64 (a1 - (l0.length : Int))) < 0 then (some (-1)) else (laws_szCueS.l0 k l0 (wrap64 (a1 - (l0.length : Int))) 0)) = some r := h; clear h
 by_cases c3 : (wrap64 (a1 - (l0.length : Int))) < 0
 ·rw [if_pos c3] at H
  have c3b0 := decide_eq_true c3; clear c3; obtain rfl := Option.some.inj H
  go_enter Try.func42, Try.ntmps42
  go_wp2
  go_ret
  exact ⟨Zj, Zd⟩
 ·rw [if_neg c3] at H
  have c3b0 := decide_eq_false c3; clear c3; have H' := am_ H; clear H
  go_enter Try.func42, Try.ntmps42
  go_wp2
  go_loopg [1, 5] k (fun kq v1 v5 w' => ∃ (x1_1 : Int) (x5_1 : Int), v1 = .int .i64 x1_1 ∧ v5 = .int .i64 x5_1 ∧ Aside0 (laws_szCueS.l0 kq l0 x1_1 x5_1 = some r) ∧ Aside0 (kq ≤ k) ∧ Aside0 (Below w.heap.size w w'))
  case atStart => exact ⟨(wrap64 (a1 - (l0.length : Int))), (0), Za, Za, H', ⟨Nat.le_refl _⟩, ⟨Zd⟩⟩
  case round =>
   clear H'
   try clear p2
   try clear c3
   try clear c3b0
   obtain ⟨x1_1, x5_1, rfl, rfl, HA, HK1, HB⟩ := hrel
   cases gk with
   | zero => exact absurd HA.out (by simp [laws_szCueS.l0])
   | succ k1 =>
    have H := HA.out; clear HA; simp only [laws_szCueS.l0] at H
    by_cases c4 : x5_1 < (l0.length : Int)
    ·rw [if_pos c4] at H
     have c4b0 := decide_eq_true c4; clear c4
     by_cases c5 : 0 ≤ x5_1
     ·rw [if_pos c5] at H
      have c5b0 := decide_eq_true c5; clear c5; replace H := Option.bind_eq_some_iff.mp H; obtain ⟨t1061, A60, H⟩ := H; have A6 := am_ A60; clear A60; have HS_ := am_ H; clear H; have p1060 : 0 ≤ (x5_1 : Int) := of_decide_eq_true Zn; have q1060 : x5_1 < (l0.length : Int) := of_decide_eq_true Zn; obtain ⟨ad1060, e1060, hx1060_0, hx1060_1, hx1060_2, hx1060_3⟩ := at_T101 HR0.out x5_1 p1060 q1060
      cases e1060
      replace hx1060_0 := cbH HB hx1060_0; replace hx1060_1 := cbH HB hx1060_1; replace hx1060_2 := cbH HB hx1060_2; replace hx1060_3 := cbH HB hx1060_3; replace p1060 := eq_true p1060; replace q1060 := eq_true q1060
      go_wp2_with (first | ((with_reducible refine gate_callee (f := 81) rfl ?_); refine gZ 23 Try.func81 #[.agg #[.int .i64 ((rd_T101 l0 x5_1).f0), .int .i64 ((rd_T101 l0 x5_1).f1), .string ((rd_T101 l0 x5_1).f2), .int .i64 ((rd_T101 l0 x5_1).f3)], .int .i64 x1_1] ?_; (with_reducible refine (laws_szCue.calls ((rd_T101 l0 x5_1).f0) ((rd_T101 l0 x5_1).f1) ((rd_T101 l0 x5_1).f2) ((rd_T101 l0 x5_1).f3) x1_1 t1061 _ A6.out).mono ?_); rintro e w8 ⟨rfl, hb⟩; refine ⟨_, rfl, ?_⟩; replace HB := (bsZ Zd hb); clear hb; refine ?roundEnd))
      case roundEnd =>
       by_cases c7 : t1061 < 0
       ·have H := HS_.out
        clear HS_; rw [if_pos c7] at H; have c7b0 := decide_eq_true c7; clear c7; obtain rfl := Option.some.inj H
        go_wp2_with (first | fail)
        go_ret
        exact ⟨Zj, Zd⟩
       ·have H := HS_.out
        clear HS_; rw [if_neg c7] at H; have c7b0 := decide_eq_false c7; clear c7; have H' := am_ H; clear H
        go_wp2_with (first | fail)
        go_roundg k1
        case measure => have := HK1.out; omega
        case rel => exact ⟨(t1061), (wrap64 (x5_1 + 1)), Za, Za, H', ⟨Zs⟩, ⟨Zd⟩⟩
     ·rw [if_neg c5] at H
      exact absurd H (by simp)
    ·rw [if_neg c4] at H
     have c4b0 := decide_eq_false c4; clear c4; obtain rfl := Option.some.inj H
     go_wp2
     go_ret
     exact ⟨Zj, Zd⟩
 /-! ### laws_toCue: function 89 -/
def laws_toCue.f (a0_0 : Int) (a0_1 : Int) (a0_2 : ByteArray) (a0_3 : Int) : Option (Int × Int × ByteArray × Int) := some (a0_0, a0_1, a0_2, a0_3)
set_option maxHeartbeats 8000000 in
set_option maxRecDepth 100000 in
theorem laws_toCue.calls (a0_0 : Int) (a0_1 : Int) (a0_2 : ByteArray) (a0_3 : Int) (r1 : Int) (r2 : Int) (r3 : ByteArray) (r4 : Int) (w : World) (h : laws_toCue.f a0_0 a0_1 a0_2 a0_3 = some (r1, r2, r3, r4)) :
  Calls Try.prog 89 #[.agg #[.int .i64 a0_0, .int .i64 a0_1, .string a0_2, .int .i64 a0_3]] w fun e w' => e = .returned (.agg #[.int .i64 r1, .int .i64 r2, .string r3, .int .i64 r4]) ∧ Below w.heap.size w w' := by
 have hu101 := Try.underlying101; have hu58 := Try.underlying58; have HB := am_ (Below.refl w.heap.size w); have H : (some (a0_0, a0_1, a0_2, a0_3)) = some (r1, r2, r3, r4) := h; clear h; simp only [Option.some.injEq, Prod.mk.injEq] at H; obtain ⟨rfl, rfl, rfl, rfl⟩ := H
 go_enter Try.func89, Try.ntmps89
 go_wp2_with (first | ((with_reducible refine gate_dst (N := 1) rfl ?_); refine boxZ 1 #[.int .i64 a0_0, .int .i64 a0_1, .string a0_2, .int .i64 a0_3] 101 ?_; intro gb1116 hg w2 hbox hb; replace BK1116 := am_ (hbox); replace GW1116 := am_ ((Zc : w.heap.size ≤ gb1116)); replace GE1116 := GW1116; replace HB := (bsZ Zd hb); clear hb hbox hg) | ((with_reducible refine gate_dst (N := 2) rfl ?_); refine boxZ 2 #[.int .i64 0, .int .i64 0, .string (⟨#[]⟩ : ByteArray), .int .i64 0] 58 ?_; intro gb1117 hg w3 hbox hb; replace BK1117 := am_ (hbox); replace GW1117 := am_ (((Ze GE1116) : w.heap.size ≤ gb1117)); replace GE1117 := GW1117; replace HB := (bsZ (Zf GE1116) hb); replace NB1116_1117 := am_ ((by rw [hg]; exact Nat.ne_of_lt (blk_lt (g := gb1116) (b0Z BK1116)) : gb1116 ≠ gb1117)); replace NB1117_1116 := am_ ((by rw [hg]; exact Nat.ne_of_gt (blk_lt (g := gb1116) (b0Z BK1116)) : gb1117 ≠ gb1116)); replace BK1116 := (bkZ BK1116 hb); clear hb hbox hg) | ((with_reducible refine gate_dst (N := 3) rfl ?_); refine boxZ 3 #[.int .i64 0, .int .i64 0, .string (⟨#[]⟩ : ByteArray), .int .i64 0] 58 ?_; intro gb1118 hg w4 hbox hb; replace BK1118 := am_ (hbox); replace GW1118 := am_ (((Zg GE1116 GE1117) : w.heap.size ≤ gb1118)); replace GE1118 := GW1118; replace HB := (bsZ (Zh GE1116 GE1117) hb); replace NB1116_1118 := am_ ((by rw [hg]; exact Nat.ne_of_lt (blk_lt (g := gb1116) (b0Z BK1116)) : gb1116 ≠ gb1118)); replace NB1118_1116 := am_ ((by rw [hg]; exact Nat.ne_of_gt (blk_lt (g := gb1116) (b0Z BK1116)) : gb1118 ≠ gb1116)); replace BK1116 := (bkZ BK1116 hb); replace NB1117_1118 := am_ ((by rw [hg]; exact Nat.ne_of_lt (blk_lt (g := gb1117) (b0Z BK1117)) : gb1117 ≠ gb1118)); replace NB1118_1117 := am_ ((by rw [hg]; exact Nat.ne_of_gt (blk_lt (g := gb1117) (b0Z BK1117)) : gb1118 ≠ gb1117)); replace BK1117 := (bkZ BK1117 hb); clear hb hbox hg; have hnb5 := NB1116_1117.out; have hnc5 := NB1117_1116.out; have hnb6 := NB1116_1118.out; have hnc6 := NB1118_1116.out; refine ci4 BK1116 ?_; intros; have hnb8 := NB1118_1117.out; have hnc8 := NB1117_1118.out; refine ci4 BK1118 ?_; intros; refine ci4 BK1117 ?_; intros))
 refine bodyPost_ret (results_cell_row rfl _ _ gb1117 58 #[.int .i64 a0_0, .int .i64 a0_1, .string a0_2, .int .i64 a0_3] (0, 0) _ rfl (bmZ BK1117 NB1117_1118) Try.underlying58 rfl Zi) rfl ?_; exact ⟨Zj, (Zk GE1116 GE1117 GE1118)⟩
 /-! ### laws_fillerCue: function 90 -/
def laws_fillerCue.f  : Option (Int × Int × ByteArray × Int) := some ((-7000000000000000101), (-7000000000000000101), (⟨#[126, 115, 112, 97, 114, 101, 126]⟩ : ByteArray), (-7000000000000000101))
set_option maxHeartbeats 8000000 in
set_option maxRecDepth 100000 in
theorem laws_fillerCue.calls  (r1 : Int) (r2 : Int) (r3 : ByteArray) (r4 : Int) (w : World) (h : laws_fillerCue.f  = some (r1, r2, r3, r4)) :
  Calls Try.prog 90 #[] w fun e w' => e = .returned (.agg #[.int .i64 r1, .int .i64 r2, .string r3, .int .i64 r4]) ∧ Below w.heap.size w w' := by
 have hu58 := Try.underlying58; have HB := am_ (Below.refl w.heap.size w); have H : (some ((-7000000000000000101), (-7000000000000000101), (⟨#[126, 115, 112, 97, 114, 101, 126]⟩ : ByteArray), (-7000000000000000101))) = some (r1, r2, r3, r4) := h; clear h; simp only [Option.some.injEq, Prod.mk.injEq] at H; obtain ⟨rfl, rfl, rfl, rfl⟩ := H
 go_enter Try.func90, Try.ntmps90
 go_wp2_with (first | ((with_reducible refine gate_dst (N := 0) rfl ?_); refine boxZ 0 #[.int .i64 0, .int .i64 0, .string (⟨#[]⟩ : ByteArray), .int .i64 0] 58 ?_; intro gb1119 hg w1 hbox hb; replace BK1119 := am_ (hbox); replace GW1119 := am_ ((Zc : w.heap.size ≤ gb1119)); replace GE1119 := GW1119; replace HB := (bsZ Zd hb); clear hb hbox hg; refine ci4 BK1119 ?_; intros))
 refine bodyPost_ret (results_cell_row rfl _ _ gb1119 58 #[.int .i64 (-7000000000000000101), .int .i64 (-7000000000000000101), .string (⟨#[126, 115, 112, 97, 114, 101, 126]⟩ : ByteArray), .int .i64 (-7000000000000000101)] (0, 0) _ rfl (bpZ BK1119) Try.underlying58 rfl Zi) rfl ?_; exact ⟨Zj, (Zf GE1119)⟩
 /-! ### laws_toCueS: function 48 -/
 mutual
def laws_toCueS.j0 : Nat → List (S101) → Bool → Option ((List (S58)))
 | 0, _, _ => none
 | k + 1, x0, x13 => if x13 = true then (some ([] : List (S58))) else ((laws_roomBehind.f (x0.length : Int)).bind fun t1120 => (if 0 ≤ (wrap64 ((x0.length : Int) + t1120)) then (if (wrap64 ((x0.length : Int) + t1120) : Int).toNat ≤ 7036874417766 then (laws_toCueS.l0 k x0 (List.replicate (wrap64 ((x0.length : Int) + t1120) : Int).toNat z58) 0) else (none)) else (none)))
def laws_toCueS.l0 : Nat → List (S101) → List (S58) → Int → Option ((List (S58)))
 | 0, _, _, _ => none
 | k + 1, x0, x5, x6 => if x6 < (x0.length : Int) then (if 0 ≤ x6 then ((laws_toCue.f ((rd_T101 x0 x6).f0) ((rd_T101 x0 x6).f1) ((rd_T101 x0 x6).f2) ((rd_T101 x0 x6).f3)).bind fun bt1125 => (if x6 < (x5.length : Int) then (laws_toCueS.l0 k x0 (x5.set (x6 : Int).toNat (⟨bt1125.1, bt1125.2.1, bt1125.2.2.1, bt1125.2.2.2⟩ : S58)) (wrap64 (x6 + 1))) else (none))) else (none)) else (laws_toCueS.l1 k x0 x5 (x0.length : Int))
def laws_toCueS.l1 : Nat → List (S101) → List (S58) → Int → Option ((List (S58)))
 | 0, _, _, _ => none
 | k + 1, x0, x5, x7 => if x7 < (x5.length : Int) then ((laws_fillerCue.f).bind fun bt1130 => (if 0 ≤ x7 then (laws_toCueS.l1 k x0 (x5.set (x7 : Int).toNat (⟨bt1130.1, bt1130.2.1, bt1130.2.2.1, bt1130.2.2.2⟩ : S58)) (wrap64 (x7 + 1))) else (none))) else (if 0 ≤ (x0.length : Int) then (if (x0.length : Int) ≤ (x5.length : Int) then (some (x5.take ((x0.length : Int) : Int).toNat)) else (none)) else (none))
end
def laws_toCueS.f (k : Nat) (l0 : List (S101)) (a1 : Bool) : Option ((List (S58))) := if a1 = true then (laws_toCueS.j0 k l0 ((l0.length : Int) == 0)) else (laws_toCueS.j0 k l0 false)
set_option maxHeartbeats 8000000 in
set_option maxRecDepth 100000 in
theorem laws_toCueS.calls (k : Nat) (A0 : Option Addr) (c0 : Nat) (l0 : List (S101)) (a1 : Bool) (r : List (S58)) (w : World) (hr0 : Kd.C k101 w A0 l0.length l0) (hc0 : l0.length ≤ c0) (h : laws_toCueS.f k l0 a1 = some r) :
  Calls Try.prog 48 #[.slice A0 l0.length c0, .bool a1] w fun e w' => ∃ v0_ : Value, e = .returned (v0_) ∧ Kd.R k58 58 w' w.heap.size (fun _ => True) v0_ r ∧ Below w.heap.size w w' := by
 have hu101 := Try.underlying101; have hu58 := Try.underlying58; have HR0 := am_ hr0; have HC0 := am_ hc0; clear hr0 hc0; have HB := am_ (Below.refl w.heap.size w); have H : (if a1 = true then (laws_toCueS.j0 k l0 ((l0.length : Int) == 0)) else (laws_toCueS.j0 k l0 false)) = some r := h; clear h; have HC3 := am_ H; clear H
 go_enter Try.func48, Try.ntmps48
 go_upto_region 1 with (fail)
 go_cut [13] (fun v13 wc => ∃ (kq : Nat) (x13_2 : Bool), v13 = .bool x13_2 ∧ Aside0 (laws_toCueS.j0 kq l0 x13_2 = some r) ∧ Aside0 (kq ≤ k) ∧ Aside0 (Below w.heap.size w wc))
 case first =>
  have H := HC3.out; clear HC3
  by_cases c4 : a1 = true
  ·subst c4
   rw [if_pos rfl] at H; have H' := am_ H; clear H
   go_wp2
   go_meet
   case rel => exact ⟨_, (((l0.length : Int) == 0)), Za, H', ⟨Zl⟩, ⟨Zd⟩⟩
  ·replace c4 := Bool.eq_false_iff.mpr c4
   subst c4; rw [if_neg (show ¬ (false = true) by decide)] at H; have H' := am_ H; clear H
   go_wp2
   go_meet
   case rel => exact ⟨_, (false), Za, H', ⟨Zl⟩, ⟨Zd⟩⟩
 case rest =>
  clear HC3
  try clear p2
  try clear c4
  obtain ⟨kq, x13_2, rfl, HA, HJ2, HB⟩ := hcut
  cases kq with
  | zero => exact absurd HA.out (by simp [laws_toCueS.j0])
  | succ kj2 =>
   have H := HA.out; clear HA; simp only [laws_toCueS.j0] at H
   by_cases c5 : x13_2 = true
   ·subst c5
    rw [if_pos rfl] at H; obtain rfl := Option.some.inj H
    go_wp2
    go_ret
    exact ⟨_, Zj, Zm, Zd⟩
   ·replace c5 := Bool.eq_false_iff.mpr c5
    subst c5; rw [if_neg (show ¬ (false = true) by decide)] at H; replace H := Option.bind_eq_some_iff.mp H; obtain ⟨t1120, A60, H⟩ := H; have A6 := am_ A60; clear A60; obtain ⟨ji7, hji7⟩ : ∃ j_ : Int, (wrap64 ((l0.length : Int) + t1120)) = j_ := ⟨_, rfl⟩
    replace H : (if 0 ≤ (ji7) then (if (ji7 : Int).toNat ≤ 7036874417766 then (laws_toCueS.l0 kj2 l0 (List.replicate (ji7 : Int).toNat z58) 0) else (none)) else (none)) = some r := by first | (rw [hji7] at H; exact H) | (simp only [hji7] at H ⊢; exact H)
    (try rw [hji7] at A6)
    have hji7w : (IntKind.i64.wrap ((l0.length : Int) + t1120)) = ji7 := (i64_w _).trans hji7
    by_cases c8 : 0 ≤ (ji7)
    ·rw [if_pos c8] at H
     have c8b0 := eq_true c8; have c8b1 := decide_eq_true c8; clear c8
     by_cases c9 : (ji7 : Int).toNat ≤ 7036874417766
     ·rw [if_pos c9] at H
      have c9b0 := eq_true c9; have c9b1 := decide_eq_true c9; clear c9; obtain ⟨y1121, hy1121⟩ : ∃ y_ : List (S58), y_ = (List.replicate (ji7 : Int).toNat z58) := ⟨_, rfl⟩
      (first | (rw [← hy1121] at H; with_reducible replace H := bindZ H) | rw [← hy1121] at H | skip)
      have Ny1121 := am_ hy1121; clear hy1121; have H' := am_ H; clear H
      go_wp2_with (first | ((with_reducible refine gate_callee (f := 84) rfl ?_); refine gZ 18 Try.func84 #[.int .i64 (l0.length : Int)] ?_; (with_reducible refine (laws_roomBehind.calls (l0.length : Int) t1120 _ A6.out).mono ?_); rintro e w' ⟨rfl, ⟨nd, rfl⟩⟩; refine ⟨_, rfl, ?_⟩) | ((with_reducible refine gate_dst (N := 20) rfl ?_); (try (refine gate_guard (by rfl) ?_; dsimp only)); refine Kd.R_make k58 _ 58 rfl (N := 20) rfl 33 _ _ rfl ji7 rfl rfl Try.underlying33 (.agg #[(.int .i64 0), (.int .i64 0), (.string ⟨#[]⟩), (.int .i64 0)]) 40 info58 rfl (by decide) (by omega) z58 (ok := fun _ => True) (okp := fun _ => True) (k58_mkM _ _ _ z58 ) (fun _ hk => hk) trivial (of_decide_eq_true Zn) (Nat.le_trans (Nat.mul_le_mul_right _ (of_decide_eq_true Zn : ji7.toNat ≤ 7036874417766)) (by omega)) (Below.refl _ _) (Nat.le_refl _) ?_; intro v1122 w10 ho11 hb hg_ hnew_; clear hg_ hnew_; (first | rw [← Ny1121.out] at ho11 | (simp only [Int.reduceToNat] at ho11; rw [← Ny1121.out] at ho11)); replace HO1123 := am_ (Kd.R_lower ho11 (below_size Zd)); replace HB := (bsZ Zd hb); clear hb ho11))
      go_loopg [6] kj2 (fun kq v6 w' => ∃ (x5_2 : List (S58)) (x6_2 : Int), v6 = .int .i64 x6_2 ∧ Aside0 (laws_toCueS.l0 kq l0 x5_2 x6_2 = some r) ∧ Aside0 (kq ≤ kj2) ∧ Aside0 (Kd.R k58 58 w' w.heap.size (fun _ => True) v1122 x5_2) ∧ Aside0 (Below w.heap.size w w'))
      case atStart => exact ⟨(y1121), (0), Za, H', ⟨Nat.le_refl _⟩, ⟨(Zo HO1123)⟩, ⟨Zd⟩⟩
      case round =>
       clear H'
       try clear p2
       try clear c4
       try clear c5
       try clear p6
       try clear c8
       try clear c8b0
       try clear c8b1
       try clear c9
       try clear c9b0
       try clear c9b1
       try clear p2
       obtain ⟨x5_2, x6_2, rfl, HA, HK2, HO_5, HB⟩ := hrel
       cases gk with
       | zero => exact absurd HA.out (by simp [laws_toCueS.l0])
       | succ k2 =>
        have H := HA.out; clear HA; simp only [laws_toCueS.l0] at H
        by_cases c12 : x6_2 < (l0.length : Int)
        ·rw [if_pos c12] at H
         have c12b0 := decide_eq_true c12; clear c12
         by_cases c13 : 0 ≤ x6_2
         ·rw [if_pos c13] at H
          have c13b0 := decide_eq_true c13; clear c13; replace H := Option.bind_eq_some_iff.mp H; obtain ⟨⟨t1125, t1126, t1127, t1128⟩, A140, H⟩ := H
          dsimp only at H
          have A14 := am_ A140; clear A140
          by_cases c15 : x6_2 < (x5_2.length : Int)
          ·rw [if_pos c15] at H
           have c15b0 := decide_eq_true c15; clear c15; obtain ⟨y1129, hy1129⟩ : ∃ y_ : List (S58), y_ = (x5_2.set (x6_2 : Int).toNat (⟨t1125, t1126, t1127, t1128⟩ : S58)) := ⟨_, rfl⟩
           (first | (rw [← hy1129] at H; with_reducible replace H := bindZ H) | rw [← hy1129] at H | skip)
           have Ny1129 := am_ hy1129; clear hy1129; have H' := am_ H; clear H; have p1124 : 0 ≤ (x6_2 : Int) := of_decide_eq_true Zn; have q1124 : x6_2 < (l0.length : Int) := of_decide_eq_true Zn; obtain ⟨ad1124, e1124, hx1124_0, hx1124_1, hx1124_2, hx1124_3⟩ := at_T101 HR0.out x6_2 p1124 q1124
           cases e1124
           replace hx1124_0 := cbH HB hx1124_0; replace hx1124_1 := cbH HB hx1124_1; replace hx1124_2 := cbH HB hx1124_2; replace hx1124_3 := cbH HB hx1124_3; replace p1124 := eq_true p1124; replace q1124 := eq_true q1124
           go_wp2_with (first | ((with_reducible refine gate_callee (f := 89) rfl ?_); refine gZ 33 Try.func89 #[.agg #[.int .i64 ((rd_T101 l0 x6_2).f0), .int .i64 ((rd_T101 l0 x6_2).f1), .string ((rd_T101 l0 x6_2).f2), .int .i64 ((rd_T101 l0 x6_2).f3)]] ?_; (with_reducible refine (laws_toCue.calls ((rd_T101 l0 x6_2).f0) ((rd_T101 l0 x6_2).f1) ((rd_T101 l0 x6_2).f2) ((rd_T101 l0 x6_2).f3) t1125 t1126 t1127 t1128 _ A14.out).mono ?_); rintro e w17 ⟨rfl, hb⟩; refine ⟨_, rfl, ?_⟩; replace HO_5 := (hbZ HO_5 hb); replace HB := (bsZ Zd hb); clear hb; have p16 : 0 ≤ (x6_2 : Int) := of_decide_eq_true Zn; have q16 : (x6_2 : Int) < ((x5_2.length : Int) : Int) := of_decide_eq_true Zn; obtain ⟨go16, co16, eo16, gb16, gl16, cl16, HG16⟩ := Kd.R_form HO_5.out (by omega); (first | cases eo16 | (injection eo16 with ea_ en_ ec_; (first | subst ea_ | (injection ea_ with ea_; subst ea_)); subst ec_; clear en_)); have GB16 := am_ gb16; have GG16 := am_ HG16; clear gb16 gl16 HG16; obtain ⟨ce16, hcl16, hM16, hcc16, hfr16⟩ := Kd.R_elem HO_5.out z58 (x6_2 : Int) p16 q16; obtain rfl := k58_openM hM16; have hx16_0 : w17.cell? ⟨go16, (x6_2 : Int).toNat * 4, none⟩ = some (.int .i64 ((rd_T58 x5_2 x6_2).f0)) := hcc16 0 _ rfl; have hx16_1 : w17.cell? ⟨go16, (x6_2 : Int).toNat * 4 + 1, none⟩ = some (.int .i64 ((rd_T58 x5_2 x6_2).f1)) := hcc16 1 _ rfl; have hx16_2 : w17.cell? ⟨go16, (x6_2 : Int).toNat * 4 + 2, none⟩ = some (.string ((rd_T58 x5_2 x6_2).f2)) := hcc16 2 _ rfl; have hx16_3 : w17.cell? ⟨go16, (x6_2 : Int).toNat * 4 + 3, none⟩ = some (.int .i64 ((rd_T58 x5_2 x6_2).f3)) := hcc16 3 _ rfl; have hf16_0 : w17.frozen? ⟨go16, (x6_2 : Int).toNat * 4, none⟩ = false := hfr16 0; have hf16_1 := hfr16 1; have hf16_2 := hfr16 2; have hf16_3 := hfr16 3; clear hcl16 hcc16 hfr16 hM16; replace p16 := eq_true p16; replace q16 := eq_true q16; have HX18 := am_ (show Kd.R k58 58 w17 w.heap.size (fun _ => True) (.slice (some ⟨go16, 0, none⟩) x5_2.length co16) x5_2 from (Zo HO_5)); obtain ⟨ce18, hcl18, hM18, hcc18, hfr18⟩ := Kd.R_elem HX18.out z58 (x6_2 : Int) (of_decide_eq_true Zn) (by have h_ : (x6_2 : Int) < ((x5_2.length : Int) : Int) := of_decide_eq_true Zn; first | exact h_ | (have e_ := (Kd.R_reads' HO_5.out).1; omega) | simpa using h_); obtain rfl := k58_openM hM18; have HP18 := Kd.R_seg HX18.out (x6_2 : Int) (of_decide_eq_true Zn) (by have h_ : (x6_2 : Int) < ((x5_2.length : Int) : Int) := of_decide_eq_true Zn; first | exact h_ | (have e_ := (Kd.R_reads' HO_5.out).1; omega) | simpa using h_) (seg := [.int .i64 t1125, .int .i64 t1126, .string t1127, .int .i64 t1128]) (j := 0) hcl18 hcc18 (show 4 ≤ 4 from (by decide)) (x' := (⟨t1125, t1126, t1127, t1128⟩ : S58)) (k58_mkM _ _ _ (⟨t1125, t1126, t1127, t1128⟩ : S58) ) (fun _ hk => hk); have hx18_0 := hcc18 0 _ rfl; (try simp only [show (k58).sz = 4 from rfl, Nat.mul_one, Nat.add_zero] at hx18_0); have hf18_0 := hfr18 0; (try simp only [show (k58).sz = 4 from rfl, Nat.mul_one, Nat.add_zero] at hf18_0); have hx18_1 := hcc18 1 _ rfl; (try simp only [show (k58).sz = 4 from rfl, Nat.mul_one, Nat.add_zero] at hx18_1); have hf18_1 := hfr18 1; (try simp only [show (k58).sz = 4 from rfl, Nat.mul_one, Nat.add_zero] at hf18_1); have hx18_2 := hcc18 2 _ rfl; (try simp only [show (k58).sz = 4 from rfl, Nat.mul_one, Nat.add_zero] at hx18_2); have hf18_2 := hfr18 2; (try simp only [show (k58).sz = 4 from rfl, Nat.mul_one, Nat.add_zero] at hf18_2); have hx18_3 := hcc18 3 _ rfl; (try simp only [show (k58).sz = 4 from rfl, Nat.mul_one, Nat.add_zero] at hx18_3); have hf18_3 := hfr18 3; (try simp only [show (k58).sz = 4 from rfl, Nat.mul_one, Nat.add_zero] at hf18_3); clear hcl18 hcc18 hfr18 hM18) | ((with_reducible refine gate_store (t := 58) (p := 34) rfl ?_); refine store_event (t := 58) (p := 34) (v := ?vo_w19) (w1 := ((((w17.setCell ⟨go16, (x6_2 : Int).toNat * 4, none⟩ (.int .i64 t1125)).setCell ⟨go16, (x6_2 : Int).toNat * 4 + 1, none⟩ (.int .i64 t1126)).setCell ⟨go16, (x6_2 : Int).toNat * 4 + 2, none⟩ (.string t1127)).setCell ⟨go16, (x6_2 : Int).toNat * 4 + 3, none⟩ (.int .i64 t1128))) ?hg ?ho ?hn ?hr ?_; (case ho => rfl); (case hg => rfl); (case hn => rfl); (case hr => first | (go_simp; done) | (go_simp; rfl)); intro w19 hw; have hg : w17.grownBy w19 (some go16) := (by rw [hw]; exact HP18.2); have hp_ : Kd.R k58 58 w19 w.heap.size (fun _ => True) (.slice (some ⟨go16, 0, none⟩) x5_2.length co16) y1129 := (by rw [hw, Ny1129.out]; exact HP18.1); clear HP18; replace HO_5 := am_ (hp_); replace HB := am_ (((Zy GB16) : Below w.heap.size w w19)); clear hg hw hp_))
           go_roundg k2
           case measure => have := HJ2.out; have := HK2.out; omega
           case rel => exact ⟨(y1129), (wrap64 (x6_2 + 1)), Za, H', ⟨by have := HJ2.out; have := HK2.out; omega⟩, ⟨(Zo HO_5)⟩, ⟨Zd⟩⟩
          ·rw [if_neg c15] at H
           exact absurd H (by simp)
         ·rw [if_neg c13] at H
          exact absurd H (by simp)
        ·rw [if_neg c12] at H
         have c12b0 := decide_eq_false c12; clear c12; have H' := am_ H; clear H
         go_wp2
         go_loopg [7] k2 (fun kq v7 w' => ∃ (x5_3 : List (S58)) (x7_3 : Int), v7 = .int .i64 x7_3 ∧ Aside0 (laws_toCueS.l1 kq l0 x5_3 x7_3 = some r) ∧ Aside0 (kq ≤ k2) ∧ Aside0 (Kd.R k58 58 w' w.heap.size (fun _ => True) v1122 x5_3) ∧ Aside0 (Below w.heap.size w w'))
         case atStart => exact ⟨(x5_2), ((l0.length : Int)), Za, H', ⟨Nat.le_refl _⟩, ⟨(Zo HO_5)⟩, ⟨Zd⟩⟩
         case round =>
          clear H'
          try clear c1
          try clear p1
          try clear q1
          try clear hx1
          try clear p2
          try clear c4
          try clear c5
          try clear p6
          try clear c8
          try clear c8b0
          try clear c8b1
          try clear c9
          try clear c9b0
          try clear c9b1
          try clear p11
          try clear q11
          try clear hx11
          try clear c12
          try clear c12b0
          try clear c13
          try clear c13b0
          try clear c15
          try clear c15b0
          try clear c16
          try clear p16
          try clear q16
          try clear hx16
          try clear hf16
          try clear c18
          try clear hx18
          try clear hf18
          try clear hx1124_0
          try clear hx1124_1
          try clear hx1124_2
          try clear hx1124_3
          try clear hx16_0
          try clear hx16_1
          try clear hx16_2
          try clear hx16_3
          try clear hx18_0
          try clear hx18_1
          try clear hx18_2
          try clear hx18_3
          try clear p1124
          try clear p16
          try clear p2
          try clear p6
          try clear q1124
          try clear q16
          obtain ⟨x5_3, x7_3, rfl, HA, HK3, HO_5, HB⟩ := hrel
          cases gk with
          | zero => exact absurd HA.out (by simp [laws_toCueS.l1])
          | succ k3 =>
           have H := HA.out; clear HA; simp only [laws_toCueS.l1] at H
           by_cases c20 : x7_3 < (x5_3.length : Int)
           ·rw [if_pos c20] at H
            have c20b0 := decide_eq_true c20; clear c20; replace H := Option.bind_eq_some_iff.mp H; obtain ⟨⟨t1130, t1131, t1132, t1133⟩, A210, H⟩ := H
            dsimp only at H
            have A21 := am_ A210; clear A210
            by_cases c22 : 0 ≤ x7_3
            ·rw [if_pos c22] at H
             have c22b0 := decide_eq_true c22; clear c22; obtain ⟨y1134, hy1134⟩ : ∃ y_ : List (S58), y_ = (x5_3.set (x7_3 : Int).toNat (⟨t1130, t1131, t1132, t1133⟩ : S58)) := ⟨_, rfl⟩
             (first | (rw [← hy1134] at H; with_reducible replace H := bindZ H) | rw [← hy1134] at H | skip)
             have Ny1134 := am_ hy1134; clear hy1134; have H' := am_ H; clear H; obtain ⟨Ao24, co24, eo24⟩ := Kd.R_slice HO_5.out; subst eo24
             go_wp2_with (first | ((with_reducible refine gate_callee (f := 90) rfl ?_); refine gZ 45 Try.func90 #[] ?_; (with_reducible refine (laws_fillerCue.calls  t1130 t1131 t1132 t1133 _ A21.out).mono ?_); rintro e w25 ⟨rfl, hb⟩; refine ⟨_, rfl, ?_⟩; replace HO_5 := (hbZ HO_5 hb); replace HB := (bsZ Zd hb); clear hb; have p23 : 0 ≤ (x7_3 : Int) := of_decide_eq_true Zn; have q23 : (x7_3 : Int) < ((x5_3.length : Int) : Int) := of_decide_eq_true Zn; obtain ⟨go23, co23, eo23, gb23, gl23, cl23, HG23⟩ := Kd.R_form HO_5.out (by omega); (first | cases eo23 | (injection eo23 with ea_ en_ ec_; (first | subst ea_ | (injection ea_ with ea_; subst ea_)); subst ec_; clear en_)); have GB23 := am_ gb23; have GG23 := am_ HG23; clear gb23 gl23 HG23; obtain ⟨ce23, hcl23, hM23, hcc23, hfr23⟩ := Kd.R_elem HO_5.out z58 (x7_3 : Int) p23 q23; obtain rfl := k58_openM hM23; have hx23_0 : w25.cell? ⟨go23, (x7_3 : Int).toNat * 4, none⟩ = some (.int .i64 ((rd_T58 x5_3 x7_3).f0)) := hcc23 0 _ rfl; have hx23_1 : w25.cell? ⟨go23, (x7_3 : Int).toNat * 4 + 1, none⟩ = some (.int .i64 ((rd_T58 x5_3 x7_3).f1)) := hcc23 1 _ rfl; have hx23_2 : w25.cell? ⟨go23, (x7_3 : Int).toNat * 4 + 2, none⟩ = some (.string ((rd_T58 x5_3 x7_3).f2)) := hcc23 2 _ rfl; have hx23_3 : w25.cell? ⟨go23, (x7_3 : Int).toNat * 4 + 3, none⟩ = some (.int .i64 ((rd_T58 x5_3 x7_3).f3)) := hcc23 3 _ rfl; have hf23_0 : w25.frozen? ⟨go23, (x7_3 : Int).toNat * 4, none⟩ = false := hfr23 0; have hf23_1 := hfr23 1; have hf23_2 := hfr23 2; have hf23_3 := hfr23 3; clear hcl23 hcc23 hfr23 hM23; replace p23 := eq_true p23; replace q23 := eq_true q23; have HX26 := am_ (show Kd.R k58 58 w25 w.heap.size (fun _ => True) (.slice (some ⟨go23, 0, none⟩) x5_3.length co24) x5_3 from (Zo HO_5)); obtain ⟨ce26, hcl26, hM26, hcc26, hfr26⟩ := Kd.R_elem HX26.out z58 (x7_3 : Int) (of_decide_eq_true Zn) (by have h_ : (x7_3 : Int) < ((x5_3.length : Int) : Int) := of_decide_eq_true Zn; first | exact h_ | (have e_ := (Kd.R_reads' HO_5.out).1; omega) | simpa using h_); obtain rfl := k58_openM hM26; have HP26 := Kd.R_seg HX26.out (x7_3 : Int) (of_decide_eq_true Zn) (by have h_ : (x7_3 : Int) < ((x5_3.length : Int) : Int) := of_decide_eq_true Zn; first | exact h_ | (have e_ := (Kd.R_reads' HO_5.out).1; omega) | simpa using h_) (seg := [.int .i64 t1130, .int .i64 t1131, .string t1132, .int .i64 t1133]) (j := 0) hcl26 hcc26 (show 4 ≤ 4 from (by decide)) (x' := (⟨t1130, t1131, t1132, t1133⟩ : S58)) (k58_mkM _ _ _ (⟨t1130, t1131, t1132, t1133⟩ : S58) ) (fun _ hk => hk); have hx26_0 := hcc26 0 _ rfl; (try simp only [show (k58).sz = 4 from rfl, Nat.mul_one, Nat.add_zero] at hx26_0); have hf26_0 := hfr26 0; (try simp only [show (k58).sz = 4 from rfl, Nat.mul_one, Nat.add_zero] at hf26_0); have hx26_1 := hcc26 1 _ rfl; (try simp only [show (k58).sz = 4 from rfl, Nat.mul_one, Nat.add_zero] at hx26_1); have hf26_1 := hfr26 1; (try simp only [show (k58).sz = 4 from rfl, Nat.mul_one, Nat.add_zero] at hf26_1); have hx26_2 := hcc26 2 _ rfl; (try simp only [show (k58).sz = 4 from rfl, Nat.mul_one, Nat.add_zero] at hx26_2); have hf26_2 := hfr26 2; (try simp only [show (k58).sz = 4 from rfl, Nat.mul_one, Nat.add_zero] at hf26_2); have hx26_3 := hcc26 3 _ rfl; (try simp only [show (k58).sz = 4 from rfl, Nat.mul_one, Nat.add_zero] at hx26_3); have hf26_3 := hfr26 3; (try simp only [show (k58).sz = 4 from rfl, Nat.mul_one, Nat.add_zero] at hf26_3); clear hcl26 hcc26 hfr26 hM26) | ((with_reducible refine gate_store (t := 58) (p := 46) rfl ?_); refine store_event (t := 58) (p := 46) (v := ?vo_w27) (w1 := ((((w25.setCell ⟨go23, (x7_3 : Int).toNat * 4, none⟩ (.int .i64 t1130)).setCell ⟨go23, (x7_3 : Int).toNat * 4 + 1, none⟩ (.int .i64 t1131)).setCell ⟨go23, (x7_3 : Int).toNat * 4 + 2, none⟩ (.string t1132)).setCell ⟨go23, (x7_3 : Int).toNat * 4 + 3, none⟩ (.int .i64 t1133))) ?hg ?ho ?hn ?hr ?_; (case ho => rfl); (case hg => rfl); (case hn => rfl); (case hr => first | (go_simp; done) | (go_simp; rfl)); intro w27 hw; have hg : w25.grownBy w27 (some go23) := (by rw [hw]; exact HP26.2); have hp_ : Kd.R k58 58 w27 w.heap.size (fun _ => True) (.slice (some ⟨go23, 0, none⟩) x5_3.length co24) y1134 := (by rw [hw, Ny1134.out]; exact HP26.1); clear HP26; replace HO_5 := am_ (hp_); replace HB := am_ (((Zy GB23) : Below w.heap.size w w27)); clear hg hw hp_))
             go_roundg k3
             case measure => have := HJ2.out; have := HK2.out; have := HK3.out; omega
             case rel => exact ⟨(y1134), (wrap64 (x7_3 + 1)), Za, H', ⟨Zp⟩, ⟨(Zo HO_5)⟩, ⟨Zd⟩⟩
            ·rw [if_neg c22] at H
             exact absurd H (by simp)
           ·rw [if_neg c20] at H
            have c20b0 := decide_eq_false c20; clear c20
            by_cases c28 : 0 ≤ (l0.length : Int)
            ·rw [if_pos c28] at H
             have c28b0 := eq_true c28; have c28b1 := decide_eq_true c28; clear c28
             by_cases c29 : (l0.length : Int) ≤ (x5_3.length : Int)
             ·rw [if_pos c29] at H
              have c29b0 := eq_true c29; have c29b1 := decide_eq_true c29; clear c29; obtain ⟨y1135, hy1135⟩ : ∃ y_ : List (S58), y_ = (x5_3.take ((l0.length : Int) : Int).toNat) := ⟨_, rfl⟩
              (first | (rw [← hy1135] at H; with_reducible replace H := bindZ H) | rw [← hy1135] at H | skip)
              have Ny1135 := am_ hy1135; clear hy1135; obtain rfl := Option.some.inj H; obtain ⟨Ao30, co30, eo30⟩ := Kd.R_slice HO_5.out; subst eo30; have q31 : ((l0.length : Int) : Int) ≤ ((x5_3.length : Int) : Int) := of_decide_eq_true Zn; obtain ⟨i031, hi031, _, hsz31, _⟩ := info_parts info58; have hcut31 := cut_to (P := Try.prog) 33 58 .i64 Try.underlying33 hi031 Ao30 x5_3.length co30 (l0.length : Int) (of_decide_eq_true Zn) q31 (Kd.R_reads' HO_5.out).2.1; have hr31 := Kd.R_take (m := ((l0.length : Int) : Int).toNat) HO_5.out (by omega); have hy31 : y1135.length = ((l0.length : Int) : Int).toNat := (by rw [Ny1135.out, List.length_take]; omega); rw [← Ny1135.out] at hr31; rw [← hy31] at hr31 hcut31; clear hy31 hi031 hsz31 HO_5; have HO1137 := am_ hr31; clear hr31; replace q31 := eq_true q31
              go_wp2
              go_ret
              exact ⟨_, Zq, (Zo HO1137), Zd⟩
             ·rw [if_neg c29] at H
              exact absurd H (by simp)
            ·rw [if_neg c28] at H
             exact absurd H (by simp)
     ·rw [if_neg c9] at H
      exact absurd H (by simp)
    ·rw [if_neg c8] at H
     exact absurd H (by simp)
 /-! ### laws_eqCue: function 106 -/
def laws_eqCue.f (a0_0 : Int) (a0_1 : Int) (a0_2 : ByteArray) (a0_3 : Int) (a1_0 : Int) (a1_1 : Int) (a1_2 : ByteArray) (a1_3 : Int) : Option (Bool) := if a0_0 = a1_0 then (if a0_1 = a1_1 then (if a0_2.toList = a1_2.toList then (if a0_3 = a1_3 then (some true) else (some false)) else (some false)) else (some false)) else (some false)
set_option maxHeartbeats 8000000 in
set_option maxRecDepth 100000 in
theorem laws_eqCue.calls (a0_0 : Int) (a0_1 : Int) (a0_2 : ByteArray) (a0_3 : Int) (a1_0 : Int) (a1_1 : Int) (a1_2 : ByteArray) (a1_3 : Int) (r : Bool) (w : World) (h : laws_eqCue.f a0_0 a0_1 a0_2 a0_3 a1_0 a1_1 a1_2 a1_3 = some r) (hr_ : r = true := by rfl) :
  Calls Try.prog 106 #[.agg #[.int .i64 a0_0, .int .i64 a0_1, .string a0_2, .int .i64 a0_3], .agg #[.int .i64 a1_0, .int .i64 a1_1, .string a1_2, .int .i64 a1_3]] w fun e w' => e = .returned (.bool r) ∧ Below w.heap.size w w' := by
 have HR_ := am_ hr_; clear hr_; have hu58 := Try.underlying58; have HB := am_ (Below.refl w.heap.size w); have H : (if a0_0 = a1_0 then (if a0_1 = a1_1 then (if a0_2.toList = a1_2.toList then (if a0_3 = a1_3 then (some true) else (some false)) else (some false)) else (some false)) else (some false)) = some r := h; clear h
 by_cases c3 : a0_0 = a1_0
 ·rw [if_pos c3] at H
  have c3b0 := beq_iff_eq.mpr c3; have c3b1 := bne_eq_false_iff_eq.mpr c3; clear c3
  by_cases c4 : a0_1 = a1_1
  ·rw [if_pos c4] at H
   have c4b0 := beq_iff_eq.mpr c4; have c4b1 := bne_eq_false_iff_eq.mpr c4; clear c4
   by_cases c5 : a0_2.toList = a1_2.toList
   ·rw [if_pos c5] at H
    have c5b0 := beq_iff_eq.mpr c5; have c5b1 := bne_eq_false_iff_eq.mpr c5; clear c5
    by_cases c6 : a0_3 = a1_3
    ·rw [if_pos c6] at H
     have c6b0 := beq_iff_eq.mpr c6; have c6b1 := bne_eq_false_iff_eq.mpr c6; clear c6; obtain rfl := Option.some.inj H
     go_enter Try.func106, Try.ntmps106
     go_wp2_with (first | ((with_reducible refine gate_dst (N := 2) rfl ?_); refine boxZ 2 #[.int .i64 a0_0, .int .i64 a0_1, .string a0_2, .int .i64 a0_3] 58 ?_; intro gb1182 hg w7 hbox hb; replace BK1182 := am_ (hbox); replace GW1182 := am_ ((Zc : w.heap.size ≤ gb1182)); replace GE1182 := GW1182; replace HB := (bsZ Zd hb); clear hb hbox hg) | ((with_reducible refine gate_dst (N := 3) rfl ?_); refine boxZ 3 #[.int .i64 a1_0, .int .i64 a1_1, .string a1_2, .int .i64 a1_3] 58 ?_; intro gb1183 hg w8 hbox hb; replace BK1183 := am_ (hbox); replace GW1183 := am_ (((Ze GE1182) : w.heap.size ≤ gb1183)); replace GE1183 := GW1183; replace HB := (bsZ (Zf GE1182) hb); replace NB1182_1183 := am_ ((by rw [hg]; exact Nat.ne_of_lt (blk_lt (g := gb1182) (b0Z BK1182)) : gb1182 ≠ gb1183)); replace NB1183_1182 := am_ ((by rw [hg]; exact Nat.ne_of_gt (blk_lt (g := gb1182) (b0Z BK1182)) : gb1183 ≠ gb1182)); replace BK1182 := (bkZ BK1182 hb); clear hb hbox hg; have hnb9 := NB1182_1183.out; have hnc9 := NB1183_1182.out; refine ci4 BK1182 ?_; intros; refine ci4 BK1183 ?_; intros))
     go_ret
     exact ⟨Zj, (Zh GE1182 GE1183)⟩
    ·rw [if_neg c6] at H
     have c6b0 := beq_eq_false_iff_ne.mpr c6; have c6b1 := bne_iff_ne.mpr c6; exact absurd ((Option.some.inj H).trans HR_.out) (by decide)
   ·rw [if_neg c5] at H
    have c5b0 := beq_eq_false_iff_ne.mpr c5; have c5b1 := bne_iff_ne.mpr c5; exact absurd ((Option.some.inj H).trans HR_.out) (by decide)
  ·rw [if_neg c4] at H
   have c4b0 := beq_eq_false_iff_ne.mpr c4; have c4b1 := bne_iff_ne.mpr c4; exact absurd ((Option.some.inj H).trans HR_.out) (by decide)
 ·rw [if_neg c3] at H
  have c3b0 := beq_eq_false_iff_ne.mpr c3; have c3b1 := bne_iff_ne.mpr c3; exact absurd ((Option.some.inj H).trans HR_.out) (by decide)
 /-! ### laws_eqCueS: function 93 -/
def laws_eqCueS.l0 : Nat → List (S58) → List (S58) → Int → Option (Bool)
 | 0, _, _, _ => none
 | k + 1, x0, x1, x5 => if x5 < (x0.length : Int) then (if 0 ≤ x5 then (if x5 < (x1.length : Int) then ((laws_eqCue.f ((rd_T58 x0 x5).f0) ((rd_T58 x0 x5).f1) ((rd_T58 x0 x5).f2) ((rd_T58 x0 x5).f3) ((rd_T58 x1 x5).f0) ((rd_T58 x1 x5).f1) ((rd_T58 x1 x5).f2) ((rd_T58 x1 x5).f3)).bind fun t1186 => (if t1186 = true then (laws_eqCueS.l0 k x0 x1 (wrap64 (x5 + 1))) else (some false))) else (none)) else (none)) else (some true)
def laws_eqCueS.f (k : Nat) (l0 : List (S58)) (l1 : List (S58)) : Option (Bool) := if (l0.length : Int) = (l1.length : Int) then (laws_eqCueS.l0 k l0 l1 0) else (some false)
def laws_eqCueS.T6 : Bool × List (List Nat × List Nat) := (true, [([], []), ([], []), ([0, 1], [0, 1]), ([2], [2]), ([], []), ([], []), ([4, 5], [4, 5]), ([6], [6]), ([3, 7], [3, 7]), ([8], [8])])
def laws_eqCueS.B6 : List Nat := [0, 0, 3, 7, 0, 0, 48, 112, 255, 511]
theorem laws_eqCueS.tab6 : rtab .any (opsOf Try.f93 6) = laws_eqCueS.T6 := by kernel_rfl
theorem laws_eqCueS.bits6 : waitsOk laws_eqCueS.T6.2 laws_eqCueS.B6 = true := by kernel_rfl
set_option maxHeartbeats 8000000 in
set_option maxRecDepth 100000 in
theorem laws_eqCueS.calls (k : Nat) (A0 : Option Addr) (c0 : Nat) (l0 : List (S58)) (A1 : Option Addr) (c1 : Nat) (l1 : List (S58)) (r : Bool) (w : World) (hr0 : Kd.C k58 w A0 l0.length l0) (hc0 : l0.length ≤ c0) (hr1 : Kd.C k58 w A1 l1.length l1) (hc1 : l1.length ≤ c1) (h : laws_eqCueS.f k l0 l1 = some r) (hr_ : r = true := by rfl) :
  Calls Try.prog 93 #[.slice A0 l0.length c0, .slice A1 l1.length c1] w fun e w' => e = .returned (.bool r) ∧ Below w.heap.size w w' := by
 have HR_ := am_ hr_; clear hr_; have hu58 := Try.underlying58; have HR0 := am_ hr0; have HC0 := am_ hc0; clear hr0 hc0; have HR1 := am_ hr1; have HC1 := am_ hc1; clear hr1 hc1; have HB := am_ (Below.refl w.heap.size w); have H : (if (l0.length : Int) = (l1.length : Int) then (laws_eqCueS.l0 k l0 l1 0) else (some false)) = some r := h; clear h
 by_cases c3 : (l0.length : Int) = (l1.length : Int)
 ·rw [if_pos c3] at H
  have c3b0 := beq_iff_eq.mpr c3; have c3b1 := bne_eq_false_iff_eq.mpr c3
  have c3b2 : (l0.length == l1.length) = true := by first | simpa using c3 | (simp at c3 ⊢; omega)
  clear c3; have H' := am_ H; clear H
  go_enter Try.func93, Try.ntmps93
  go_wp2
  go_loopg [5] k (fun kq v5 w' => ∃ (x5_1 : Int), v5 = .int .i64 x5_1 ∧ Aside0 (laws_eqCueS.l0 kq l0 l1 x5_1 = some r) ∧ Aside0 (kq ≤ k) ∧ Aside0 (Below w.heap.size w w'))
  case atStart => exact ⟨(0), Za, H', ⟨Nat.le_refl _⟩, ⟨Zd⟩⟩
  case round =>
   clear H'
   try clear c1
   try clear p2
   try clear c3
   try clear c3b0
   try clear c3b1
   try clear c3b2
   obtain ⟨x5_1, rfl, HA, HK1, HB⟩ := hrel
   cases gk with
   | zero => exact absurd HA.out (by simp [laws_eqCueS.l0])
   | succ k1 =>
    have H := HA.out; clear HA; simp only [laws_eqCueS.l0] at H
    by_cases c4 : x5_1 < (l0.length : Int)
    ·rw [if_pos c4] at H
     have c4b0 := decide_eq_true c4; clear c4
     by_cases c5 : 0 ≤ x5_1
     ·rw [if_pos c5] at H
      have c5b0 := decide_eq_true c5; clear c5
      by_cases c6 : x5_1 < (l1.length : Int)
      ·rw [if_pos c6] at H
       have c6b0 := decide_eq_true c6; clear c6; replace H := Option.bind_eq_some_iff.mp H; obtain ⟨t1186, A70, H⟩ := H; have A7 := am_ A70; clear A70
       by_cases c8 : t1186 = true
       ·subst c8
        rw [if_pos rfl] at H; have H' := am_ H; clear H
        try go_wp2
        replace HB := am_ (below_drew1 HB.out); have p1184 : 0 ≤ (x5_1 : Int) := of_decide_eq_true Zn; have q1184 : x5_1 < (l0.length : Int) := of_decide_eq_true Zn; obtain ⟨ad1184, e1184, hx1184_0, hx1184_1, hx1184_2, hx1184_3⟩ := at_T58 HR0.out x5_1 p1184 q1184; have hw1184_3 := hx1184_3; have hw1184_2 := hx1184_2; have hw1184_1 := hx1184_1; have hw1184_0 := hx1184_0
        cases e1184
        replace hx1184_0 := cbH HB hx1184_0; replace hx1184_1 := cbH HB hx1184_1; replace hx1184_2 := cbH HB hx1184_2; replace hx1184_3 := cbH HB hx1184_3; replace p1184 := eq_true p1184; replace q1184 := eq_true q1184; have p1185 : 0 ≤ (x5_1 : Int) := of_decide_eq_true Zn; have q1185 : x5_1 < (l1.length : Int) := of_decide_eq_true Zn; obtain ⟨ad1185, e1185, hx1185_0, hx1185_1, hx1185_2, hx1185_3⟩ := at_T58 HR1.out x5_1 p1185 q1185; have hw1185_3 := hx1185_3; have hw1185_2 := hx1185_2; have hw1185_1 := hx1185_1; have hw1185_0 := hx1185_0
        cases e1185
        replace hx1185_0 := cbH HB hx1185_0; replace hx1185_1 := cbH HB hx1185_1; replace hx1185_2 := cbH HB hx1185_2; replace hx1185_3 := cbH HB hx1185_3; replace p1185 := eq_true p1185; replace q1185 := eq_true q1185; refine start_ (n := 10) (S := fun w' => w'.cell? (ad1184.add ((x5_1).toNat * 4)) = some (.int .i64 ((rd_T58 l0 x5_1).f0)) ∧ w'.cell? ⟨(ad1184.add ((x5_1).toNat * 4)).block, (ad1184.add ((x5_1).toNat * 4)).off + 1, none⟩ = some (.int .i64 ((rd_T58 l0 x5_1).f1)) ∧ w'.cell? ⟨(ad1184.add ((x5_1).toNat * 4)).block, (ad1184.add ((x5_1).toNat * 4)).off + 2, none⟩ = some (.string ((rd_T58 l0 x5_1).f2)) ∧ w'.cell? ⟨(ad1184.add ((x5_1).toNat * 4)).block, (ad1184.add ((x5_1).toNat * 4)).off + 3, none⟩ = some (.int .i64 ((rd_T58 l0 x5_1).f3)) ∧ w'.cell? (ad1185.add ((x5_1).toNat * 4)) = some (.int .i64 ((rd_T58 l1 x5_1).f0)) ∧ w'.cell? ⟨(ad1185.add ((x5_1).toNat * 4)).block, (ad1185.add ((x5_1).toNat * 4)).off + 1, none⟩ = some (.int .i64 ((rd_T58 l1 x5_1).f1)) ∧ w'.cell? ⟨(ad1185.add ((x5_1).toNat * 4)).block, (ad1185.add ((x5_1).toNat * 4)).off + 2, none⟩ = some (.string ((rd_T58 l1 x5_1).f2)) ∧ w'.cell? ⟨(ad1185.add ((x5_1).toNat * 4)).block, (ad1185.add ((x5_1).toNat * 4)).off + 3, none⟩ = some (.int .i64 ((rd_T58 l1 x5_1).f3))) (ds := []) (bT 10 0) Zi rfl rfl ⟨(cbH HB hw1184_0 :), (cbH HB hw1184_1 :), (cbH HB hw1184_2 :), (cbH HB hw1184_3 :), (cbH HB hw1185_0 :), (cbH HB hw1185_1 :), (cbH HB hw1185_2 :), (cbH HB hw1185_3 :)⟩ (fun hHeld => ?_); refine with_tabW laws_eqCueS.tab6 laws_eqCueS.bits6 (fun HT_ HW_ => ?_); generalize wr.drew = w9 at HB hx1184_0 hx1184_1 hx1184_2 hx1184_3 hx1185_0 hx1185_1 hx1185_2 hx1185_3 hHeld ⊢; refine pureZ HT_ 0 (some 17) (bT 10 1) ?_; refine pureZ HT_ 1 (some 18) (bT 10 2) ?_; refine pureZ HT_ 2 (some 19) (bT 10 3) ?_; refine pureZ HT_ 4 (some 21) (bB 10 23) ?_; refine pureZ HT_ 5 (some 22) (bB 10 55) ?_; refine pureZ HT_ 6 (some 23) (bB 10 119) ?_; refine takeZ8 HT_ HW_ 3 (some 20) (bT 10 7) hHeld ?_; refine takeZ8 HT_ HW_ 7 (some 24) (bT 10 8) hHeld ?_; refine one_ (i := 8) (N := some 25) (bT 10 9) rfl rfl (one_of HT_.out Zi) (by decide) (fun K hK => ?_); refine goes_ Try.func106 Zi rfl #[.agg #[.int .i64 ((rd_T58 l0 x5_1).f0), .int .i64 ((rd_T58 l0 x5_1).f1), .string ((rd_T58 l0 x5_1).f2), .int .i64 ((rd_T58 l0 x5_1).f3)], .agg #[.int .i64 ((rd_T58 l1 x5_1).f0), .int .i64 ((rd_T58 l1 x5_1).f1), .string ((rd_T58 l1 x5_1).f2), .int .i64 ((rd_T58 l1 x5_1).f3)]] (by rfl) rfl rfl Zr ?_
        with_reducible refine (laws_eqCue.calls ((rd_T58 l0 x5_1).f0) ((rd_T58 l0 x5_1).f1) ((rd_T58 l0 x5_1).f2) ((rd_T58 l0 x5_1).f3) ((rd_T58 l1 x5_1).f0) ((rd_T58 l1 x5_1).f1) ((rd_T58 l1 x5_1).f2) ((rd_T58 l1 x5_1).f3) true _ A7.out).mono ?_
        rintro e w10 ⟨rfl, hb⟩; refine ⟨_, rfl, ?_⟩; replace HB := (bsZ Zd hb)
        (try clear hb)
        (try clear hb2)
        (try clear hk)
        (try clear hi)
        refine hK.out _ _ ⟨(cbH HB hw1184_0 :), (cbH HB hw1184_1 :), (cbH HB hw1184_2 :), (cbH HB hw1184_3 :), (cbH HB hw1185_0 :), (cbH HB hw1185_1 :), (cbH HB hw1185_2 :), (cbH HB hw1185_3 :)⟩ (fun hHeld => ?_); clear hK K; refine normZ 25 ?_; refine pureZ HT_ 9 (some 26) (bT 10 10) ?_; refine done_ (done_of HT_.out Zi) ?_
        try go_wp2
        go_roundg k1
        case measure => have := HK1.out; omega
        case rel => exact ⟨(wrap64 (x5_1 + 1)), Za, H', ⟨Zs⟩, ⟨Zd⟩⟩
       ·replace c8 := Bool.eq_false_iff.mpr c8
        subst c8; rw [if_neg (show ¬ (false = true) by decide)] at H; exact absurd ((Option.some.inj H).trans HR_.out) (by decide)
      ·rw [if_neg c6] at H
       exact absurd H (by simp)
     ·rw [if_neg c5] at H
      exact absurd H (by simp)
    ·rw [if_neg c4] at H
     have c4b0 := decide_eq_false c4; clear c4; obtain rfl := Option.some.inj H
     go_wp2
     go_ret
     exact ⟨Zj, Zd⟩
 ·rw [if_neg c3] at H
  have c3b0 := beq_eq_false_iff_ne.mpr c3; have c3b1 := bne_iff_ne.mpr c3
  have c3b2 : (l0.length == l1.length) = false := by first | simpa using c3 | (simp at c3 ⊢; omega)
  exact absurd ((Option.some.inj H).trans HR_.out) (by decide)
 /-! ### laws_markCueS: function 55 -/
def laws_markCueS.l0 : Nat → List (S58) → Int → Int → Option (Int × (List (S58)))
 | 0, _, _, _ => none
 | k + 1, x0, x1, x5 => if x5 < (x0.length : Int) then (if 0 ≤ x5 then ((some (x0.set (x5 : Int).toNat (⟨x1, (rd_T58 x0 x5).f1, (rd_T58 x0 x5).f2, (rd_T58 x0 x5).f3⟩ : S58) : List (S58))).bind fun y1217 => ((some (y1217.set (x5 : Int).toNat (⟨(rd_T58 y1217 x5).f0, wrap64 (x1 + 1), (rd_T58 y1217 x5).f2, (rd_T58 y1217 x5).f3⟩ : S58) : List (S58))).bind fun y1218 => ((laws_markText.f k (wrap64 ((wrap64 (x1 + 1)) + 1))).bind fun t1219 => ((some (y1218.set (x5 : Int).toNat (⟨(rd_T58 y1218 x5).f0, (rd_T58 y1218 x5).f1, t1219, (rd_T58 y1218 x5).f3⟩ : S58) : List (S58))).bind fun y1220 => (laws_markCueS.l0 k (y1220.set (x5 : Int).toNat (⟨(rd_T58 y1220 x5).f0, (rd_T58 y1220 x5).f1, (rd_T58 y1220 x5).f2, wrap64 ((wrap64 ((wrap64 (x1 + 1)) + 1)) + 1)⟩ : S58)) (wrap64 ((wrap64 ((wrap64 ((wrap64 (x1 + 1)) + 1)) + 1)) + 1)) (wrap64 (x5 + 1))))))) else (none)) else (some (x1, x0))
def laws_markCueS.f (k : Nat) (l0 : List (S58)) (a1 : Int) : Option (Int × (List (S58))) := laws_markCueS.l0 k l0 a1 0
set_option maxHeartbeats 8000000 in
set_option maxRecDepth 100000 in
theorem laws_markCueS.calls (k : Nat) (P0_ : Nat → Prop) (u9000_ : Value) (l0 : List (S58)) (a1 : Int) (r1 : Int) (r2 : List (S58)) (w0 w : World) (hB : Below w0.heap.size w0 w) (ho0 : Kd.R k58 58 w w0.heap.size P0_ u9000_ l0) (h : laws_markCueS.f k l0 a1 = some (r1, r2)) :
  Calls Try.prog 55 #[u9000_, .int .i64 a1] w fun e w' => e = .returned (.int .i64 r1) ∧ Kd.R k58 58 w' w0.heap.size (fun k_ => (P0_ k_ ∨ w.heap.size ≤ k_)) u9000_ r2 ∧ Below w0.heap.size w0 w' ∧ Kept w w' (fun k_ => P0_ k_) := by
 have HO0 := am_ (show Kd.R k58 58 w w0.heap.size (fun k_ => (P0_ k_ ∨ w.heap.size ≤ k_)) u9000_ l0 from Kd.R_mono ho0 (fun k_ hk => (.inl hk))); have HK := am_ (Kept.refl w (fun k_ => P0_ k_)); have HW0 := am_ hB.size; have HB := am_ hB; clear hB; have H : (laws_markCueS.l0 k l0 a1 0) = some (r1, r2) := h; clear h; have H' := am_ H; clear H
 go_enter Try.func55, Try.ntmps55
 go_wp2
 go_loopg [1, 5] k (fun kq v1 v5 w' => ∃ (x0_1 : List (S58)) (x1_1 : Int) (x5_1 : Int), v1 = .int .i64 x1_1 ∧ v5 = .int .i64 x5_1 ∧ Aside0 (laws_markCueS.l0 kq x0_1 x1_1 x5_1 = some (r1, r2)) ∧ Aside0 (kq ≤ k) ∧ Aside0 (Kd.R k58 58 w' w0.heap.size (fun k_ => (P0_ k_ ∨ w.heap.size ≤ k_)) u9000_ x0_1) ∧ Aside0 (Kept w w' (fun k_ => P0_ k_)) ∧ Aside0 (Below w0.heap.size w0 w'))
 case atStart => exact ⟨(l0), (a1), (0), Za, Za, H', ⟨Nat.le_refl _⟩, ⟨(Zo HO0)⟩, ⟨Zt⟩, ⟨Zd⟩⟩
 case round =>
  clear H'
  try clear p2
  obtain ⟨x0_1, x1_1, x5_1, rfl, rfl, HA, HK1, HO_0, HK, HB⟩ := hrel
  cases gk with
  | zero => exact absurd HA.out (by simp [laws_markCueS.l0])
  | succ k1 =>
   have H := HA.out; clear HA; simp only [laws_markCueS.l0] at H
   by_cases c3 : x5_1 < (x0_1.length : Int)
   ·rw [if_pos c3] at H
    have c3b0 := decide_eq_true c3; clear c3
    by_cases c4 : 0 ≤ x5_1
    ·rw [if_pos c4] at H
     have c4b0 := decide_eq_true c4; clear c4; obtain ⟨y1217, hy1217⟩ : ∃ y_ : List (S58), y_ = (x0_1.set (x5_1 : Int).toNat (⟨x1_1, (rd_T58 x0_1 x5_1).f1, (rd_T58 x0_1 x5_1).f2, (rd_T58 x0_1 x5_1).f3⟩ : S58)) := ⟨_, rfl⟩
     (first | (rw [← hy1217] at H; with_reducible replace H := bindZ H) | rw [← hy1217] at H | skip)
     have Ny1217 := am_ hy1217; clear hy1217; obtain ⟨y1218, hy1218⟩ : ∃ y_ : List (S58), y_ = (y1217.set (x5_1 : Int).toNat (⟨(rd_T58 y1217 x5_1).f0, wrap64 (x1_1 + 1), (rd_T58 y1217 x5_1).f2, (rd_T58 y1217 x5_1).f3⟩ : S58)) := ⟨_, rfl⟩
     (first | (rw [← hy1218] at H; with_reducible replace H := bindZ H) | rw [← hy1218] at H | skip)
     have Ny1218 := am_ hy1218; clear hy1218; replace H := Option.bind_eq_some_iff.mp H; obtain ⟨t1219, A70, H⟩ := H; have A7 := am_ A70; clear A70; obtain ⟨y1220, hy1220⟩ : ∃ y_ : List (S58), y_ = (y1218.set (x5_1 : Int).toNat (⟨(rd_T58 y1218 x5_1).f0, (rd_T58 y1218 x5_1).f1, t1219, (rd_T58 y1218 x5_1).f3⟩ : S58)) := ⟨_, rfl⟩
     (first | (rw [← hy1220] at H; with_reducible replace H := bindZ H) | rw [← hy1220] at H | skip)
     have Ny1220 := am_ hy1220; clear hy1220; obtain ⟨y1221, hy1221⟩ : ∃ y_ : List (S58), y_ = (y1220.set (x5_1 : Int).toNat (⟨(rd_T58 y1220 x5_1).f0, (rd_T58 y1220 x5_1).f1, (rd_T58 y1220 x5_1).f2, wrap64 ((wrap64 ((wrap64 (x1_1 + 1)) + 1)) + 1)⟩ : S58)) := ⟨_, rfl⟩
     (first | (rw [← hy1221] at H; with_reducible replace H := bindZ H) | rw [← hy1221] at H | skip)
     have Ny1221 := am_ hy1221; clear hy1221; have H' := am_ H; clear H; obtain ⟨Ao10, co10, eo10⟩ := Kd.R_slice HO_0.out; subst eo10; have p5 : 0 ≤ (x5_1 : Int) := of_decide_eq_true Zn; have q5 : (x5_1 : Int) < ((x0_1.length : Int) : Int) := of_decide_eq_true Zn; obtain ⟨go5, co5, eo5, gb5, gl5, cl5, HG5⟩ := Kd.R_form HO_0.out (by omega)
     (first | cases eo5 | (injection eo5 with ea_ en_ ec_; (first | subst ea_ | (injection ea_ with ea_; subst ea_)); subst ec_; clear en_))
     have GB5 := am_ gb5; have GG5 := am_ HG5; clear gb5 gl5 HG5; have HMgo5 := am_ (show (P0_ go5 ∨ w.heap.size ≤ go5) from (HO_0.out.1 _ rfl)); obtain ⟨ce5, hcl5, hM5, hcc5, hfr5⟩ := Kd.R_elem HO_0.out z58 (x5_1 : Int) p5 q5; obtain rfl := k58_openM hM5; have hx5_0 : wr.cell? ⟨go5, (x5_1 : Int).toNat * 4, none⟩ = some (.int .i64 ((rd_T58 x0_1 x5_1).f0)) := hcc5 0 _ rfl; have hx5_1 : wr.cell? ⟨go5, (x5_1 : Int).toNat * 4 + 1, none⟩ = some (.int .i64 ((rd_T58 x0_1 x5_1).f1)) := hcc5 1 _ rfl; have hx5_2 : wr.cell? ⟨go5, (x5_1 : Int).toNat * 4 + 2, none⟩ = some (.string ((rd_T58 x0_1 x5_1).f2)) := hcc5 2 _ rfl; have hx5_3 : wr.cell? ⟨go5, (x5_1 : Int).toNat * 4 + 3, none⟩ = some (.int .i64 ((rd_T58 x0_1 x5_1).f3)) := hcc5 3 _ rfl; have hf5_0 : wr.frozen? ⟨go5, (x5_1 : Int).toNat * 4, none⟩ = false := hfr5 0; have hf5_1 := hfr5 1; have hf5_2 := hfr5 2; have hf5_3 := hfr5 3; clear hcl5 hcc5 hfr5 hM5; replace p5 := eq_true p5; replace q5 := eq_true q5; have HX11 := am_ (show Kd.R k58 58 wr w0.heap.size (fun k_ => (P0_ k_ ∨ w.heap.size ≤ k_)) (.slice (some ⟨go5, 0, none⟩) x0_1.length co10) x0_1 from (Zo HO_0)); obtain ⟨ce11, hcl11, hM11, hcc11, hfr11⟩ := Kd.R_elem HX11.out z58 (x5_1 : Int) (of_decide_eq_true Zn) (by have h_ : (x5_1 : Int) < ((x0_1.length : Int) : Int) := of_decide_eq_true Zn; first | exact h_ | (have e_ := (Kd.R_reads' HO_0.out).1; omega) | simpa using h_); obtain rfl := k58_openM hM11; have HP11 := Kd.R_seg HX11.out (x5_1 : Int) (of_decide_eq_true Zn) (by have h_ : (x5_1 : Int) < ((x0_1.length : Int) : Int) := of_decide_eq_true Zn; first | exact h_ | (have e_ := (Kd.R_reads' HO_0.out).1; omega) | simpa using h_) (seg := [.int .i64 x1_1]) (j := 0) hcl11 hcc11 (show 1 ≤ 4 from (by decide)) (x' := (⟨x1_1, (rd_T58 x0_1 x5_1).f1, (rd_T58 x0_1 x5_1).f2, (rd_T58 x0_1 x5_1).f3⟩ : S58)) (k58_mkM _ _ _ (⟨x1_1, (rd_T58 x0_1 x5_1).f1, (rd_T58 x0_1 x5_1).f2, (rd_T58 x0_1 x5_1).f3⟩ : S58) ) (fun _ hk => hk); have hx11_0 := hcc11 0 _ rfl
     (try simp only [show (k58).sz = 4 from rfl, Nat.mul_one, Nat.add_zero] at hx11_0)
     have hf11_0 := hfr11 0
     (try simp only [show (k58).sz = 4 from rfl, Nat.mul_one, Nat.add_zero] at hf11_0)
     clear hcl11 hcc11 hfr11 hM11
     go_wp2_with (first | ((with_reducible refine gate_store (t := 2) (p := 16) rfl ?_); refine store_event (t := 2) (p := 16) (v := ?vo_w12) (w1 := (wr.setCell ⟨go5, (x5_1 : Int).toNat * 4, none⟩ (.int .i64 x1_1))) ?hg ?ho ?hn ?hr ?_; (case ho => rfl); (case hg => rfl); (case hn => rfl); (case hr => first | (go_simp; done) | (go_simp; rfl)); intro w12 hw; have hg : wr.grownBy w12 (some go5) := (by rw [hw]; exact HP11.2); have hp_ : Kd.R k58 58 w12 w0.heap.size (fun k_ => (P0_ k_ ∨ w.heap.size ≤ k_)) (.slice (some ⟨go5, 0, none⟩) x0_1.length co10) y1217 := (by rw [hw, Ny1217.out]; exact HP11.1); clear HP11; replace HB := am_ (((Zu GB5) : Below w0.heap.size w0 w12)); replace HK := am_ (Kept.of_grown (S := (fun k_ => P0_ k_)) hg Zt (fun k_ e_ => (HO_0.out.1 k_ e_))); replace HO_0 := am_ (hp_); clear hg hw hp_; have p6 : 0 ≤ (x5_1 : Int) := of_decide_eq_true Zn; have q6 : (x5_1 : Int) < ((x0_1.length : Int) : Int) := of_decide_eq_true Zn; obtain ⟨ce6, hcl6, hM6, hcc6, hfr6⟩ := Kd.R_elem HO_0.out z58 (x5_1 : Int) p6 q6; obtain rfl := k58_openM hM6; have hx6_0 : w12.cell? ⟨go5, (x5_1 : Int).toNat * 4, none⟩ = some (.int .i64 ((rd_T58 y1217 x5_1).f0)) := hcc6 0 _ rfl; have hx6_1 : w12.cell? ⟨go5, (x5_1 : Int).toNat * 4 + 1, none⟩ = some (.int .i64 ((rd_T58 y1217 x5_1).f1)) := hcc6 1 _ rfl; have hx6_2 : w12.cell? ⟨go5, (x5_1 : Int).toNat * 4 + 2, none⟩ = some (.string ((rd_T58 y1217 x5_1).f2)) := hcc6 2 _ rfl; have hx6_3 : w12.cell? ⟨go5, (x5_1 : Int).toNat * 4 + 3, none⟩ = some (.int .i64 ((rd_T58 y1217 x5_1).f3)) := hcc6 3 _ rfl; have hf6_0 : w12.frozen? ⟨go5, (x5_1 : Int).toNat * 4, none⟩ = false := hfr6 0; have hf6_1 := hfr6 1; have hf6_2 := hfr6 2; have hf6_3 := hfr6 3; clear hcl6 hcc6 hfr6 hM6; replace p6 := eq_true p6; replace q6 := eq_true q6; have HX13 := am_ (show Kd.R k58 58 w12 w0.heap.size (fun k_ => (P0_ k_ ∨ w.heap.size ≤ k_)) (.slice (some ⟨go5, 0, none⟩) x0_1.length co10) y1217 from (Zo HO_0)); obtain ⟨ce13, hcl13, hM13, hcc13, hfr13⟩ := Kd.R_elem HX13.out z58 (x5_1 : Int) (of_decide_eq_true Zn) (by have h_ : (x5_1 : Int) < ((x0_1.length : Int) : Int) := of_decide_eq_true Zn; first | exact h_ | (have e_ := (Kd.R_reads' HO_0.out).1; omega) | simpa using h_); obtain rfl := k58_openM hM13; have HP13 := Kd.R_seg HX13.out (x5_1 : Int) (of_decide_eq_true Zn) (by have h_ : (x5_1 : Int) < ((x0_1.length : Int) : Int) := of_decide_eq_true Zn; first | exact h_ | (have e_ := (Kd.R_reads' HO_0.out).1; omega) | simpa using h_) (seg := [.int .i64 (wrap64 (x1_1 + 1))]) (j := 1) hcl13 hcc13 (show 2 ≤ 4 from (by decide)) (x' := (⟨(rd_T58 y1217 x5_1).f0, wrap64 (x1_1 + 1), (rd_T58 y1217 x5_1).f2, (rd_T58 y1217 x5_1).f3⟩ : S58)) (k58_mkM _ _ _ (⟨(rd_T58 y1217 x5_1).f0, wrap64 (x1_1 + 1), (rd_T58 y1217 x5_1).f2, (rd_T58 y1217 x5_1).f3⟩ : S58) ) (fun _ hk => hk); have hx13_1 := hcc13 1 _ rfl; (try simp only [show (k58).sz = 4 from rfl, Nat.mul_one, Nat.add_zero] at hx13_1); have hf13_1 := hfr13 1; (try simp only [show (k58).sz = 4 from rfl, Nat.mul_one, Nat.add_zero] at hf13_1); clear hcl13 hcc13 hfr13 hM13) | ((with_reducible refine gate_store (t := 2) (p := 23) rfl ?_); refine store_event (t := 2) (p := 23) (v := ?vo_w14) (w1 := (w12.setCell ⟨go5, (x5_1 : Int).toNat * 4 + 1, none⟩ (.int .i64 (wrap64 (x1_1 + 1))))) ?hg ?ho ?hn ?hr ?_; (case ho => rfl); (case hg => rfl); (case hn => rfl); (case hr => first | (go_simp; done) | (go_simp; rfl)); intro w14 hw; have hg : w12.grownBy w14 (some go5) := (by rw [hw]; exact HP13.2); have hp_ : Kd.R k58 58 w14 w0.heap.size (fun k_ => (P0_ k_ ∨ w.heap.size ≤ k_)) (.slice (some ⟨go5, 0, none⟩) x0_1.length co10) y1218 := (by rw [hw, Ny1218.out]; exact HP13.1); clear HP13; replace HB := am_ (((Zu GB5) : Below w0.heap.size w0 w14)); replace HK := am_ (Kept.of_grown (S := (fun k_ => P0_ k_)) hg Zt (fun k_ e_ => (HO_0.out.1 k_ e_))); replace HO_0 := am_ (hp_); clear hg hw hp_) | ((with_reducible refine gate_callee (f := 94) rfl ?_); refine gZ 29 Try.func94 #[.int .i64 (wrap64 ((wrap64 (x1_1 + 1)) + 1))] ?_; (with_reducible refine (laws_markText.calls k1 (wrap64 ((wrap64 (x1_1 + 1)) + 1)) t1219 _ A7.out).mono ?_); rintro e w15 ⟨rfl, hb⟩; refine ⟨_, rfl, ?_⟩; replace HO_0 := (hbZ HO_0 hb); replace HK := am_ (Kept.below (S := (fun k_ => P0_ k_)) Zt hb); replace HB := (bsZ Zd hb); clear hb; have p8 : 0 ≤ (x5_1 : Int) := of_decide_eq_true Zn; have q8 : (x5_1 : Int) < ((x0_1.length : Int) : Int) := of_decide_eq_true Zn; obtain ⟨ce8, hcl8, hM8, hcc8, hfr8⟩ := Kd.R_elem HO_0.out z58 (x5_1 : Int) p8 q8; obtain rfl := k58_openM hM8; have hx8_0 : w15.cell? ⟨go5, (x5_1 : Int).toNat * 4, none⟩ = some (.int .i64 ((rd_T58 y1218 x5_1).f0)) := hcc8 0 _ rfl; have hx8_1 : w15.cell? ⟨go5, (x5_1 : Int).toNat * 4 + 1, none⟩ = some (.int .i64 ((rd_T58 y1218 x5_1).f1)) := hcc8 1 _ rfl; have hx8_2 : w15.cell? ⟨go5, (x5_1 : Int).toNat * 4 + 2, none⟩ = some (.string ((rd_T58 y1218 x5_1).f2)) := hcc8 2 _ rfl; have hx8_3 : w15.cell? ⟨go5, (x5_1 : Int).toNat * 4 + 3, none⟩ = some (.int .i64 ((rd_T58 y1218 x5_1).f3)) := hcc8 3 _ rfl; have hf8_0 : w15.frozen? ⟨go5, (x5_1 : Int).toNat * 4, none⟩ = false := hfr8 0; have hf8_1 := hfr8 1; have hf8_2 := hfr8 2; have hf8_3 := hfr8 3; clear hcl8 hcc8 hfr8 hM8; replace p8 := eq_true p8; replace q8 := eq_true q8; have HX16 := am_ (show Kd.R k58 58 w15 w0.heap.size (fun k_ => (P0_ k_ ∨ w.heap.size ≤ k_)) (.slice (some ⟨go5, 0, none⟩) x0_1.length co10) y1218 from (Zo HO_0)); obtain ⟨ce16, hcl16, hM16, hcc16, hfr16⟩ := Kd.R_elem HX16.out z58 (x5_1 : Int) (of_decide_eq_true Zn) (by have h_ : (x5_1 : Int) < ((x0_1.length : Int) : Int) := of_decide_eq_true Zn; first | exact h_ | (have e_ := (Kd.R_reads' HO_0.out).1; omega) | simpa using h_); obtain rfl := k58_openM hM16; have HP16 := Kd.R_seg HX16.out (x5_1 : Int) (of_decide_eq_true Zn) (by have h_ : (x5_1 : Int) < ((x0_1.length : Int) : Int) := of_decide_eq_true Zn; first | exact h_ | (have e_ := (Kd.R_reads' HO_0.out).1; omega) | simpa using h_) (seg := [.string t1219]) (j := 2) hcl16 hcc16 (show 3 ≤ 4 from (by decide)) (x' := (⟨(rd_T58 y1218 x5_1).f0, (rd_T58 y1218 x5_1).f1, t1219, (rd_T58 y1218 x5_1).f3⟩ : S58)) (k58_mkM _ _ _ (⟨(rd_T58 y1218 x5_1).f0, (rd_T58 y1218 x5_1).f1, t1219, (rd_T58 y1218 x5_1).f3⟩ : S58) ) (fun _ hk => hk); have hx16_2 := hcc16 2 _ rfl; (try simp only [show (k58).sz = 4 from rfl, Nat.mul_one, Nat.add_zero] at hx16_2); have hf16_2 := hfr16 2; (try simp only [show (k58).sz = 4 from rfl, Nat.mul_one, Nat.add_zero] at hf16_2); clear hcl16 hcc16 hfr16 hM16) | ((with_reducible refine gate_store (t := 9) (p := 31) rfl ?_); refine store_event (t := 9) (p := 31) (v := ?vo_w17) (w1 := (w15.setCell ⟨go5, (x5_1 : Int).toNat * 4 + 2, none⟩ (.string t1219))) ?hg ?ho ?hn ?hr ?_; (case ho => rfl); (case hg => rfl); (case hn => rfl); (case hr => first | (go_simp; done) | (go_simp; rfl)); intro w17 hw; have hg : w15.grownBy w17 (some go5) := (by rw [hw]; exact HP16.2); have hp_ : Kd.R k58 58 w17 w0.heap.size (fun k_ => (P0_ k_ ∨ w.heap.size ≤ k_)) (.slice (some ⟨go5, 0, none⟩) x0_1.length co10) y1220 := (by rw [hw, Ny1220.out]; exact HP16.1); clear HP16; replace HB := am_ (((Zu GB5) : Below w0.heap.size w0 w17)); replace HK := am_ (Kept.of_grown (S := (fun k_ => P0_ k_)) hg Zt (fun k_ e_ => (HO_0.out.1 k_ e_))); replace HO_0 := am_ (hp_); clear hg hw hp_; have p9 : 0 ≤ (x5_1 : Int) := of_decide_eq_true Zn; have q9 : (x5_1 : Int) < ((x0_1.length : Int) : Int) := of_decide_eq_true Zn; obtain ⟨ce9, hcl9, hM9, hcc9, hfr9⟩ := Kd.R_elem HO_0.out z58 (x5_1 : Int) p9 q9; obtain rfl := k58_openM hM9; have hx9_0 : w17.cell? ⟨go5, (x5_1 : Int).toNat * 4, none⟩ = some (.int .i64 ((rd_T58 y1220 x5_1).f0)) := hcc9 0 _ rfl; have hx9_1 : w17.cell? ⟨go5, (x5_1 : Int).toNat * 4 + 1, none⟩ = some (.int .i64 ((rd_T58 y1220 x5_1).f1)) := hcc9 1 _ rfl; have hx9_2 : w17.cell? ⟨go5, (x5_1 : Int).toNat * 4 + 2, none⟩ = some (.string ((rd_T58 y1220 x5_1).f2)) := hcc9 2 _ rfl; have hx9_3 : w17.cell? ⟨go5, (x5_1 : Int).toNat * 4 + 3, none⟩ = some (.int .i64 ((rd_T58 y1220 x5_1).f3)) := hcc9 3 _ rfl; have hf9_0 : w17.frozen? ⟨go5, (x5_1 : Int).toNat * 4, none⟩ = false := hfr9 0; have hf9_1 := hfr9 1; have hf9_2 := hfr9 2; have hf9_3 := hfr9 3; clear hcl9 hcc9 hfr9 hM9; replace p9 := eq_true p9; replace q9 := eq_true q9; have HX18 := am_ (show Kd.R k58 58 w17 w0.heap.size (fun k_ => (P0_ k_ ∨ w.heap.size ≤ k_)) (.slice (some ⟨go5, 0, none⟩) x0_1.length co10) y1220 from (Zo HO_0)); obtain ⟨ce18, hcl18, hM18, hcc18, hfr18⟩ := Kd.R_elem HX18.out z58 (x5_1 : Int) (of_decide_eq_true Zn) (by have h_ : (x5_1 : Int) < ((x0_1.length : Int) : Int) := of_decide_eq_true Zn; first | exact h_ | (have e_ := (Kd.R_reads' HO_0.out).1; omega) | simpa using h_); obtain rfl := k58_openM hM18; have HP18 := Kd.R_seg HX18.out (x5_1 : Int) (of_decide_eq_true Zn) (by have h_ : (x5_1 : Int) < ((x0_1.length : Int) : Int) := of_decide_eq_true Zn; first | exact h_ | (have e_ := (Kd.R_reads' HO_0.out).1; omega) | simpa using h_) (seg := [.int .i64 (wrap64 ((wrap64 ((wrap64 (x1_1 + 1)) + 1)) + 1))]) (j := 3) hcl18 hcc18 (show 4 ≤ 4 from (by decide)) (x' := (⟨(rd_T58 y1220 x5_1).f0, (rd_T58 y1220 x5_1).f1, (rd_T58 y1220 x5_1).f2, wrap64 ((wrap64 ((wrap64 (x1_1 + 1)) + 1)) + 1)⟩ : S58)) (k58_mkM _ _ _ (⟨(rd_T58 y1220 x5_1).f0, (rd_T58 y1220 x5_1).f1, (rd_T58 y1220 x5_1).f2, wrap64 ((wrap64 ((wrap64 (x1_1 + 1)) + 1)) + 1)⟩ : S58) ) (fun _ hk => hk); have hx18_3 := hcc18 3 _ rfl; (try simp only [show (k58).sz = 4 from rfl, Nat.mul_one, Nat.add_zero] at hx18_3); have hf18_3 := hfr18 3; (try simp only [show (k58).sz = 4 from rfl, Nat.mul_one, Nat.add_zero] at hf18_3); clear hcl18 hcc18 hfr18 hM18) | ((with_reducible refine gate_store (t := 2) (p := 38) rfl ?_); refine store_event (t := 2) (p := 38) (v := ?vo_w19) (w1 := (w17.setCell ⟨go5, (x5_1 : Int).toNat * 4 + 3, none⟩ (.int .i64 (wrap64 ((wrap64 ((wrap64 (x1_1 + 1)) + 1)) + 1))))) ?hg ?ho ?hn ?hr ?_; (case ho => rfl); (case hg => rfl); (case hn => rfl); (case hr => first | (go_simp; done) | (go_simp; rfl)); intro w19 hw; have hg : w17.grownBy w19 (some go5) := (by rw [hw]; exact HP18.2); have hp_ : Kd.R k58 58 w19 w0.heap.size (fun k_ => (P0_ k_ ∨ w.heap.size ≤ k_)) (.slice (some ⟨go5, 0, none⟩) x0_1.length co10) y1221 := (by rw [hw, Ny1221.out]; exact HP18.1); clear HP18; replace HB := am_ (((Zu GB5) : Below w0.heap.size w0 w19)); replace HK := am_ (Kept.of_grown (S := (fun k_ => P0_ k_)) hg Zt (fun k_ e_ => (HO_0.out.1 k_ e_))); replace HO_0 := am_ (hp_); clear hg hw hp_))
     go_roundg k1
     case measure => have := HK1.out; omega
     case rel => exact ⟨(y1221), (wrap64 ((wrap64 ((wrap64 ((wrap64 (x1_1 + 1)) + 1)) + 1)) + 1)), (wrap64 (x5_1 + 1)), Za, Za, H', ⟨Zs⟩, ⟨(Zo HO_0)⟩, ⟨Zt⟩, ⟨Zd⟩⟩
    ·rw [if_neg c4] at H
     exact absurd H (by simp)
   ·rw [if_neg c3] at H
    have c3b0 := decide_eq_false c3; clear c3; simp only [Option.some.injEq, Prod.mk.injEq] at H; obtain ⟨rfl, rfl⟩ := H; obtain ⟨Ao20, co20, eo20⟩ := Kd.R_slice HO_0.out; subst eo20
    go_wp2
    go_ret
    exact ⟨Zj, (Zo HO_0), Zd, Zt⟩
end Go.Proofs.Ytmnnbmdfepogiaa.F
namespace Go.Proofs.Ytmnnbmdfepogiaa.F
open Go.RowKit Go.Proofs.YtmnnbmdfepogiaaW.PrintWords Go.Proofs.YtmnnbmdfepogiaaW.PrintLast Go.Proofs.YtmnnbmdfepogiaaW.PrintMore
set_option linter.unusedVariables false
set_option linter.unusedSimpArgs false
attribute [local go_sem] max2_int min2_int max_two min_two max_three min_three max_four min_four
 mutual
def full_toCueS.j0 : Nat → List (S101) → Bool → Option ((List (S58)))
 | 0, _, _ => none
 | k + 1, x0, x13 => if x13 = true then (some ([] : List (S58))) else ((laws_roomBehind.f (x0.length : Int)).bind fun t1120 => (if 0 ≤ (wrap64 ((x0.length : Int) + t1120)) then (if (wrap64 ((x0.length : Int) + t1120) : Int).toNat ≤ 7036874417766 then (full_toCueS.l0 k x0 (List.replicate (wrap64 ((x0.length : Int) + t1120) : Int).toNat z58) 0) else (none)) else (none)))
def full_toCueS.l0 : Nat → List (S101) → List (S58) → Int → Option ((List (S58)))
 | 0, _, _, _ => none
 | k + 1, x0, x5, x6 => if x6 < (x0.length : Int) then (if 0 ≤ x6 then ((laws_toCue.f ((rd_T101 x0 x6).f0) ((rd_T101 x0 x6).f1) ((rd_T101 x0 x6).f2) ((rd_T101 x0 x6).f3)).bind fun bt1125 => (if x6 < (x5.length : Int) then (full_toCueS.l0 k x0 (x5.set (x6 : Int).toNat (⟨bt1125.1, bt1125.2.1, bt1125.2.2.1, bt1125.2.2.2⟩ : S58)) (wrap64 (x6 + 1))) else (none))) else (none)) else (full_toCueS.l1 k x0 x5 (x0.length : Int))
def full_toCueS.l1 : Nat → List (S101) → List (S58) → Int → Option ((List (S58)))
 | 0, _, _, _ => none
 | k + 1, x0, x5, x7 => if x7 < (x5.length : Int) then ((laws_fillerCue.f).bind fun bt1130 => (if 0 ≤ x7 then (full_toCueS.l1 k x0 (x5.set (x7 : Int).toNat (⟨bt1130.1, bt1130.2.1, bt1130.2.2.1, bt1130.2.2.2⟩ : S58)) (wrap64 (x7 + 1))) else (none))) else (if 0 ≤ (x0.length : Int) then (if (x0.length : Int) ≤ (x5.length : Int) then (some x5) else (none)) else (none))
end
def full_toCueS.f (k : Nat) (l0 : List (S101)) (a1 : Bool) : Option ((List (S58))) := if a1 = true then (full_toCueS.j0 k l0 ((l0.length : Int) == 0)) else (full_toCueS.j0 k l0 false)
set_option maxHeartbeats 8000000 in
set_option maxRecDepth 100000 in
theorem full_toCueS.calls (k : Nat) (A0 : Option Addr) (c0 : Nat) (l0 : List (S101)) (a1 : Bool) (r : List (S58)) (w : World) (hr0 : Kd.C k101 w A0 l0.length l0) (hc0 : l0.length ≤ c0) (h : full_toCueS.f k l0 a1 = some r) :
  Calls Try.prog 48 #[.slice A0 l0.length c0, .bool a1] w fun e w' => ∃ v0_ : Value, e = .returned (v0_) ∧ Full k58 58 w' w.heap.size l0.length v0_ r ∧ Below w.heap.size w w' := by
 have hu101 := Try.underlying101; have hu58 := Try.underlying58; have HR0 := am_ hr0; have HC0 := am_ hc0; clear hr0 hc0; have HB := am_ (Below.refl w.heap.size w); have H : (if a1 = true then (full_toCueS.j0 k l0 ((l0.length : Int) == 0)) else (full_toCueS.j0 k l0 false)) = some r := h; clear h; have HC3 := am_ H; clear H
 go_enter Try.func48, Try.ntmps48
 go_upto_region 1 with (fail)
 go_cut [13] (fun v13 wc => ∃ (kq : Nat) (x13_2 : Bool), v13 = .bool x13_2 ∧ Aside0 (full_toCueS.j0 kq l0 x13_2 = some r) ∧ Aside0 (kq ≤ k) ∧ Aside0 (Below w.heap.size w wc))
 case first =>
  have H := HC3.out; clear HC3
  by_cases c4 : a1 = true
  ·subst c4
   rw [if_pos rfl] at H; have H' := am_ H; clear H
   go_wp2
   go_meet
   case rel => exact ⟨_, (((l0.length : Int) == 0)), Za, H', ⟨Zl⟩, ⟨Zd⟩⟩
  ·replace c4 := Bool.eq_false_iff.mpr c4
   subst c4; rw [if_neg (show ¬ (false = true) by decide)] at H; have H' := am_ H; clear H
   go_wp2
   go_meet
   case rel => exact ⟨_, (false), Za, H', ⟨Zl⟩, ⟨Zd⟩⟩
 case rest =>
  clear HC3
  try clear p2
  try clear c4
  obtain ⟨kq, x13_2, rfl, HA, HJ2, HB⟩ := hcut
  cases kq with
  | zero => exact absurd HA.out (by simp [full_toCueS.j0])
  | succ kj2 =>
   have H := HA.out; clear HA; simp only [full_toCueS.j0] at H
   by_cases c5 : x13_2 = true
   ·subst c5
    rw [if_pos rfl] at H; obtain rfl := Option.some.inj H
    go_wp2
    go_ret
    exact ⟨_, Zj, fun h_ => absurd rfl h_, Zd⟩
   ·replace c5 := Bool.eq_false_iff.mpr c5
    subst c5; rw [if_neg (show ¬ (false = true) by decide)] at H; replace H := Option.bind_eq_some_iff.mp H; obtain ⟨t1120, A60, H⟩ := H; have A6 := am_ A60; clear A60; obtain ⟨ji7, hji7⟩ : ∃ j_ : Int, (wrap64 ((l0.length : Int) + t1120)) = j_ := ⟨_, rfl⟩
    replace H : (if 0 ≤ (ji7) then (if (ji7 : Int).toNat ≤ 7036874417766 then (full_toCueS.l0 kj2 l0 (List.replicate (ji7 : Int).toNat z58) 0) else (none)) else (none)) = some r := by first | (rw [hji7] at H; exact H) | (simp only [hji7] at H ⊢; exact H)
    (try rw [hji7] at A6)
    have hji7w : (IntKind.i64.wrap ((l0.length : Int) + t1120)) = ji7 := (i64_w _).trans hji7
    by_cases c8 : 0 ≤ (ji7)
    ·rw [if_pos c8] at H
     have c8b0 := eq_true c8; have c8b1 := decide_eq_true c8; clear c8
     by_cases c9 : (ji7 : Int).toNat ≤ 7036874417766
     ·rw [if_pos c9] at H
      have c9b0 := eq_true c9; have c9b1 := decide_eq_true c9; clear c9; obtain ⟨y1121, hy1121⟩ : ∃ y_ : List (S58), y_ = (List.replicate (ji7 : Int).toNat z58) := ⟨_, rfl⟩
      (first | (rw [← hy1121] at H; with_reducible replace H := bindZ H) | rw [← hy1121] at H | skip)
      have Ny1121 := am_ hy1121; clear hy1121; have H' := am_ H; clear H
      go_wp2_with (first | ((with_reducible refine gate_callee (f := 84) rfl ?_); refine gZ 18 Try.func84 #[.int .i64 (l0.length : Int)] ?_; (with_reducible refine (laws_roomBehind.calls (l0.length : Int) t1120 _ A6.out).mono ?_); rintro e w' ⟨rfl, ⟨nd, rfl⟩⟩; refine ⟨_, rfl, ?_⟩) | ((with_reducible refine gate_dst (N := 20) rfl ?_); (try (refine gate_guard (by rfl) ?_; dsimp only)); refine Kd.R_make k58 _ 58 rfl (N := 20) rfl 33 _ _ rfl ji7 rfl rfl Try.underlying33 (.agg #[(.int .i64 0), (.int .i64 0), (.string ⟨#[]⟩), (.int .i64 0)]) 40 info58 rfl (by decide) (by omega) z58 (ok := fun _ => True) (okp := fun _ => True) (k58_mkM _ _ _ z58 ) (fun _ hk => hk) trivial (of_decide_eq_true Zn) (Nat.le_trans (Nat.mul_le_mul_right _ (of_decide_eq_true Zn : ji7.toNat ≤ 7036874417766)) (by omega)) (Below.refl _ _) (Nat.le_refl _) ?_; intro v1122 w10 ho11 hb hg_ hnew_; clear hg_ hnew_; (first | rw [← Ny1121.out] at ho11 | (simp only [Int.reduceToNat] at ho11; rw [← Ny1121.out] at ho11)); replace HO1123 := am_ (Kd.R_lower ho11 (below_size Zd)); replace HB := (bsZ Zd hb); clear hb ho11))
      go_loopg [6] kj2 (fun kq v6 w' => ∃ (x5_2 : List (S58)) (x6_2 : Int), v6 = .int .i64 x6_2 ∧ Aside0 (full_toCueS.l0 kq l0 x5_2 x6_2 = some r) ∧ Aside0 (kq ≤ kj2) ∧ Aside0 (Kd.R k58 58 w' w.heap.size (fun _ => True) v1122 x5_2) ∧ Aside0 (Below w.heap.size w w'))
      case atStart => exact ⟨(y1121), (0), Za, H', ⟨Nat.le_refl _⟩, ⟨(Zo HO1123)⟩, ⟨Zd⟩⟩
      case round =>
       clear H'
       try clear p2
       try clear c4
       try clear c5
       try clear p6
       try clear c8
       try clear c8b0
       try clear c8b1
       try clear c9
       try clear c9b0
       try clear c9b1
       try clear p2
       obtain ⟨x5_2, x6_2, rfl, HA, HK2, HO_5, HB⟩ := hrel
       cases gk with
       | zero => exact absurd HA.out (by simp [full_toCueS.l0])
       | succ k2 =>
        have H := HA.out; clear HA; simp only [full_toCueS.l0] at H
        by_cases c12 : x6_2 < (l0.length : Int)
        ·rw [if_pos c12] at H
         have c12b0 := decide_eq_true c12; clear c12
         by_cases c13 : 0 ≤ x6_2
         ·rw [if_pos c13] at H
          have c13b0 := decide_eq_true c13; clear c13; replace H := Option.bind_eq_some_iff.mp H; obtain ⟨⟨t1125, t1126, t1127, t1128⟩, A140, H⟩ := H
          dsimp only at H
          have A14 := am_ A140; clear A140
          by_cases c15 : x6_2 < (x5_2.length : Int)
          ·rw [if_pos c15] at H
           have c15b0 := decide_eq_true c15; clear c15; obtain ⟨y1129, hy1129⟩ : ∃ y_ : List (S58), y_ = (x5_2.set (x6_2 : Int).toNat (⟨t1125, t1126, t1127, t1128⟩ : S58)) := ⟨_, rfl⟩
           (first | (rw [← hy1129] at H; with_reducible replace H := bindZ H) | rw [← hy1129] at H | skip)
           have Ny1129 := am_ hy1129; clear hy1129; have H' := am_ H; clear H; have p1124 : 0 ≤ (x6_2 : Int) := of_decide_eq_true Zn; have q1124 : x6_2 < (l0.length : Int) := of_decide_eq_true Zn; obtain ⟨ad1124, e1124, hx1124_0, hx1124_1, hx1124_2, hx1124_3⟩ := at_T101 HR0.out x6_2 p1124 q1124
           cases e1124
           replace hx1124_0 := cbH HB hx1124_0; replace hx1124_1 := cbH HB hx1124_1; replace hx1124_2 := cbH HB hx1124_2; replace hx1124_3 := cbH HB hx1124_3; replace p1124 := eq_true p1124; replace q1124 := eq_true q1124
           go_wp2_with (first | ((with_reducible refine gate_callee (f := 89) rfl ?_); refine gZ 33 Try.func89 #[.agg #[.int .i64 ((rd_T101 l0 x6_2).f0), .int .i64 ((rd_T101 l0 x6_2).f1), .string ((rd_T101 l0 x6_2).f2), .int .i64 ((rd_T101 l0 x6_2).f3)]] ?_; (with_reducible refine (laws_toCue.calls ((rd_T101 l0 x6_2).f0) ((rd_T101 l0 x6_2).f1) ((rd_T101 l0 x6_2).f2) ((rd_T101 l0 x6_2).f3) t1125 t1126 t1127 t1128 _ A14.out).mono ?_); rintro e w17 ⟨rfl, hb⟩; refine ⟨_, rfl, ?_⟩; replace HO_5 := (hbZ HO_5 hb); replace HB := (bsZ Zd hb); clear hb; have p16 : 0 ≤ (x6_2 : Int) := of_decide_eq_true Zn; have q16 : (x6_2 : Int) < ((x5_2.length : Int) : Int) := of_decide_eq_true Zn; obtain ⟨go16, co16, eo16, gb16, gl16, cl16, HG16⟩ := Kd.R_form HO_5.out (by omega); (first | cases eo16 | (injection eo16 with ea_ en_ ec_; (first | subst ea_ | (injection ea_ with ea_; subst ea_)); subst ec_; clear en_)); have GB16 := am_ gb16; have GG16 := am_ HG16; clear gb16 gl16 HG16; obtain ⟨ce16, hcl16, hM16, hcc16, hfr16⟩ := Kd.R_elem HO_5.out z58 (x6_2 : Int) p16 q16; obtain rfl := k58_openM hM16; have hx16_0 : w17.cell? ⟨go16, (x6_2 : Int).toNat * 4, none⟩ = some (.int .i64 ((rd_T58 x5_2 x6_2).f0)) := hcc16 0 _ rfl; have hx16_1 : w17.cell? ⟨go16, (x6_2 : Int).toNat * 4 + 1, none⟩ = some (.int .i64 ((rd_T58 x5_2 x6_2).f1)) := hcc16 1 _ rfl; have hx16_2 : w17.cell? ⟨go16, (x6_2 : Int).toNat * 4 + 2, none⟩ = some (.string ((rd_T58 x5_2 x6_2).f2)) := hcc16 2 _ rfl; have hx16_3 : w17.cell? ⟨go16, (x6_2 : Int).toNat * 4 + 3, none⟩ = some (.int .i64 ((rd_T58 x5_2 x6_2).f3)) := hcc16 3 _ rfl; have hf16_0 : w17.frozen? ⟨go16, (x6_2 : Int).toNat * 4, none⟩ = false := hfr16 0; have hf16_1 := hfr16 1; have hf16_2 := hfr16 2; have hf16_3 := hfr16 3; clear hcl16 hcc16 hfr16 hM16; replace p16 := eq_true p16; replace q16 := eq_true q16; have HX18 := am_ (show Kd.R k58 58 w17 w.heap.size (fun _ => True) (.slice (some ⟨go16, 0, none⟩) x5_2.length co16) x5_2 from (Zo HO_5)); obtain ⟨ce18, hcl18, hM18, hcc18, hfr18⟩ := Kd.R_elem HX18.out z58 (x6_2 : Int) (of_decide_eq_true Zn) (by have h_ : (x6_2 : Int) < ((x5_2.length : Int) : Int) := of_decide_eq_true Zn; first | exact h_ | (have e_ := (Kd.R_reads' HO_5.out).1; omega) | simpa using h_); obtain rfl := k58_openM hM18; have HP18 := Kd.R_seg HX18.out (x6_2 : Int) (of_decide_eq_true Zn) (by have h_ : (x6_2 : Int) < ((x5_2.length : Int) : Int) := of_decide_eq_true Zn; first | exact h_ | (have e_ := (Kd.R_reads' HO_5.out).1; omega) | simpa using h_) (seg := [.int .i64 t1125, .int .i64 t1126, .string t1127, .int .i64 t1128]) (j := 0) hcl18 hcc18 (show 4 ≤ 4 from (by decide)) (x' := (⟨t1125, t1126, t1127, t1128⟩ : S58)) (k58_mkM _ _ _ (⟨t1125, t1126, t1127, t1128⟩ : S58) ) (fun _ hk => hk); have hx18_0 := hcc18 0 _ rfl; (try simp only [show (k58).sz = 4 from rfl, Nat.mul_one, Nat.add_zero] at hx18_0); have hf18_0 := hfr18 0; (try simp only [show (k58).sz = 4 from rfl, Nat.mul_one, Nat.add_zero] at hf18_0); have hx18_1 := hcc18 1 _ rfl; (try simp only [show (k58).sz = 4 from rfl, Nat.mul_one, Nat.add_zero] at hx18_1); have hf18_1 := hfr18 1; (try simp only [show (k58).sz = 4 from rfl, Nat.mul_one, Nat.add_zero] at hf18_1); have hx18_2 := hcc18 2 _ rfl; (try simp only [show (k58).sz = 4 from rfl, Nat.mul_one, Nat.add_zero] at hx18_2); have hf18_2 := hfr18 2; (try simp only [show (k58).sz = 4 from rfl, Nat.mul_one, Nat.add_zero] at hf18_2); have hx18_3 := hcc18 3 _ rfl; (try simp only [show (k58).sz = 4 from rfl, Nat.mul_one, Nat.add_zero] at hx18_3); have hf18_3 := hfr18 3; (try simp only [show (k58).sz = 4 from rfl, Nat.mul_one, Nat.add_zero] at hf18_3); clear hcl18 hcc18 hfr18 hM18) | ((with_reducible refine gate_store (t := 58) (p := 34) rfl ?_); refine store_event (t := 58) (p := 34) (v := ?vo_w19) (w1 := ((((w17.setCell ⟨go16, (x6_2 : Int).toNat * 4, none⟩ (.int .i64 t1125)).setCell ⟨go16, (x6_2 : Int).toNat * 4 + 1, none⟩ (.int .i64 t1126)).setCell ⟨go16, (x6_2 : Int).toNat * 4 + 2, none⟩ (.string t1127)).setCell ⟨go16, (x6_2 : Int).toNat * 4 + 3, none⟩ (.int .i64 t1128))) ?hg ?ho ?hn ?hr ?_; (case ho => rfl); (case hg => rfl); (case hn => rfl); (case hr => first | (go_simp; done) | (go_simp; rfl)); intro w19 hw; have hg : w17.grownBy w19 (some go16) := (by rw [hw]; exact HP18.2); have hp_ : Kd.R k58 58 w19 w.heap.size (fun _ => True) (.slice (some ⟨go16, 0, none⟩) x5_2.length co16) y1129 := (by rw [hw, Ny1129.out]; exact HP18.1); clear HP18; replace HO_5 := am_ (hp_); replace HB := am_ (((Zy GB16) : Below w.heap.size w w19)); clear hg hw hp_))
           go_roundg k2
           case measure => have := HJ2.out; have := HK2.out; omega
           case rel => exact ⟨(y1129), (wrap64 (x6_2 + 1)), Za, H', ⟨by have := HJ2.out; have := HK2.out; omega⟩, ⟨(Zo HO_5)⟩, ⟨Zd⟩⟩
          ·rw [if_neg c15] at H
           exact absurd H (by simp)
         ·rw [if_neg c13] at H
          exact absurd H (by simp)
        ·rw [if_neg c12] at H
         have c12b0 := decide_eq_false c12; clear c12; have H' := am_ H; clear H
         go_wp2
         go_loopg [7] k2 (fun kq v7 w' => ∃ (x5_3 : List (S58)) (x7_3 : Int), v7 = .int .i64 x7_3 ∧ Aside0 (full_toCueS.l1 kq l0 x5_3 x7_3 = some r) ∧ Aside0 (kq ≤ k2) ∧ Aside0 (Kd.R k58 58 w' w.heap.size (fun _ => True) v1122 x5_3) ∧ Aside0 (Below w.heap.size w w'))
         case atStart => exact ⟨(x5_2), ((l0.length : Int)), Za, H', ⟨Nat.le_refl _⟩, ⟨(Zo HO_5)⟩, ⟨Zd⟩⟩
         case round =>
          clear H'
          try clear c1
          try clear p1
          try clear q1
          try clear hx1
          try clear p2
          try clear c4
          try clear c5
          try clear p6
          try clear c8
          try clear c8b0
          try clear c8b1
          try clear c9
          try clear c9b0
          try clear c9b1
          try clear p11
          try clear q11
          try clear hx11
          try clear c12
          try clear c12b0
          try clear c13
          try clear c13b0
          try clear c15
          try clear c15b0
          try clear c16
          try clear p16
          try clear q16
          try clear hx16
          try clear hf16
          try clear c18
          try clear hx18
          try clear hf18
          try clear hx1124_0
          try clear hx1124_1
          try clear hx1124_2
          try clear hx1124_3
          try clear hx16_0
          try clear hx16_1
          try clear hx16_2
          try clear hx16_3
          try clear hx18_0
          try clear hx18_1
          try clear hx18_2
          try clear hx18_3
          try clear p1124
          try clear p16
          try clear p2
          try clear p6
          try clear q1124
          try clear q16
          obtain ⟨x5_3, x7_3, rfl, HA, HK3, HO_5, HB⟩ := hrel
          cases gk with
          | zero => exact absurd HA.out (by simp [full_toCueS.l1])
          | succ k3 =>
           have H := HA.out; clear HA; simp only [full_toCueS.l1] at H
           by_cases c20 : x7_3 < (x5_3.length : Int)
           ·rw [if_pos c20] at H
            have c20b0 := decide_eq_true c20; clear c20; replace H := Option.bind_eq_some_iff.mp H; obtain ⟨⟨t1130, t1131, t1132, t1133⟩, A210, H⟩ := H
            dsimp only at H
            have A21 := am_ A210; clear A210
            by_cases c22 : 0 ≤ x7_3
            ·rw [if_pos c22] at H
             have c22b0 := decide_eq_true c22; clear c22; obtain ⟨y1134, hy1134⟩ : ∃ y_ : List (S58), y_ = (x5_3.set (x7_3 : Int).toNat (⟨t1130, t1131, t1132, t1133⟩ : S58)) := ⟨_, rfl⟩
             (first | (rw [← hy1134] at H; with_reducible replace H := bindZ H) | rw [← hy1134] at H | skip)
             have Ny1134 := am_ hy1134; clear hy1134; have H' := am_ H; clear H; obtain ⟨Ao24, co24, eo24⟩ := Kd.R_slice HO_5.out; subst eo24
             go_wp2_with (first | ((with_reducible refine gate_callee (f := 90) rfl ?_); refine gZ 45 Try.func90 #[] ?_; (with_reducible refine (laws_fillerCue.calls  t1130 t1131 t1132 t1133 _ A21.out).mono ?_); rintro e w25 ⟨rfl, hb⟩; refine ⟨_, rfl, ?_⟩; replace HO_5 := (hbZ HO_5 hb); replace HB := (bsZ Zd hb); clear hb; have p23 : 0 ≤ (x7_3 : Int) := of_decide_eq_true Zn; have q23 : (x7_3 : Int) < ((x5_3.length : Int) : Int) := of_decide_eq_true Zn; obtain ⟨go23, co23, eo23, gb23, gl23, cl23, HG23⟩ := Kd.R_form HO_5.out (by omega); (first | cases eo23 | (injection eo23 with ea_ en_ ec_; (first | subst ea_ | (injection ea_ with ea_; subst ea_)); subst ec_; clear en_)); have GB23 := am_ gb23; have GG23 := am_ HG23; clear gb23 gl23 HG23; obtain ⟨ce23, hcl23, hM23, hcc23, hfr23⟩ := Kd.R_elem HO_5.out z58 (x7_3 : Int) p23 q23; obtain rfl := k58_openM hM23; have hx23_0 : w25.cell? ⟨go23, (x7_3 : Int).toNat * 4, none⟩ = some (.int .i64 ((rd_T58 x5_3 x7_3).f0)) := hcc23 0 _ rfl; have hx23_1 : w25.cell? ⟨go23, (x7_3 : Int).toNat * 4 + 1, none⟩ = some (.int .i64 ((rd_T58 x5_3 x7_3).f1)) := hcc23 1 _ rfl; have hx23_2 : w25.cell? ⟨go23, (x7_3 : Int).toNat * 4 + 2, none⟩ = some (.string ((rd_T58 x5_3 x7_3).f2)) := hcc23 2 _ rfl; have hx23_3 : w25.cell? ⟨go23, (x7_3 : Int).toNat * 4 + 3, none⟩ = some (.int .i64 ((rd_T58 x5_3 x7_3).f3)) := hcc23 3 _ rfl; have hf23_0 : w25.frozen? ⟨go23, (x7_3 : Int).toNat * 4, none⟩ = false := hfr23 0; have hf23_1 := hfr23 1; have hf23_2 := hfr23 2; have hf23_3 := hfr23 3; clear hcl23 hcc23 hfr23 hM23; replace p23 := eq_true p23; replace q23 := eq_true q23; have HX26 := am_ (show Kd.R k58 58 w25 w.heap.size (fun _ => True) (.slice (some ⟨go23, 0, none⟩) x5_3.length co24) x5_3 from (Zo HO_5)); obtain ⟨ce26, hcl26, hM26, hcc26, hfr26⟩ := Kd.R_elem HX26.out z58 (x7_3 : Int) (of_decide_eq_true Zn) (by have h_ : (x7_3 : Int) < ((x5_3.length : Int) : Int) := of_decide_eq_true Zn; first | exact h_ | (have e_ := (Kd.R_reads' HO_5.out).1; omega) | simpa using h_); obtain rfl := k58_openM hM26; have HP26 := Kd.R_seg HX26.out (x7_3 : Int) (of_decide_eq_true Zn) (by have h_ : (x7_3 : Int) < ((x5_3.length : Int) : Int) := of_decide_eq_true Zn; first | exact h_ | (have e_ := (Kd.R_reads' HO_5.out).1; omega) | simpa using h_) (seg := [.int .i64 t1130, .int .i64 t1131, .string t1132, .int .i64 t1133]) (j := 0) hcl26 hcc26 (show 4 ≤ 4 from (by decide)) (x' := (⟨t1130, t1131, t1132, t1133⟩ : S58)) (k58_mkM _ _ _ (⟨t1130, t1131, t1132, t1133⟩ : S58) ) (fun _ hk => hk); have hx26_0 := hcc26 0 _ rfl; (try simp only [show (k58).sz = 4 from rfl, Nat.mul_one, Nat.add_zero] at hx26_0); have hf26_0 := hfr26 0; (try simp only [show (k58).sz = 4 from rfl, Nat.mul_one, Nat.add_zero] at hf26_0); have hx26_1 := hcc26 1 _ rfl; (try simp only [show (k58).sz = 4 from rfl, Nat.mul_one, Nat.add_zero] at hx26_1); have hf26_1 := hfr26 1; (try simp only [show (k58).sz = 4 from rfl, Nat.mul_one, Nat.add_zero] at hf26_1); have hx26_2 := hcc26 2 _ rfl; (try simp only [show (k58).sz = 4 from rfl, Nat.mul_one, Nat.add_zero] at hx26_2); have hf26_2 := hfr26 2; (try simp only [show (k58).sz = 4 from rfl, Nat.mul_one, Nat.add_zero] at hf26_2); have hx26_3 := hcc26 3 _ rfl; (try simp only [show (k58).sz = 4 from rfl, Nat.mul_one, Nat.add_zero] at hx26_3); have hf26_3 := hfr26 3; (try simp only [show (k58).sz = 4 from rfl, Nat.mul_one, Nat.add_zero] at hf26_3); clear hcl26 hcc26 hfr26 hM26) | ((with_reducible refine gate_store (t := 58) (p := 46) rfl ?_); refine store_event (t := 58) (p := 46) (v := ?vo_w27) (w1 := ((((w25.setCell ⟨go23, (x7_3 : Int).toNat * 4, none⟩ (.int .i64 t1130)).setCell ⟨go23, (x7_3 : Int).toNat * 4 + 1, none⟩ (.int .i64 t1131)).setCell ⟨go23, (x7_3 : Int).toNat * 4 + 2, none⟩ (.string t1132)).setCell ⟨go23, (x7_3 : Int).toNat * 4 + 3, none⟩ (.int .i64 t1133))) ?hg ?ho ?hn ?hr ?_; (case ho => rfl); (case hg => rfl); (case hn => rfl); (case hr => first | (go_simp; done) | (go_simp; rfl)); intro w27 hw; have hg : w25.grownBy w27 (some go23) := (by rw [hw]; exact HP26.2); have hp_ : Kd.R k58 58 w27 w.heap.size (fun _ => True) (.slice (some ⟨go23, 0, none⟩) x5_3.length co24) y1134 := (by rw [hw, Ny1134.out]; exact HP26.1); clear HP26; replace HO_5 := am_ (hp_); replace HB := am_ (((Zy GB23) : Below w.heap.size w w27)); clear hg hw hp_))
             go_roundg k3
             case measure => have := HJ2.out; have := HK2.out; have := HK3.out; omega
             case rel => exact ⟨(y1134), (wrap64 (x7_3 + 1)), Za, H', ⟨Zp⟩, ⟨(Zo HO_5)⟩, ⟨Zd⟩⟩
            ·rw [if_neg c22] at H
             exact absurd H (by simp)
           ·rw [if_neg c20] at H
            have c20b0 := decide_eq_false c20; clear c20
            by_cases c28 : 0 ≤ (l0.length : Int)
            ·rw [if_pos c28] at H
             have c28b0 := eq_true c28; have c28b1 := decide_eq_true c28; clear c28
             by_cases c29 : (l0.length : Int) ≤ (x5_3.length : Int)
             ·rw [if_pos c29] at H
              have c29b0 := eq_true c29; have c29b1 := decide_eq_true c29; clear c29; have HE_ := am_ (Option.some.inj H); clear H; obtain ⟨Ao30, co30, eo30⟩ := Kd.R_slice HO_5.out; subst eo30; have q31 : ((l0.length : Int) : Int) ≤ ((x5_3.length : Int) : Int) := of_decide_eq_true Zn; obtain ⟨i031, hi031, _, hsz31, _⟩ := info_parts info58; have hcut31 := cut_to (P := Try.prog) 33 58 .i64 Try.underlying33 hi031 Ao30 x5_3.length co30 (l0.length : Int) (of_decide_eq_true Zn) q31 (Kd.R_reads' HO_5.out).2.1; have hz_ : ((l0.length : Int) : Int).toNat = l0.length := Int.toNat_natCast _; rw [hz_] at hcut31; clear hi031 hsz31 hz_; have HL_ := am_ (show l0.length ≤ x5_3.length by omega); replace q31 := eq_true q31
              go_wp2
              go_ret
              exact ⟨_, rfl, (fun _ => ⟨_, _, rfl, (by rw [← HE_.out]; exact HL_.out), (Zv HO_5)⟩), Zd⟩
             ·rw [if_neg c29] at H
              exact absurd H (by simp)
            ·rw [if_neg c28] at H
             exact absurd H (by simp)
     ·rw [if_neg c9] at H
      exact absurd H (by simp)
    ·rw [if_neg c8] at H
     exact absurd H (by simp)
 
def T_intactCueS : Bool × List (List Nat × List Nat) := (true, [([], []), ([0], [0]), ([], []), ([2], [2]), ([1, 3], [1, 3]), ([4], [4]), ([5], [5]), ([5], [5]), ([6, 7, 5], [5, 6, 7]), ([5], [5]), ([5], [5]), ([9, 10, 5], [5, 9, 10]), ([8, 11, 5, 5], [5, 8, 11]), ([5, 12], [5, 12]), ([13, 12, 0, 1, 2, 3, 4, 5, 6, 7, 8, 9, 10, 11, 12, 13], [13])])
def B_intactCueS : List Nat := [0, 1, 0, 4, 15, 31, 63, 63, 255, 63, 63, 1599, 4095, 8191, 16383]
theorem tab_intactCueS : rtab .any (opsOf Try.f52 2) = T_intactCueS := by kernel_rfl
theorem bits_intactCueS : waitsOk T_intactCueS.2 B_intactCueS = true := by kernel_rfl
set_option maxHeartbeats 8000000 in
set_option maxRecDepth 100000 in
theorem same_intactCueS (k n : Nat) (A0 : Option Addr) (c0 : Nat) (A1 : Option Addr) (c1 : Nat) (L : List S58) (t : Int) (w : World) (hr0 : Kd.C k58 w A0 L.length L) (hc0 : L.length ≤ c0) (hr1 : Kd.C k58 w A1 L.length L) (hc1 : L.length ≤ c1)
    (ht : laws_roomBehind.f (n : Int) = some t) (hj : wrap64 ((n : Int) + t) = (L.length : Int)) (he : laws_eqCueS.f k L L = some true) :
    Calls Try.prog 52 #[.slice A0 n c0, .slice A1 n c1] w fun e w' => e = .returned (.bool true) ∧ Below w.heap.size w w' := by
  have HR0 := am_ hr0; have HC0 := am_ hc0; clear hr0 hc0; have HR1 := am_ hr1; have HC1 := am_ hc1; clear hr1 hc1; have HB := am_ (Below.refl w.heap.size w); have A3 := am_ ht; have A10 := am_ he; clear ht he; obtain ⟨ji5, hji⟩ : ∃ j_ : Int, (L.length : Int) = j_ := ⟨_, rfl⟩; rw [hji] at hj; have hji5w : (IntKind.i64.wrap ((n : Int) + t)) = ji5 := (i64_w _).trans hj; have hji5 := hj; clear hj; obtain ⟨i012, hi012, _, hsz12, _⟩ := info_parts info58; have hcut12 := cut_cap (P := Try.prog) 33 58 .i64 Try.underlying33 hi012 A0 n c0 ji5 (by omega) (by have := HC0.out; omega); have hcut13 := cut_cap (P := Try.prog) 33 58 .i64 Try.underlying33 hi012 A1 n c1 ji5 (by omega) (by have := HC1.out; omega)
  have hL : ji5.toNat = L.length := by omega
  rw [hL] at hcut12 hcut13; clear hL hi012 hsz12 hji
  go_enter Try.func52, Try.ntmps52
  go_wp2_with (first | ((with_reducible refine gate_callee (f := 84) rfl ?_); refine gZ 10 Try.func84 #[.int .i64 (n : Int)] ?_; (with_reducible refine (laws_roomBehind.calls (n : Int) t _ A3.out).mono ?_); rintro e w' ⟨rfl, ⟨nd, rfl⟩⟩; refine ⟨_, rfl, ?_⟩))
  replace HB := am_ (below_drew1 (pw_below_drewN HB.out nd)); refine start_ (n := 15) (S := fun w' => True) (ds := []) (bT 15 0) Zi rfl rfl trivial (fun hHeld => ?_); refine with_tabW tab_intactCueS bits_intactCueS (fun HT_ HW_ => ?_); generalize (w.drewN nd).drew = w11 at HB hHeld ⊢; refine pure_ (i := 0) (N := some 12) (v := ?_) (a' := ?_) (bT 15 1) rfl rfl (any_of HT_.out Zi) (fun _ _ _ h => h) (Or.inl ⟨by rfl, ?_⟩) ?_ ?_; rotate_left
  · intro w'
    go_simp
    with_reducible rfl
  rotate_left
  · simp only [Act.put, List.setIfInBounds_toArray, List.set_cons_zero, List.set_cons_succ, i64_w, i32_w]
    rfl
  refine pure_ (i := 1) (N := some 13) (v := ?_) (a' := ?_) (bT 15 2) rfl rfl (any_of HT_.out Zi) (fun _ _ _ h => h) (Or.inl ⟨by rfl, ?_⟩) ?_ ?_; rotate_left
  · intro w'
    go_simp
    with_reducible rfl
  rotate_left
  · simp only [Act.put, List.setIfInBounds_toArray, List.set_cons_zero, List.set_cons_succ, i64_w, i32_w]
    rfl
  refine pure_ (i := 2) (N := some 14) (v := ?_) (a' := ?_) (bT 15 3) rfl rfl (any_of HT_.out Zi) (fun _ _ _ h => h) (Or.inl ⟨by rfl, ?_⟩) ?_ ?_; rotate_left
  · intro w'
    go_simp
    with_reducible rfl
  rotate_left
  · simp only [Act.put, List.setIfInBounds_toArray, List.set_cons_zero, List.set_cons_succ, i64_w, i32_w]
    rfl
  refine pure_ (i := 3) (N := some 15) (v := ?_) (a' := ?_) (bT 15 4) rfl rfl (any_of HT_.out Zi) (fun _ _ _ h => h) (Or.inl ⟨by rfl, ?_⟩) ?_ ?_; rotate_left
  · intro w'
    go_simp
    with_reducible rfl
  rotate_left
  · simp only [Act.put, List.setIfInBounds_toArray, List.set_cons_zero, List.set_cons_succ, i64_w, i32_w]
    rfl
  refine pure_ (i := 4) (N := some 16) (v := ?_) (a' := ?_) (bT 15 5) rfl rfl (any_of HT_.out Zi) (fun _ _ _ h => h) (Or.inl ⟨by rfl, ?_⟩) ?_ ?_; rotate_left
  · intro w'
    go_simp
    with_reducible rfl
  rotate_left
  · simp only [Act.put, List.setIfInBounds_toArray, List.set_cons_zero, List.set_cons_succ, i64_w, i32_w]
    rfl
  refine pure_ (i := 5) (N := some 17) (v := ?_) (a' := ?_) (bT 15 6) rfl rfl (any_of HT_.out Zi) (fun _ _ _ h => h) (Or.inl ⟨by rfl, ?_⟩) ?_ ?_; rotate_left
  · intro w'
    go_simp
    with_reducible rfl
  rotate_left
  · simp only [Act.put, List.setIfInBounds_toArray, List.set_cons_zero, List.set_cons_succ, i64_w, i32_w]
    rfl
  refine pure_ (i := 6) (N := some 18) (v := ?_) (a' := ?_) (bT 15 7) rfl rfl (any_of HT_.out Zi) (fun _ _ _ h => h) (Or.inl ⟨by rfl, ?_⟩) ?_ ?_; rotate_left
  · intro w'
    go_simp
    with_reducible rfl
  rotate_left
  · simp only [Act.put, List.setIfInBounds_toArray, List.set_cons_zero, List.set_cons_succ, i64_w, i32_w]
    rfl
  refine pure_ (i := 7) (N := some 19) (v := ?_) (a' := ?_) (bT 15 8) rfl rfl (any_of HT_.out Zi) (fun _ _ _ h => h) (Or.inl ⟨by rfl, ?_⟩) ?_ ?_; rotate_left
  · intro w'
    go_simp
    with_reducible rfl
  rotate_left
  · simp only [Act.put, List.setIfInBounds_toArray, List.set_cons_zero, List.set_cons_succ, i64_w, i32_w]
    rfl
  refine pure_ (i := 8) (N := some 20) (v := ?_) (a' := ?_) (bT 15 9) rfl rfl (any_of HT_.out Zi) (fun _ _ _ h => h) (Or.inl ⟨by rfl, ?_⟩) ?_ ?_; rotate_left
  · intro w'
    go_simp
    with_reducible rfl
  rotate_left
  · simp only [Act.put, List.setIfInBounds_toArray, List.set_cons_zero, List.set_cons_succ, i64_w, i32_w]
    rfl
  refine pure_ (i := 9) (N := some 21) (v := ?_) (a' := ?_) (bT 15 10) rfl rfl (any_of HT_.out Zi) (fun _ _ _ h => h) (Or.inl ⟨by rfl, ?_⟩) ?_ ?_; rotate_left
  · intro w'
    go_simp
    with_reducible rfl
  rotate_left
  · simp only [Act.put, List.setIfInBounds_toArray, List.set_cons_zero, List.set_cons_succ, i64_w, i32_w]
    rfl
  refine pure_ (i := 10) (N := some 22) (v := ?_) (a' := ?_) (bT 15 11) rfl rfl (any_of HT_.out Zi) (fun _ _ _ h => h) (Or.inl ⟨by rfl, ?_⟩) ?_ ?_; rotate_left
  · intro w'
    go_simp
    with_reducible rfl
  rotate_left
  · simp only [Act.put, List.setIfInBounds_toArray, List.set_cons_zero, List.set_cons_succ, i64_w, i32_w]
    rfl
  refine pure_ (i := 11) (N := some 23) (v := ?_) (a' := ?_) (bT 15 12) rfl rfl (any_of HT_.out Zi) (fun _ _ _ h => h) (Or.inl ⟨by rfl, ?_⟩) ?_ ?_; rotate_left
  · intro w'
    go_simp
    with_reducible rfl
  rotate_left
  · simp only [Act.put, List.setIfInBounds_toArray, List.set_cons_zero, List.set_cons_succ, i64_w, i32_w]
    rfl
  refine one_ (i := 12) (N := some 24) (bT 15 13) rfl rfl (one_of HT_.out Zi) (by decide) (fun K hK => ?_); refine goes_ Try.func93 Zi rfl #[.slice A0 L.length c0, .slice A1 L.length c1] (by rfl) rfl rfl (by (try simp only [List.map_toArray, List.map_cons, List.map_nil]); first | done | rfl) ?_
  with_reducible refine (laws_eqCueS.calls k _ _ L _ _ L true _ (Kd.C_below HR0.out HB.out) HC0.out (Kd.C_below HR1.out HB.out) HC1.out A10.out).mono ?_
  rintro e w14 ⟨rfl, hb⟩; refine ⟨_, rfl, ?_⟩; replace HB := (bsZ HB.out hb); clear hb; refine hK.out _ _ trivial (fun hHeld => ?_); clear hK K; refine normZ 24 ?_; refine pure_ (i := 13) (N := some 25) (v := ?_) (a' := ?_) (bT 15 14) rfl rfl (any_of HT_.out Zi) (fun _ _ _ h => h) (Or.inl ⟨by rfl, ?_⟩) ?_ ?_; rotate_left
  · intro w'
    go_simp
    with_reducible rfl
  rotate_left
  · simp only [Act.put, List.setIfInBounds_toArray, List.set_cons_zero, List.set_cons_succ, i64_w, i32_w]
    rfl
  refine pure_ (i := 14) (N := some 4) (v := ?_) (a' := ?_) (bT 15 15) rfl rfl (any_of HT_.out Zi) (fun _ _ _ h => h) (Or.inl ⟨by rfl, ?_⟩) ?_ ?_; rotate_left
  · intro w'
    go_simp
    with_reducible rfl
  rotate_left
  · simp only [Act.put, List.setIfInBounds_toArray, List.set_cons_zero, List.set_cons_succ, i64_w, i32_w]
    rfl
  refine done_ (done_of HT_.out Zi) ?_
  try go_wp2
  go_ret
  exact ⟨rfl, HB.out⟩
theorem one101 : Try.prog.cellsOf 2 = 1 := by kernel_rfl
theorem ones101 : Try.prog.cellsOf 9 = 1 := by kernel_rfl
theorem size101 : Try.prog.cellsOf 101 = 4 := by kernel_rfl
def Pr101 (x : S101) : Prop := I64 x.f0 ∧ I64 x.f1 ∧ x.f2.size ≤ maxLen ∧ I64 x.f3
theorem open_S101 {H : Type} {enc : TypeId × Value → H} {W : World} {base : Nat} {sp : Nat → Bool} {held : Bool} {fuel : Nat} {cs : List Value} {y : DataW H × List MemPlace} (h : DataW.trod enc Try.prog W base sp held fuel 101 cs = some y) (w : World) : ∃ a : S101, k101.K w a cs ∧ Pr101 a := by
  obtain ⟨xs, n, _, rfl, hl, hlen, hf⟩ := DataW.trod_struct Try.underlying101 h; rw [size101] at hl; obtain ⟨v0, e0, _, w0⟩ := DataW.trod_int Try.underlying2 ((hf 0 _ rfl).trans (List.getElem?_eq_getElem Zw)); have g0 : cs[0]? = some (.int .i64 v0) := one_cell (by have z : List.take (Try.prog.cellsOf 2) (List.drop 0 cs) = [.int .i64 v0] := e0; rw [one101] at z; exact z); obtain ⟨v1, e1, _, w1⟩ := DataW.trod_int Try.underlying2 ((hf 1 _ rfl).trans (List.getElem?_eq_getElem Zw)); have g1 : cs[1]? = some (.int .i64 v1) := one_cell (by have z : List.take (Try.prog.cellsOf 2) (List.drop 1 cs) = [.int .i64 v1] := e1; rw [one101] at z; exact z); obtain ⟨v2, e2, _, w2⟩ := DataW.trod_string Try.underlying9 ((hf 2 _ rfl).trans (List.getElem?_eq_getElem Zw)); have g2 : cs[2]? = some (.string v2) := one_cell (by have z : List.take (Try.prog.cellsOf 9) (List.drop 2 cs) = [.string v2] := e2; rw [ones101] at z; exact z); obtain ⟨v3, e3, _, w3⟩ := DataW.trod_int Try.underlying2 ((hf 3 _ rfl).trans (List.getElem?_eq_getElem Zw)); have g3 : cs[3]? = some (.int .i64 v3) := one_cell (by have z : List.take (Try.prog.cellsOf 2) (List.drop 3 cs) = [.int .i64 v3] := e3; rw [one101] at z; exact z)
  have hcs : cs = [.int .i64 v0, .int .i64 v1, .string v2, .int .i64 v3] := by
    apply List.ext_getElem?
    intro i
    match i with
    | 0 => exact g0
    | 1 => exact g1
    | 2 => exact g2
    | 3 => exact g3
    | i + 4 => rw [List.getElem?_eq_none (by omega)]; rfl
  subst hcs; exact ⟨⟨v0, v1, v2, v3⟩, k101_mk w _, I64_of w0, I64_of w1, w2, I64_of w3⟩
end Go.Proofs.Ytmnnbmdfepogiaa.F
namespace Go.Proofs.Ytmnnbmdfepogiaa.F
open Go.RowKit Go.Proofs.YtmnnbmdfepogiaaW.PrintWords Go.Proofs.YtmnnbmdfepogiaaW.PrintLast Go.Proofs.YtmnnbmdfepogiaaW.PrintMore
attribute [local go_sem] max2_int min2_int max_two min_two max_three min_three max_four min_four
set_option linter.unusedVariables false
set_option linter.unusedSimpArgs false
def laws_szShow.f (k : Nat) (l0_0 : List (S106)) (l0_1 : List (S99)) (l0_2 : List (S101)) (a1 : Int) : Option (Int) := (laws_szBarS.f l0_0 a1).bind fun t1063 => (if t1063 < 0 then (some (-1)) else ((laws_szArticleS.f k l0_1 t1063).bind fun t1064 => (if t1064 < 0 then (some (-1)) else ((laws_szCueS.f k l0_2 t1064).bind fun t1065 => (if t1065 < 0 then (some (-1)) else (some t1065))))))
set_option maxHeartbeats 8000000 in
set_option maxRecDepth 100000 in
theorem laws_szShow.calls (k : Nat) (A0_0 : Option Addr) (c0_0 : Nat) (l0_0 : List (S106)) (A0_1 : Option Addr) (c0_1 : Nat) (l0_1 : List (S99)) (A0_2 : Option Addr) (c0_2 : Nat) (l0_2 : List (S101)) (a1 : Int) (r : Int) (w : World) (hr0_0 : Kd.C k106 w A0_0 l0_0.length l0_0) (hc0_0 : l0_0.length ≤ c0_0) (hr0_1 : Kd.C k99 w A0_1 l0_1.length l0_1) (hc0_1 : l0_1.length ≤ c0_1) (hr0_2 : Kd.C k101 w A0_2 l0_2.length l0_2) (hc0_2 : l0_2.length ≤ c0_2) (h : laws_szShow.f k l0_0 l0_1 l0_2 a1 = some r) :
  Calls Try.prog 7 #[.agg #[.slice A0_0 l0_0.length c0_0, .slice A0_1 l0_1.length c0_1, .slice A0_2 l0_2.length c0_2], .int .i64 a1] w fun e w' => e = .returned (.int .i64 r) ∧ Below w.heap.size w w' := by
 have hu26 := Try.underlying26; have HR0_0 := am_ hr0_0; have HC0_0 := am_ hc0_0; clear hr0_0 hc0_0; have HR0_1 := am_ hr0_1; have HC0_1 := am_ hc0_1; clear hr0_1 hc0_1; have HR0_2 := am_ hr0_2; have HC0_2 := am_ hc0_2; clear hr0_2 hc0_2; have HB := am_ (Below.refl w.heap.size w); have H : ((laws_szBarS.f l0_0 a1).bind fun t1063 => (if t1063 < 0 then (some (-1)) else ((laws_szArticleS.f k l0_1 t1063).bind fun t1064 => (if t1064 < 0 then (some (-1)) else ((laws_szCueS.f k l0_2 t1064).bind fun t1065 => (if t1065 < 0 then (some (-1)) else (some t1065))))))) = some r := h; clear h; replace H := Option.bind_eq_some_iff.mp H; obtain ⟨t1063, A30, H⟩ := H; have A3 := am_ A30; clear A30
 by_cases c4 : t1063 < 0
 ·rw [if_pos c4] at H
  have c4b0 := decide_eq_true c4; clear c4; obtain rfl := Option.some.inj H
  go_enter Try.func7, Try.ntmps7
  go_wp2_with (first | ((with_reducible refine gate_dst (N := 2) rfl ?_); refine boxZ 2 #[.slice A0_0 l0_0.length c0_0, .slice A0_1 l0_1.length c0_1, .slice A0_2 l0_2.length c0_2] 26 ?_; intro gb1062 hg w5 hbox hb; replace BK1062 := am_ (hbox); replace GW1062 := am_ ((Zc : w.heap.size ≤ gb1062)); replace GE1062 := GW1062; replace HB := (bsZ Zd hb); clear hb hbox hg; refine ci3 BK1062 ?_; intros) | ((with_reducible refine gate_callee (f := 40) rfl ?_); refine gZ 8 Try.func40 #[.slice A0_0 l0_0.length c0_0, .int .i64 a1] ?_; (with_reducible refine (laws_szBarS.calls _ _ l0_0 a1 t1063 _ ?_ ?_ A3.out).mono ?_); exact (Zz HR0_0); exact HC0_0.out; rintro e w' ⟨rfl, ⟨nd, rfl⟩⟩; refine ⟨_, rfl, ?_⟩))
  go_ret
  exact ⟨Zj, (Zf GE1062)⟩
 ·rw [if_neg c4] at H
  have c4b0 := decide_eq_false c4; clear c4; replace H := Option.bind_eq_some_iff.mp H; obtain ⟨t1064, A70, H⟩ := H; have A7 := am_ A70; clear A70
  by_cases c8 : t1064 < 0
  ·rw [if_pos c8] at H
   have c8b0 := decide_eq_true c8; clear c8; obtain rfl := Option.some.inj H
   go_enter Try.func7, Try.ntmps7
   go_wp2_with (first | ((with_reducible refine gate_dst (N := 2) rfl ?_); refine boxZ 2 #[.slice A0_0 l0_0.length c0_0, .slice A0_1 l0_1.length c0_1, .slice A0_2 l0_2.length c0_2] 26 ?_; intro gb1062 hg w9 hbox hb; replace BK1062 := am_ (hbox); replace GW1062 := am_ ((Zc : w.heap.size ≤ gb1062)); replace GE1062 := GW1062; replace HB := (bsZ Zd hb); clear hb hbox hg; refine ci3 BK1062 ?_; intros) | ((with_reducible refine gate_callee (f := 40) rfl ?_); refine gZ 8 Try.func40 #[.slice A0_0 l0_0.length c0_0, .int .i64 a1] ?_; (with_reducible refine (laws_szBarS.calls _ _ l0_0 a1 t1063 _ ?_ ?_ A3.out).mono ?_); exact (Zz HR0_0); exact HC0_0.out; rintro e w' ⟨rfl, ⟨nd, rfl⟩⟩; refine ⟨_, rfl, ?_⟩) | ((with_reducible refine gate_callee (f := 41) rfl ?_); refine gZ 14 Try.func41 #[.slice A0_1 l0_1.length c0_1, .int .i64 t1063] ?_; (with_reducible refine (laws_szArticleS.calls k _ _ l0_1 t1063 t1064 _ ?_ ?_ A7.out).mono ?_); exact (Zaa HR0_1 GE1062); exact HC0_1.out; rintro e w11 ⟨rfl, hb⟩; refine ⟨_, rfl, ?_⟩; replace BK1062 := (bkZ BK1062 hb); replace HB := (bsZ (Zf GE1062) hb); clear hb))
   go_ret
   exact ⟨Zj, (Zf GE1062)⟩
  ·rw [if_neg c8] at H
   have c8b0 := decide_eq_false c8; clear c8; replace H := Option.bind_eq_some_iff.mp H; obtain ⟨t1065, A120, H⟩ := H; have A12 := am_ A120; clear A120
   by_cases c13 : t1065 < 0
   ·rw [if_pos c13] at H
    have c13b0 := decide_eq_true c13; clear c13; obtain rfl := Option.some.inj H
    go_enter Try.func7, Try.ntmps7
    go_wp2_with (first | ((with_reducible refine gate_dst (N := 2) rfl ?_); refine boxZ 2 #[.slice A0_0 l0_0.length c0_0, .slice A0_1 l0_1.length c0_1, .slice A0_2 l0_2.length c0_2] 26 ?_; intro gb1062 hg w14 hbox hb; replace BK1062 := am_ (hbox); replace GW1062 := am_ ((Zc : w.heap.size ≤ gb1062)); replace GE1062 := GW1062; replace HB := (bsZ Zd hb); clear hb hbox hg; refine ci3 BK1062 ?_; intros) | ((with_reducible refine gate_callee (f := 40) rfl ?_); refine gZ 8 Try.func40 #[.slice A0_0 l0_0.length c0_0, .int .i64 a1] ?_; (with_reducible refine (laws_szBarS.calls _ _ l0_0 a1 t1063 _ ?_ ?_ A3.out).mono ?_); exact (Zz HR0_0); exact HC0_0.out; rintro e w' ⟨rfl, ⟨nd, rfl⟩⟩; refine ⟨_, rfl, ?_⟩) | ((with_reducible refine gate_callee (f := 41) rfl ?_); refine gZ 14 Try.func41 #[.slice A0_1 l0_1.length c0_1, .int .i64 t1063] ?_; (with_reducible refine (laws_szArticleS.calls k _ _ l0_1 t1063 t1064 _ ?_ ?_ A7.out).mono ?_); exact (Zaa HR0_1 GE1062); exact HC0_1.out; rintro e w16 ⟨rfl, hb⟩; refine ⟨_, rfl, ?_⟩; replace BK1062 := (bkZ BK1062 hb); replace HB := (bsZ (Zf GE1062) hb); clear hb; refine ci3 BK1062 ?_; intros) | ((with_reducible refine gate_callee (f := 42) rfl ?_); refine gZ 20 Try.func42 #[.slice A0_2 l0_2.length c0_2, .int .i64 t1064] ?_; (with_reducible refine (laws_szCueS.calls k _ _ l0_2 t1064 t1065 _ ?_ ?_ A12.out).mono ?_); exact (Zz HR0_2); exact HC0_2.out; rintro e w18 ⟨rfl, hb⟩; refine ⟨_, rfl, ?_⟩; replace BK1062 := (bkZ BK1062 hb); replace HB := (bsZ (Zf GE1062) hb); clear hb))
    go_ret
    exact ⟨Zj, (Zf GE1062)⟩
   ·rw [if_neg c13] at H
    have c13b0 := decide_eq_false c13; clear c13; obtain rfl := Option.some.inj H
    go_enter Try.func7, Try.ntmps7
    go_wp2_with (first | ((with_reducible refine gate_dst (N := 2) rfl ?_); refine boxZ 2 #[.slice A0_0 l0_0.length c0_0, .slice A0_1 l0_1.length c0_1, .slice A0_2 l0_2.length c0_2] 26 ?_; intro gb1062 hg w19 hbox hb; replace BK1062 := am_ (hbox); replace GW1062 := am_ ((Zc : w.heap.size ≤ gb1062)); replace GE1062 := GW1062; replace HB := (bsZ Zd hb); clear hb hbox hg; refine ci3 BK1062 ?_; intros) | ((with_reducible refine gate_callee (f := 40) rfl ?_); refine gZ 8 Try.func40 #[.slice A0_0 l0_0.length c0_0, .int .i64 a1] ?_; (with_reducible refine (laws_szBarS.calls _ _ l0_0 a1 t1063 _ ?_ ?_ A3.out).mono ?_); exact (Zz HR0_0); exact HC0_0.out; rintro e w' ⟨rfl, ⟨nd, rfl⟩⟩; refine ⟨_, rfl, ?_⟩) | ((with_reducible refine gate_callee (f := 41) rfl ?_); refine gZ 14 Try.func41 #[.slice A0_1 l0_1.length c0_1, .int .i64 t1063] ?_; (with_reducible refine (laws_szArticleS.calls k _ _ l0_1 t1063 t1064 _ ?_ ?_ A7.out).mono ?_); exact (Zaa HR0_1 GE1062); exact HC0_1.out; rintro e w21 ⟨rfl, hb⟩; refine ⟨_, rfl, ?_⟩; replace BK1062 := (bkZ BK1062 hb); replace HB := (bsZ (Zf GE1062) hb); clear hb; refine ci3 BK1062 ?_; intros) | ((with_reducible refine gate_callee (f := 42) rfl ?_); refine gZ 20 Try.func42 #[.slice A0_2 l0_2.length c0_2, .int .i64 t1064] ?_; (with_reducible refine (laws_szCueS.calls k _ _ l0_2 t1064 t1065 _ ?_ ?_ A12.out).mono ?_); exact (Zz HR0_2); exact HC0_2.out; rintro e w23 ⟨rfl, hb⟩; refine ⟨_, rfl, ?_⟩; replace BK1062 := (bkZ BK1062 hb); replace HB := (bsZ (Zf GE1062) hb); clear hb))
    go_ret
    exact ⟨Zj, (Zf GE1062)⟩
 /-! ### laws_toShow: function 9 -/
def laws_toShow.f (k : Nat) (l0_0 : List (S106)) (l0_1 : List (S99)) (l0_2 : List (S101)) (a1 : Bool) : Option ((List (S104)) × (List (S61)) × (List (S58))) := (laws_toBarS.f k l0_0 a1).bind fun t1141 => ((laws_toArticleS.f k l0_1 a1).bind fun t1144 => ((laws_toCueS.f k l0_2 a1).bind fun t1147 => (some (t1141, t1144, t1147))))
set_option maxHeartbeats 8000000 in
set_option maxRecDepth 100000 in
theorem laws_toShow.calls (k : Nat) (A0_0 : Option Addr) (c0_0 : Nat) (l0_0 : List (S106)) (A0_1 : Option Addr) (c0_1 : Nat) (l0_1 : List (S99)) (A0_2 : Option Addr) (c0_2 : Nat) (l0_2 : List (S101)) (a1 : Bool) (r1 : List (S104)) (r2 : List (S61)) (r3 : List (S58)) (w : World) (hr0_0 : Kd.C k106 w A0_0 l0_0.length l0_0) (hc0_0 : l0_0.length ≤ c0_0) (hr0_1 : Kd.C k99 w A0_1 l0_1.length l0_1) (hc0_1 : l0_1.length ≤ c0_1) (hr0_2 : Kd.C k101 w A0_2 l0_2.length l0_2) (hc0_2 : l0_2.length ≤ c0_2) (h : laws_toShow.f k l0_0 l0_1 l0_2 a1 = some (r1, r2, r3)) :
  Calls Try.prog 9 #[.agg #[.slice A0_0 l0_0.length c0_0, .slice A0_1 l0_1.length c0_1, .slice A0_2 l0_2.length c0_2], .bool a1] w fun e w' => ∃ v0_ v1_ v2_ : Value, e = .returned (.agg #[v0_, v1_, v2_]) ∧ Kd.R k104 104 w' w.heap.size (fun _ => True) v0_ r1 ∧ Kd.R k61 61 w' w.heap.size (fun _ => True) v1_ r2 ∧ Kd.R k58 58 w' w.heap.size (fun _ => True) v2_ r3 ∧ Below w.heap.size w w' := by
 have hu26 := Try.underlying26; have hu35 := Try.underlying35; have HR0_0 := am_ hr0_0; have HC0_0 := am_ hc0_0; clear hr0_0 hc0_0; have HR0_1 := am_ hr0_1; have HC0_1 := am_ hc0_1; clear hr0_1 hc0_1; have HR0_2 := am_ hr0_2; have HC0_2 := am_ hc0_2; clear hr0_2 hc0_2; have HB := am_ (Below.refl w.heap.size w); have H : ((laws_toBarS.f k l0_0 a1).bind fun t1141 => ((laws_toArticleS.f k l0_1 a1).bind fun t1144 => ((laws_toCueS.f k l0_2 a1).bind fun t1147 => (some (t1141, t1144, t1147))))) = some (r1, r2, r3) := h; clear h; replace H := Option.bind_eq_some_iff.mp H; obtain ⟨t1141, A30, H⟩ := H; have A3 := am_ A30; clear A30; replace H := Option.bind_eq_some_iff.mp H; obtain ⟨t1144, A40, H⟩ := H; have A4 := am_ A40; clear A40; replace H := Option.bind_eq_some_iff.mp H; obtain ⟨t1147, A50, H⟩ := H; have A5 := am_ A50; clear A50; simp only [Option.some.injEq, Prod.mk.injEq] at H; obtain ⟨rfl, rfl, rfl⟩ := H
 go_enter Try.func9, Try.ntmps9
 go_wp2_with (first | ((with_reducible refine gate_dst (N := 2) rfl ?_); refine boxZ 2 #[.slice A0_0 l0_0.length c0_0, .slice A0_1 l0_1.length c0_1, .slice A0_2 l0_2.length c0_2] 26 ?_; intro gb1138 hg w6 hbox hb; replace BK1138 := am_ (hbox); replace GW1138 := am_ ((Zc : w.heap.size ≤ gb1138)); replace GE1138 := GW1138; replace HB := (bsZ Zd hb); clear hb hbox hg) | ((with_reducible refine gate_dst (N := 4) rfl ?_); refine boxZ 4 #[.slice none 0 0, .slice none 0 0, .slice none 0 0] 35 ?_; intro gb1139 hg w7 hbox hb; replace BK1139 := am_ (hbox); replace GW1139 := am_ (((Ze GE1138) : w.heap.size ≤ gb1139)); replace GE1139 := GW1139; replace HB := (bsZ (Zf GE1138) hb); replace NB1138_1139 := am_ ((by rw [hg]; exact Nat.ne_of_lt (blk_lt (g := gb1138) (b0Z BK1138)) : gb1138 ≠ gb1139)); replace NB1139_1138 := am_ ((by rw [hg]; exact Nat.ne_of_gt (blk_lt (g := gb1138) (b0Z BK1138)) : gb1139 ≠ gb1138)); replace BK1138 := (bkZ BK1138 hb); clear hb hbox hg) | ((with_reducible refine gate_dst (N := 5) rfl ?_); refine boxZ 5 #[.slice none 0 0, .slice none 0 0, .slice none 0 0] 35 ?_; intro gb1140 hg w8 hbox hb; replace BK1140 := am_ (hbox); replace GW1140 := am_ (((Zg GE1138 GE1139) : w.heap.size ≤ gb1140)); replace GE1140 := GW1140; replace HB := (bsZ (Zh GE1138 GE1139) hb); replace NB1138_1140 := am_ ((by rw [hg]; exact Nat.ne_of_lt (blk_lt (g := gb1138) (b0Z BK1138)) : gb1138 ≠ gb1140)); replace NB1140_1138 := am_ ((by rw [hg]; exact Nat.ne_of_gt (blk_lt (g := gb1138) (b0Z BK1138)) : gb1140 ≠ gb1138)); replace BK1138 := (bkZ BK1138 hb); replace NB1139_1140 := am_ ((by rw [hg]; exact Nat.ne_of_lt (blk_lt (g := gb1139) (b0Z BK1139)) : gb1139 ≠ gb1140)); replace NB1140_1139 := am_ ((by rw [hg]; exact Nat.ne_of_gt (blk_lt (g := gb1139) (b0Z BK1139)) : gb1140 ≠ gb1139)); replace BK1139 := (bkZ BK1139 hb); clear hb hbox hg; have hnb9 := NB1138_1139.out; have hnc9 := NB1139_1138.out; have hnb10 := NB1138_1140.out; have hnc10 := NB1140_1138.out; refine ci3 BK1138 ?_; intros) | ((with_reducible refine gate_callee (f := 46) rfl ?_); refine gZ 9 Try.func46 #[.slice A0_0 l0_0.length c0_0, .bool a1] ?_; (with_reducible refine (laws_toBarS.calls k _ _ l0_0 a1 t1141 _ ?_ ?_ A3.out).mono ?_); exact (Zz HR0_0); exact HC0_0.out; rintro e w12 ⟨v1142, rfl, ho0, hb⟩; refine ⟨_, rfl, ?_⟩; replace HO1143 := am_ (Kd.R_lower ho0 (below_size (Zk GE1138 GE1139 GE1140))); replace BK1138 := (bkZ BK1138 hb); replace BK1139 := (bkZ BK1139 hb); replace BK1140 := (bkZ BK1140 hb); replace HB := (bsZ (Zk GE1138 GE1139 GE1140) hb); clear hb ho0; obtain ⟨Ao13, co13, eo13⟩ := Kd.R_slice HO1143.out; subst eo13; have hnb14 := NB1140_1139.out; have hnc14 := NB1139_1140.out; refine ci3 BK1140 ?_; intros; refine ci3 BK1138 ?_; intros) | ((with_reducible refine gate_callee (f := 47) rfl ?_); refine gZ 14 Try.func47 #[.slice A0_1 l0_1.length c0_1, .bool a1] ?_; (with_reducible refine (laws_toArticleS.calls k _ _ l0_1 a1 t1144 _ ?_ ?_ A4.out).mono ?_); exact Kd.C_below HR0_1.out (Zk GE1138 GE1139 GE1140); exact HC0_1.out; rintro e w17 ⟨v1145, rfl, ho0, hb⟩; refine ⟨_, rfl, ?_⟩; replace HO1143 := am_ (Kd.R_below (Zab HO1143 BK1140) hb); replace HO1146 := am_ (Kd.R_lower ho0 (below_size (Zk GE1138 GE1139 GE1140))); replace BK1138 := am_ (blk_below (g := gb1138) (bfZ BK1138 NB1138_1140) hb); replace BK1139 := am_ (blk_below (g := gb1139) (bfZ BK1139 NB1139_1140) hb); replace BK1140 := am_ (blk_below (g := gb1140) (o := .cells #[.slice Ao13 t1141.length co13, .slice none 0 0, .slice none 0 0] 35 (0, 0)) (bpZ BK1140) hb); replace HB := (bsZ (Zk GE1138 GE1139 GE1140) hb); clear hb ho0; obtain ⟨Ao18, co18, eo18⟩ := Kd.R_slice HO1146.out; subst eo18; refine ci3 BK1140 ?_; intros; refine ci3 BK1138 ?_; intros) | ((with_reducible refine gate_callee (f := 48) rfl ?_); refine gZ 19 Try.func48 #[.slice A0_2 l0_2.length c0_2, .bool a1] ?_; (with_reducible refine (laws_toCueS.calls k _ _ l0_2 a1 t1147 _ ?_ ?_ A5.out).mono ?_); exact Kd.C_below HR0_2.out (Zk GE1138 GE1139 GE1140); exact HC0_2.out; rintro e w21 ⟨v1148, rfl, ho0, hb⟩; refine ⟨_, rfl, ?_⟩; replace HO1143 := am_ (Kd.R_below (Zab HO1143 BK1140) hb); replace HO1146 := am_ (Kd.R_below (Zab HO1146 BK1140) hb); replace HO1149 := am_ (Kd.R_lower ho0 (below_size (Zk GE1138 GE1139 GE1140))); replace BK1138 := am_ (blk_below (g := gb1138) (bfZ BK1138 NB1138_1140) hb); replace BK1139 := am_ (blk_below (g := gb1139) (bfZ BK1139 NB1139_1140) hb); replace BK1140 := am_ (blk_below (g := gb1140) (o := .cells #[.slice Ao13 t1141.length co13, .slice Ao18 t1144.length co18, .slice none 0 0] 35 (0, 0)) (bpZ BK1140) hb); replace HB := (bsZ (Zk GE1138 GE1139 GE1140) hb); clear hb ho0; obtain ⟨Ao22, co22, eo22⟩ := Kd.R_slice HO1149.out; subst eo22; refine ci3 BK1140 ?_; intros; refine ci3 BK1139 ?_; intros))
 refine bodyPost_ret (results_cell_row rfl _ _ gb1139 35 #[.slice Ao13 t1141.length co13, .slice Ao18 t1144.length co18, .slice Ao22 t1147.length co22] (0, 0) _ rfl (bmZ BK1139 NB1139_1140) Try.underlying35 rfl Zi) rfl ?_; exact ⟨_, _, _, Zj, (Zac HO1143 BK1140 BK1139), (Zac HO1146 BK1140 BK1139), (Zac HO1149 BK1140 BK1139), (Zk GE1138 GE1139 GE1140)⟩
 /-! ### laws_markShow: function 13 -/
def laws_markShow.f (k : Nat) (l0_0 : List (S104)) (l0_1 : List (S61)) (l0_2 : List (S58)) (a1 : Int) : Option (Int × (List (S104)) × (List (S61)) × (List (S58))) := (laws_markBarS.f k l0_0 a1).bind fun bt1223 => ((laws_markArticleS.f k l0_1 bt1223.1).bind fun bt1225 => ((laws_markCueS.f k l0_2 bt1225.1).bind fun bt1227 => (some (bt1227.1, bt1223.2, bt1225.2, bt1227.2))))
set_option maxHeartbeats 8000000 in
set_option maxRecDepth 100000 in
theorem laws_markShow.calls (k : Nat) (P0_0_ : Nat → Prop) (u9000_ : Value) (l0_0 : List (S104)) (P0_1_ : Nat → Prop) (u9001_ : Value) (l0_1 : List (S61)) (P0_2_ : Nat → Prop) (u9002_ : Value) (l0_2 : List (S58)) (a1 : Int) (r1 : Int) (r2 : List (S104)) (r3 : List (S61)) (r4 : List (S58)) (w0 w : World) (hB : Below w0.heap.size w0 w) (ho0_0 : Kd.R k104 104 w w0.heap.size P0_0_ u9000_ l0_0) (ho0_1 : Kd.R k61 61 w w0.heap.size P0_1_ u9001_ l0_1) (ho0_2 : Kd.R k58 58 w w0.heap.size P0_2_ u9002_ l0_2) (h : laws_markShow.f k l0_0 l0_1 l0_2 a1 = some (r1, r2, r3, r4)) :
  Calls Try.prog 13 #[.agg #[u9000_, u9001_, u9002_], .int .i64 a1] w fun e w' => e = .returned (.int .i64 r1) ∧ Kd.R k104 104 w' w0.heap.size (fun k_ => ((P0_0_ k_ ∨ P0_1_ k_ ∨ P0_2_ k_) ∨ w.heap.size ≤ k_)) u9000_ r2 ∧ Kd.R k61 61 w' w0.heap.size (fun k_ => ((P0_0_ k_ ∨ P0_1_ k_ ∨ P0_2_ k_) ∨ w.heap.size ≤ k_)) u9001_ r3 ∧ Kd.R k58 58 w' w0.heap.size (fun k_ => ((P0_0_ k_ ∨ P0_1_ k_ ∨ P0_2_ k_) ∨ w.heap.size ≤ k_)) u9002_ r4 ∧ Below w0.heap.size w0 w' ∧ Kept w w' (fun k_ => P0_0_ k_ ∨ P0_1_ k_ ∨ P0_2_ k_) := by
 have hu35 := Try.underlying35; have HO0_0 := am_ (show Kd.R k104 104 w w0.heap.size (fun k_ => ((P0_0_ k_ ∨ P0_1_ k_ ∨ P0_2_ k_) ∨ w.heap.size ≤ k_)) u9000_ l0_0 from Kd.R_mono ho0_0 (fun k_ hk => (.inl (.inl hk)))); have HO0_1 := am_ (show Kd.R k61 61 w w0.heap.size (fun k_ => ((P0_0_ k_ ∨ P0_1_ k_ ∨ P0_2_ k_) ∨ w.heap.size ≤ k_)) u9001_ l0_1 from Kd.R_mono ho0_1 (fun k_ hk => (.inl (.inr (.inl hk))))); have HO0_2 := am_ (show Kd.R k58 58 w w0.heap.size (fun k_ => ((P0_0_ k_ ∨ P0_1_ k_ ∨ P0_2_ k_) ∨ w.heap.size ≤ k_)) u9002_ l0_2 from Kd.R_mono ho0_2 (fun k_ hk => (.inl (.inr (.inr hk))))); have HK := am_ (Kept.refl w (fun k_ => P0_0_ k_ ∨ P0_1_ k_ ∨ P0_2_ k_)); have HW0 := am_ hB.size; have HB := am_ hB; clear hB; have H : ((laws_markBarS.f k l0_0 a1).bind fun bt1223 => ((laws_markArticleS.f k l0_1 bt1223.1).bind fun bt1225 => ((laws_markCueS.f k l0_2 bt1225.1).bind fun bt1227 => (some (bt1227.1, bt1223.2, bt1225.2, bt1227.2))))) = some (r1, r2, r3, r4) := h; clear h; replace H := Option.bind_eq_some_iff.mp H; obtain ⟨⟨t1223, t1224⟩, A30, H⟩ := H
 dsimp only at H
 have A3 := am_ A30; clear A30; replace H := Option.bind_eq_some_iff.mp H; obtain ⟨⟨t1225, t1226⟩, A40, H⟩ := H
 dsimp only at H
 have A4 := am_ A40; clear A40; replace H := Option.bind_eq_some_iff.mp H; obtain ⟨⟨t1227, t1228⟩, A50, H⟩ := H
 dsimp only at H
 have A5 := am_ A50; clear A50; simp only [Option.some.injEq, Prod.mk.injEq] at H; obtain ⟨rfl, rfl, rfl, rfl⟩ := H; obtain ⟨Ao6, co6, eo6⟩ := Kd.R_slice HO0_0.out; subst eo6; obtain ⟨Ao7, co7, eo7⟩ := Kd.R_slice HO0_1.out; subst eo7; obtain ⟨Ao8, co8, eo8⟩ := Kd.R_slice HO0_2.out; subst eo8
 go_enter Try.func13, Try.ntmps13
 go_wp2_with (first | ((with_reducible refine gate_dst (N := 2) rfl ?_); refine boxZ 2 #[.slice Ao6 l0_0.length co6, .slice Ao7 l0_1.length co7, .slice Ao8 l0_2.length co8] 35 ?_; intro gb1222 hg w9 hbox hb; replace HO0_0 := (hbZ HO0_0 hb); replace HO0_1 := (hbZ HO0_1 hb); replace HO0_2 := (hbZ HO0_2 hb); replace BK1222 := am_ (hbox); replace GW1222 := am_ ((by rw [hg]; exact (by first | exact HK.out.1 | exact (show Kept w _ (fun k_ => P0_0_ k_ ∨ P0_1_ k_ ∨ P0_2_ k_) from Zt).1) : w.heap.size ≤ gb1222)); replace HK := am_ (Kept.below (S := (fun k_ => P0_0_ k_ ∨ P0_1_ k_ ∨ P0_2_ k_)) Zt hb); replace GE1222 := am_ ((Zc : w0.heap.size ≤ gb1222)); replace HB := (bsZ Zd hb); clear hb hbox hg; refine ci3 BK1222 ?_; intros) | ((with_reducible refine gate_callee (f := 53) rfl ?_); refine gZ 8 Try.func53 #[.slice Ao6 l0_0.length co6, .int .i64 a1] ?_; (with_reducible refine (laws_markBarS.calls k (fun k_ => some k_ = (.slice Ao6 l0_0.length co6 : Value).ownBlock) (.slice Ao6 l0_0.length co6) l0_0 a1 t1223 t1224 w0 _ ?_ ?_ A3.out).mono ?_); exact (Zf GE1222); exact Kd.R_tight rfl HO0_0.out; rintro e w11 ⟨rfl, hy0, hb, hkp⟩; refine ⟨_, rfl, ?_⟩; replace HO0_1 := am_ (Kd.R_mono (ok' := fun k_ => ((P0_0_ k_ ∨ P0_1_ k_ ∨ P0_2_ k_) ∨ w.heap.size ≤ k_)) (Kd.R_keptB ((Kd.R_apart' HO0_1.out (Kd.R_typed HO0_0.out) (by decide))) hkp (fun k_ hk_ hs_ => (hk_.2) hs_)) (fun k_ hk_ => hk_.1.1)); replace HO0_2 := am_ (Kd.R_mono (ok' := fun k_ => ((P0_0_ k_ ∨ P0_1_ k_ ∨ P0_2_ k_) ∨ w.heap.size ≤ k_)) (Kd.R_keptB ((Kd.R_apart' HO0_2.out (Kd.R_typed HO0_0.out) (by decide))) hkp (fun k_ hk_ hs_ => (hk_.2) hs_)) (fun k_ hk_ => hk_.1.1)); replace BK1222 := am_ (blk_kept (b0Z BK1222) hkp (fun hs_ => (fun e_ => (Kd.R_ne HO0_0.out BK1222.out (by decide)) e_) hs_)); replace HK := am_ (Kept.then_ (S := (fun k_ => P0_0_ k_ ∨ P0_1_ k_ ∨ P0_2_ k_)) (Zad GW1222) hkp (fun k_ hs_ => (fun e_ => (HO0_0.out.1 k_ e_.symm)) hs_)); replace HO0_0 := am_ (Kd.R_reok rfl hy0 (fun k_ e_ => HO0_0.out.1 k_ e_)); replace HB := am_ (hb); clear hb hkp hy0; refine ci3 BK1222 ?_; intros) | ((with_reducible refine gate_callee (f := 54) rfl ?_); refine gZ 12 Try.func54 #[.slice Ao7 l0_1.length co7, .int .i64 t1223] ?_; (with_reducible refine (laws_markArticleS.calls k (fun k_ => some k_ = (.slice Ao7 l0_1.length co7 : Value).ownBlock) (.slice Ao7 l0_1.length co7) l0_1 t1223 t1225 t1226 w0 _ ?_ ?_ A4.out).mono ?_); exact (Zf GE1222); exact Kd.R_tight rfl HO0_1.out; rintro e w13 ⟨rfl, hy0, hb, hkp⟩; refine ⟨_, rfl, ?_⟩; replace HO0_0 := am_ (Kd.R_mono (ok' := fun k_ => ((P0_0_ k_ ∨ P0_1_ k_ ∨ P0_2_ k_) ∨ w.heap.size ≤ k_)) (Kd.R_keptB ((Kd.R_apart' HO0_0.out (Kd.R_typed HO0_1.out) (by decide))) hkp (fun k_ hk_ hs_ => (hk_.2) hs_)) (fun k_ hk_ => hk_.1.1)); replace HO0_2 := am_ (Kd.R_mono (ok' := fun k_ => ((P0_0_ k_ ∨ P0_1_ k_ ∨ P0_2_ k_) ∨ w.heap.size ≤ k_)) (Kd.R_keptB ((Kd.R_apart' HO0_2.out (Kd.R_typed HO0_1.out) (by decide))) hkp (fun k_ hk_ hs_ => (hk_.2) hs_)) (fun k_ hk_ => hk_.1.1)); replace BK1222 := am_ (blk_kept (b0Z BK1222) hkp (fun hs_ => (fun e_ => (Kd.R_ne HO0_1.out BK1222.out (by decide)) e_) hs_)); replace HK := am_ (Kept.then_ (S := (fun k_ => P0_0_ k_ ∨ P0_1_ k_ ∨ P0_2_ k_)) (Zad GW1222) hkp (fun k_ hs_ => (fun e_ => (HO0_1.out.1 k_ e_.symm)) hs_)); replace HO0_1 := am_ (Kd.R_reok rfl hy0 (fun k_ e_ => HO0_1.out.1 k_ e_)); replace HB := am_ (hb); clear hb hkp hy0; refine ci3 BK1222 ?_; intros) | ((with_reducible refine gate_callee (f := 55) rfl ?_); refine gZ 16 Try.func55 #[.slice Ao8 l0_2.length co8, .int .i64 t1225] ?_; (with_reducible refine (laws_markCueS.calls k (fun k_ => some k_ = (.slice Ao8 l0_2.length co8 : Value).ownBlock) (.slice Ao8 l0_2.length co8) l0_2 t1225 t1227 t1228 w0 _ ?_ ?_ A5.out).mono ?_); exact (Zf GE1222); exact Kd.R_tight rfl HO0_2.out; rintro e w15 ⟨rfl, hy0, hb, hkp⟩; refine ⟨_, rfl, ?_⟩; replace HO0_0 := am_ (Kd.R_mono (ok' := fun k_ => ((P0_0_ k_ ∨ P0_1_ k_ ∨ P0_2_ k_) ∨ w.heap.size ≤ k_)) (Kd.R_keptB ((Kd.R_apart' HO0_0.out (Kd.R_typed HO0_2.out) (by decide))) hkp (fun k_ hk_ hs_ => (hk_.2) hs_)) (fun k_ hk_ => hk_.1.1)); replace HO0_1 := am_ (Kd.R_mono (ok' := fun k_ => ((P0_0_ k_ ∨ P0_1_ k_ ∨ P0_2_ k_) ∨ w.heap.size ≤ k_)) (Kd.R_keptB ((Kd.R_apart' HO0_1.out (Kd.R_typed HO0_2.out) (by decide))) hkp (fun k_ hk_ hs_ => (hk_.2) hs_)) (fun k_ hk_ => hk_.1.1)); replace BK1222 := am_ (blk_kept (b0Z BK1222) hkp (fun hs_ => (fun e_ => (Kd.R_ne HO0_2.out BK1222.out (by decide)) e_) hs_)); replace HK := am_ (Kept.then_ (S := (fun k_ => P0_0_ k_ ∨ P0_1_ k_ ∨ P0_2_ k_)) (Zad GW1222) hkp (fun k_ hs_ => (fun e_ => (HO0_2.out.1 k_ e_.symm)) hs_)); replace HO0_2 := am_ (Kd.R_reok rfl hy0 (fun k_ e_ => HO0_2.out.1 k_ e_)); replace HB := am_ (hb); clear hb hkp hy0))
 go_ret
 exact ⟨Zj, by (with_reducible repeat (first | apply Kd.R_alloc | apply Kd.R_drewN | apply Kd.R_drew)); exact HO0_0.out, by (with_reducible repeat (first | apply Kd.R_alloc | apply Kd.R_drewN | apply Kd.R_drew)); exact HO0_1.out, by (with_reducible repeat (first | apply Kd.R_alloc | apply Kd.R_drewN | apply Kd.R_drew)); exact HO0_2.out, (Zf GE1222), (Zad GW1222)⟩
end Go.Proofs.Ytmnnbmdfepogiaa.F
namespace Go.Proofs.Ytmnnbmdfepogiaa.F
open Go.RowKit Go.Proofs.YtmnnbmdfepogiaaW.PrintWords Go.Proofs.YtmnnbmdfepogiaaW.PrintLast Go.Proofs.YtmnnbmdfepogiaaW.PrintMore
set_option linter.unusedVariables false
set_option linter.unusedSimpArgs false
attribute [local go_sem] max2_int min2_int max_two min_two max_three min_three max_four min_four
def full_toShow.f (k : Nat) (l0_0 : List (S106)) (l0_1 : List (S99)) (l0_2 : List (S101)) (a1 : Bool) : Option ((List (S104)) × (List (S61)) × (List (S58))) := (full_toBarS.f k l0_0 a1).bind fun t1141 => ((full_toArticleS.f k l0_1 a1).bind fun t1144 => ((full_toCueS.f k l0_2 a1).bind fun t1147 => (some (t1141, t1144, t1147))))
set_option maxHeartbeats 8000000 in
set_option maxRecDepth 100000 in
theorem full_toShow.calls (k : Nat) (A0_0 : Option Addr) (c0_0 : Nat) (l0_0 : List (S106)) (A0_1 : Option Addr) (c0_1 : Nat) (l0_1 : List (S99)) (A0_2 : Option Addr) (c0_2 : Nat) (l0_2 : List (S101)) (a1 : Bool) (r1 : List (S104)) (r2 : List (S61)) (r3 : List (S58)) (w : World) (hr0_0 : Kd.C k106 w A0_0 l0_0.length l0_0) (hc0_0 : l0_0.length ≤ c0_0) (hr0_1 : Kd.C k99 w A0_1 l0_1.length l0_1) (hc0_1 : l0_1.length ≤ c0_1) (hr0_2 : Kd.C k101 w A0_2 l0_2.length l0_2) (hc0_2 : l0_2.length ≤ c0_2) (h : full_toShow.f k l0_0 l0_1 l0_2 a1 = some (r1, r2, r3)) (n0 : r1 ≠ []) (n1 : r2 ≠ []) (n2 : r3 ≠ []) :
  Calls Try.prog 9 #[.agg #[.slice A0_0 l0_0.length c0_0, .slice A0_1 l0_1.length c0_1, .slice A0_2 l0_2.length c0_2], .bool a1] w fun e w' => ∃ (B0_ : Option Addr) (d0_ : Nat) (B1_ : Option Addr) (d1_ : Nat) (B2_ : Option Addr) (d2_ : Nat), e = .returned (.agg #[.slice B0_ l0_0.length d0_, .slice B1_ l0_1.length d1_, .slice B2_ l0_2.length d2_]) ∧ Kd.R k104 104 w' w.heap.size (fun _ => True) (.slice B0_ r1.length d0_) r1 ∧ Kd.R k61 61 w' w.heap.size (fun _ => True) (.slice B1_ r2.length d1_) r2 ∧ Kd.R k58 58 w' w.heap.size (fun _ => True) (.slice B2_ r3.length d2_) r3 ∧ Below w.heap.size w w' := by
 have hu26 := Try.underlying26; have hu35 := Try.underlying35; have HR0_0 := am_ hr0_0; have HC0_0 := am_ hc0_0; clear hr0_0 hc0_0; have HR0_1 := am_ hr0_1; have HC0_1 := am_ hc0_1; clear hr0_1 hc0_1; have HR0_2 := am_ hr0_2; have HC0_2 := am_ hc0_2; clear hr0_2 hc0_2; have HB := am_ (Below.refl w.heap.size w); have N0 := am_ n0; have N1 := am_ n1; have N2 := am_ n2; clear n0 n1 n2; have H : ((full_toBarS.f k l0_0 a1).bind fun t1141 => ((full_toArticleS.f k l0_1 a1).bind fun t1144 => ((full_toCueS.f k l0_2 a1).bind fun t1147 => (some (t1141, t1144, t1147))))) = some (r1, r2, r3) := h; clear h; replace H := Option.bind_eq_some_iff.mp H; obtain ⟨t1141, A30, H⟩ := H; have A3 := am_ A30; clear A30; replace H := Option.bind_eq_some_iff.mp H; obtain ⟨t1144, A40, H⟩ := H; have A4 := am_ A40; clear A40; replace H := Option.bind_eq_some_iff.mp H; obtain ⟨t1147, A50, H⟩ := H; have A5 := am_ A50; clear A50; simp only [Option.some.injEq, Prod.mk.injEq] at H; obtain ⟨rfl, rfl, rfl⟩ := H
 go_enter Try.func9, Try.ntmps9
 go_wp2_with (first | ((with_reducible refine gate_dst (N := 2) rfl ?_); refine boxZ 2 #[.slice A0_0 l0_0.length c0_0, .slice A0_1 l0_1.length c0_1, .slice A0_2 l0_2.length c0_2] 26 ?_; intro gb1138 hg w6 hbox hb; replace BK1138 := am_ (hbox); replace GW1138 := am_ ((Zc : w.heap.size ≤ gb1138)); replace GE1138 := GW1138; replace HB := (bsZ Zd hb); clear hb hbox hg) | ((with_reducible refine gate_dst (N := 4) rfl ?_); refine boxZ 4 #[.slice none 0 0, .slice none 0 0, .slice none 0 0] 35 ?_; intro gb1139 hg w7 hbox hb; replace BK1139 := am_ (hbox); replace GW1139 := am_ (((Ze GE1138) : w.heap.size ≤ gb1139)); replace GE1139 := GW1139; replace HB := (bsZ (Zf GE1138) hb); replace NB1138_1139 := am_ ((by rw [hg]; exact Nat.ne_of_lt (blk_lt (g := gb1138) (b0Z BK1138)) : gb1138 ≠ gb1139)); replace NB1139_1138 := am_ ((by rw [hg]; exact Nat.ne_of_gt (blk_lt (g := gb1138) (b0Z BK1138)) : gb1139 ≠ gb1138)); replace BK1138 := (bkZ BK1138 hb); clear hb hbox hg) | ((with_reducible refine gate_dst (N := 5) rfl ?_); refine boxZ 5 #[.slice none 0 0, .slice none 0 0, .slice none 0 0] 35 ?_; intro gb1140 hg w8 hbox hb; replace BK1140 := am_ (hbox); replace GW1140 := am_ (((Zg GE1138 GE1139) : w.heap.size ≤ gb1140)); replace GE1140 := GW1140; replace HB := (bsZ (Zh GE1138 GE1139) hb); replace NB1138_1140 := am_ ((by rw [hg]; exact Nat.ne_of_lt (blk_lt (g := gb1138) (b0Z BK1138)) : gb1138 ≠ gb1140)); replace NB1140_1138 := am_ ((by rw [hg]; exact Nat.ne_of_gt (blk_lt (g := gb1138) (b0Z BK1138)) : gb1140 ≠ gb1138)); replace BK1138 := (bkZ BK1138 hb); replace NB1139_1140 := am_ ((by rw [hg]; exact Nat.ne_of_lt (blk_lt (g := gb1139) (b0Z BK1139)) : gb1139 ≠ gb1140)); replace NB1140_1139 := am_ ((by rw [hg]; exact Nat.ne_of_gt (blk_lt (g := gb1139) (b0Z BK1139)) : gb1140 ≠ gb1139)); replace BK1139 := (bkZ BK1139 hb); clear hb hbox hg; have hnb9 := NB1138_1139.out; have hnc9 := NB1139_1138.out; have hnb10 := NB1138_1140.out; have hnc10 := NB1140_1138.out; refine ci3 BK1138 ?_; intros) | ((with_reducible refine gate_callee (f := 46) rfl ?_); refine gZ 9 Try.func46 #[.slice A0_0 l0_0.length c0_0, .bool a1] ?_; (with_reducible refine (full_toBarS.calls k _ _ l0_0 a1 t1141 _ ?_ ?_ A3.out).mono ?_); exact (Zz HR0_0); exact HC0_0.out; rintro e w12 ⟨v1142, rfl, hof, hb⟩; obtain ⟨Ao13, co13, eo13, hle_, ho0⟩ := hof N0.out; subst eo13; clear hof hle_; refine ⟨_, rfl, ?_⟩; replace HO1143 := am_ (Kd.R_lower ho0 (below_size (Zk GE1138 GE1139 GE1140))); replace BK1138 := (bkZ BK1138 hb); replace BK1139 := (bkZ BK1139 hb); replace BK1140 := (bkZ BK1140 hb); replace HB := (bsZ (Zk GE1138 GE1139 GE1140) hb); clear hb; have hnb14 := NB1140_1139.out; have hnc14 := NB1139_1140.out; refine ci3 BK1140 ?_; intros; refine ci3 BK1138 ?_; intros) | ((with_reducible refine gate_callee (f := 47) rfl ?_); refine gZ 14 Try.func47 #[.slice A0_1 l0_1.length c0_1, .bool a1] ?_; (with_reducible refine (full_toArticleS.calls k _ _ l0_1 a1 t1144 _ ?_ ?_ A4.out).mono ?_); exact Kd.C_below HR0_1.out (Zk GE1138 GE1139 GE1140); exact HC0_1.out; rintro e w17 ⟨v1145, rfl, hof, hb⟩; obtain ⟨Ao18, co18, eo18, hle_, ho0⟩ := hof N1.out; subst eo18; clear hof hle_; refine ⟨_, rfl, ?_⟩; replace HO1143 := am_ (Kd.R_below (Zab HO1143 BK1140) hb); replace HO1146 := am_ (Kd.R_lower ho0 (below_size (Zk GE1138 GE1139 GE1140))); replace BK1138 := am_ (blk_below (g := gb1138) (bfZ BK1138 NB1138_1140) hb); replace BK1139 := am_ (blk_below (g := gb1139) (bfZ BK1139 NB1139_1140) hb); replace BK1140 := am_ (blk_below (g := gb1140) (o := .cells #[.slice Ao13 l0_0.length co13, .slice none 0 0, .slice none 0 0] 35 (0, 0)) (bpZ BK1140) hb); replace HB := (bsZ (Zk GE1138 GE1139 GE1140) hb); clear hb; refine ci3 BK1140 ?_; intros; refine ci3 BK1138 ?_; intros) | ((with_reducible refine gate_callee (f := 48) rfl ?_); refine gZ 19 Try.func48 #[.slice A0_2 l0_2.length c0_2, .bool a1] ?_; (with_reducible refine (full_toCueS.calls k _ _ l0_2 a1 t1147 _ ?_ ?_ A5.out).mono ?_); exact Kd.C_below HR0_2.out (Zk GE1138 GE1139 GE1140); exact HC0_2.out; rintro e w21 ⟨v1148, rfl, hof, hb⟩; obtain ⟨Ao22, co22, eo22, hle_, ho0⟩ := hof N2.out; subst eo22; clear hof hle_; refine ⟨_, rfl, ?_⟩; replace HO1143 := am_ (Kd.R_below (Zab HO1143 BK1140) hb); replace HO1146 := am_ (Kd.R_below (Zab HO1146 BK1140) hb); replace HO1149 := am_ (Kd.R_lower ho0 (below_size (Zk GE1138 GE1139 GE1140))); replace BK1138 := am_ (blk_below (g := gb1138) (bfZ BK1138 NB1138_1140) hb); replace BK1139 := am_ (blk_below (g := gb1139) (bfZ BK1139 NB1139_1140) hb); replace BK1140 := am_ (blk_below (g := gb1140) (o := .cells #[.slice Ao13 l0_0.length co13, .slice Ao18 l0_1.length co18, .slice none 0 0] 35 (0, 0)) (bpZ BK1140) hb); replace HB := (bsZ (Zk GE1138 GE1139 GE1140) hb); clear hb; refine ci3 BK1140 ?_; intros; refine ci3 BK1139 ?_; intros))
 refine bodyPost_ret (results_cell_row rfl _ _ gb1139 35 #[.slice Ao13 l0_0.length co13, .slice Ao18 l0_1.length co18, .slice Ao22 l0_2.length co22] (0, 0) _ rfl (bmZ BK1139 NB1139_1140) Try.underlying35 rfl Zi) rfl ?_; exact ⟨_, _, _, _, _, _, Zj, (Zae HO1143 BK1140 BK1139), (Zae HO1146 BK1140 BK1139), (Zae HO1149 BK1140 BK1139), (Zk GE1138 GE1139 GE1140)⟩
 
set_option maxHeartbeats 8000000 in
set_option maxRecDepth 100000 in
theorem same_intactShow (k n0 n1 n2 : Nat) (A0_0 : Option Addr) (c0_0 : Nat) (A0_1 : Option Addr) (c0_1 : Nat) (A0_2 : Option Addr) (c0_2 : Nat) (A1_0 : Option Addr) (c1_0 : Nat) (A1_1 : Option Addr) (c1_1 : Nat) (A1_2 : Option Addr) (c1_2 : Nat) (L0 : List S104) (L1 : List S61) (L2 : List S58) (t0 t1 t2 : Int) (w : World) (hr0_0 : Kd.C k104 w A0_0 L0.length L0) (hc0_0 : L0.length ≤ c0_0) (hr1_0 : Kd.C k104 w A1_0 L0.length L0) (hc1_0 : L0.length ≤ c1_0) (ht_0 : laws_roomBehind.f (n0 : Int) = some t0) (hj_0 : wrap64 ((n0 : Int) + t0) = (L0.length : Int)) (he_0 : laws_eqBarS.f k L0 L0 = some true) (hr0_1 : Kd.C k61 w A0_1 L1.length L1) (hc0_1 : L1.length ≤ c0_1) (hr1_1 : Kd.C k61 w A1_1 L1.length L1) (hc1_1 : L1.length ≤ c1_1) (ht_1 : laws_roomBehind.f (n1 : Int) = some t1) (hj_1 : wrap64 ((n1 : Int) + t1) = (L1.length : Int)) (he_1 : laws_eqArticleS.f k L1 L1 = some true) (hr0_2 : Kd.C k58 w A0_2 L2.length L2) (hc0_2 : L2.length ≤ c0_2) (hr1_2 : Kd.C k58 w A1_2 L2.length L2) (hc1_2 : L2.length ≤ c1_2) (ht_2 : laws_roomBehind.f (n2 : Int) = some t2) (hj_2 : wrap64 ((n2 : Int) + t2) = (L2.length : Int)) (he_2 : laws_eqCueS.f k L2 L2 = some true) :
    Calls Try.prog 12 #[.agg #[.slice A0_0 n0 c0_0, .slice A0_1 n1 c0_1, .slice A0_2 n2 c0_2], .agg #[.slice A1_0 n0 c1_0, .slice A1_1 n1 c1_1, .slice A1_2 n2 c1_2]] w fun e w' => e = .returned (.bool true) ∧ Below w.heap.size w w' := by
  have HR0_0 := am_ hr0_0; have HC0_0 := am_ hc0_0; have HR1_0 := am_ hr1_0; have HC1_0 := am_ hc1_0; have HT_0 := am_ ht_0; have HJ_0 := am_ hj_0; have HE_0 := am_ he_0; have HR0_1 := am_ hr0_1; have HC0_1 := am_ hc0_1; have HR1_1 := am_ hr1_1; have HC1_1 := am_ hc1_1; have HT_1 := am_ ht_1; have HJ_1 := am_ hj_1; have HE_1 := am_ he_1; have HR0_2 := am_ hr0_2; have HC0_2 := am_ hc0_2; have HR1_2 := am_ hr1_2; have HC1_2 := am_ hc1_2; have HT_2 := am_ ht_2; have HJ_2 := am_ hj_2; have HE_2 := am_ he_2; clear hr0_0 hc0_0 hr1_0 hc1_0 ht_0 hj_0 he_0 hr0_1 hc0_1 hr1_1 hc1_1 ht_1 hj_1 he_1 hr0_2 hc0_2 hr1_2 hc1_2 ht_2 hj_2 he_2; have HB := am_ (Below.refl w.heap.size w)
  go_enter Try.func12, Try.ntmps12
  go_wp2_with (first | ((with_reducible refine gate_dst (N := 2) rfl ?_); refine boxZ 2 #[.slice A0_0 n0 c0_0, .slice A0_1 n1 c0_1, .slice A0_2 n2 c0_2] 35 ?_; intro g_0 hg w1 hbox hb; have nk_ := am_ hbox; have ne_ := am_ (Zc : w.heap.size ≤ g_0); have OB0 := am_ (Zaf : w.heap.size ≤ g_0); clear hbox hg; replace HB := (bsZ Zd hb); clear hb; have BK0 := nk_; have GE0 := ne_; clear nk_ ne_; refine ci3 BK0 ?_; intros) | ((with_reducible refine gate_dst (N := 3) rfl ?_); refine boxZ 3 #[.slice A1_0 n0 c1_0, .slice A1_1 n1 c1_1, .slice A1_2 n2 c1_2] 35 ?_; intro g_1 hg w1 hbox hb; have nk_ := am_ hbox; have ne_ := am_ (Zc : w.heap.size ≤ g_1); have OB1 := am_ (by rw [hg]; exact (Nat.succ_le_of_lt (blk_lt (b0Z BK0))) : g_0 + 1 ≤ g_1); clear hbox hg; replace HB := (bsZ Zd hb); replace BK0 := am_ (blk_below (g := g_0) (b0Z BK0) hb); clear hb; refine ci3 BK0 ?_; intros; have BK1 := nk_; have GE1 := ne_; clear nk_ ne_; refine ci3 BK1 ?_; intros) | ((with_reducible refine gate_callee (f := 50) rfl ?_); refine gZ 9 Try.func50 #[.slice A0_0 n0 c0_0, .slice A1_0 n0 c1_0] ?_; (with_reducible refine (same_intactBarS k n0 _ _ _ _ L0 t0 _ (Kd.C_below HR0_0.out Zd) HC0_0.out (Kd.C_below HR1_0.out Zd) HC1_0.out HT_0.out HJ_0.out HE_0.out).mono ?_); rintro e w1 ⟨rfl, hb⟩; refine ⟨_, rfl, ?_⟩; replace HB := (bsZ Zd hb); replace BK0 := am_ (blk_below (g := g_0) (b0Z BK0) hb); replace BK1 := am_ (blk_below (g := g_1) (b0Z BK1) hb); clear hb; refine ci3 BK0 ?_; intros; refine ci3 BK1 ?_; intros) | ((with_reducible refine gate_callee (f := 51) rfl ?_); refine gZ 15 Try.func51 #[.slice A0_1 n1 c0_1, .slice A1_1 n1 c1_1] ?_; (with_reducible refine (same_intactArticleS k n1 _ _ _ _ L1 t1 _ (Kd.C_below HR0_1.out Zd) HC0_1.out (Kd.C_below HR1_1.out Zd) HC1_1.out HT_1.out HJ_1.out HE_1.out).mono ?_); rintro e w1 ⟨rfl, hb⟩; refine ⟨_, rfl, ?_⟩; replace HB := (bsZ Zd hb); replace BK0 := am_ (blk_below (g := g_0) (b0Z BK0) hb); replace BK1 := am_ (blk_below (g := g_1) (b0Z BK1) hb); clear hb; refine ci3 BK0 ?_; intros; refine ci3 BK1 ?_; intros) | ((with_reducible refine gate_callee (f := 52) rfl ?_); refine gZ 21 Try.func52 #[.slice A0_2 n2 c0_2, .slice A1_2 n2 c1_2] ?_; (with_reducible refine (same_intactCueS k n2 _ _ _ _ L2 t2 _ (Kd.C_below HR0_2.out Zd) HC0_2.out (Kd.C_below HR1_2.out Zd) HC1_2.out HT_2.out HJ_2.out HE_2.out).mono ?_); rintro e w1 ⟨rfl, hb⟩; refine ⟨_, rfl, ?_⟩; replace HB := (bsZ Zd hb); replace BK0 := am_ (blk_below (g := g_0) (b0Z BK0) hb); replace BK1 := am_ (blk_below (g := g_1) (b0Z BK1) hb); clear hb; refine ci3 BK0 ?_; intros; refine ci3 BK1 ?_; intros))
  go_ret
  exact ⟨rfl, Zd⟩
theorem size26 : Try.prog.cellsOf 26 = 3 := by kernel_rfl
theorem ones22 : Try.prog.cellsOf 22 = 1 := by kernel_rfl
theorem ones23 : Try.prog.cellsOf 23 = 1 := by kernel_rfl
theorem ones24 : Try.prog.cellsOf 24 = 1 := by kernel_rfl
theorem open_V26 {H : Type} {enc : TypeId × Value → H} {W : World} {base : Nat} {sp : Nat → Bool} {held : Bool} {fuel : Nat} {cs : List Value} {y : DataW H × List MemPlace} (h : DataW.trod enc Try.prog W base sp held fuel 26 cs = some y) : ∃ (A0 : Option Addr) (c0 : Nat) (l0 : List S106) (A1 : Option Addr) (c1 : Nat) (l1 : List S99) (A2 : Option Addr) (c2 : Nat) (l2 : List S101), cs = [.slice A0 l0.length c0, .slice A1 l1.length c1, .slice A2 l2.length c2] ∧ (l0.length ≤ c0 ∧ c0 ≤ maxLen ∧ Kd.C k106 W A0 l0.length l0 ∧ ∀ x ∈ l0, Pr106 x) ∧ (l1.length ≤ c1 ∧ c1 ≤ maxLen ∧ Kd.C k99 W A1 l1.length l1 ∧ ∀ x ∈ l1, Pr99 x) ∧ (l2.length ≤ c2 ∧ c2 ≤ maxLen ∧ Kd.C k101 W A2 l2.length l2 ∧ ∀ x ∈ l2, Pr101 x) := by
  obtain ⟨xs, n, _, rfl, hl, hlen, hf⟩ := DataW.trod_struct Try.underlying26 h; rw [size26] at hl; obtain ⟨A0, c0, l0, e0, p0, q0, r0, s0⟩ := open_rows k106 (Pr := Pr106) Try.underlying22 Zi (fun f_ c_ y_ hy_ => open_S106 hy_ W) ((hf 0 _ rfl).trans (List.getElem?_eq_getElem Zw)); have g0 : cs[0]? = some (.slice A0 l0.length c0) := one_cell (by have z : List.take (Try.prog.cellsOf 22) (List.drop 0 cs) = [.slice A0 l0.length c0] := e0; rw [ones22] at z; exact z); obtain ⟨A1, c1, l1, e1, p1, q1, r1, s1⟩ := open_rows k99 (Pr := Pr99) Try.underlying23 Zi (fun f_ c_ y_ hy_ => open_S99 hy_ W) ((hf 1 _ rfl).trans (List.getElem?_eq_getElem Zw)); have g1 : cs[1]? = some (.slice A1 l1.length c1) := one_cell (by have z : List.take (Try.prog.cellsOf 23) (List.drop 1 cs) = [.slice A1 l1.length c1] := e1; rw [ones23] at z; exact z); obtain ⟨A2, c2, l2, e2, p2, q2, r2, s2⟩ := open_rows k101 (Pr := Pr101) Try.underlying24 Zi (fun f_ c_ y_ hy_ => open_S101 hy_ W) ((hf 2 _ rfl).trans (List.getElem?_eq_getElem Zw)); have g2 : cs[2]? = some (.slice A2 l2.length c2) := one_cell (by have z : List.take (Try.prog.cellsOf 24) (List.drop 2 cs) = [.slice A2 l2.length c2] := e2; rw [ones24] at z; exact z)
  have hcs : cs = [.slice A0 l0.length c0, .slice A1 l1.length c1, .slice A2 l2.length c2] := by
    apply List.ext_getElem?
    intro i
    match i with
    | 0 => exact g0
    | 1 => exact g1
    | 2 => exact g2
    | i + 3 => rw [List.getElem?_eq_none (by omega)]; rfl
  exact ⟨A0, c0, l0, A1, c1, l1, A2, c2, l2, hcs, ⟨p0, q0, r0, s0⟩, ⟨p1, q1, r1, s1⟩, ⟨p2, q2, r2, s2⟩⟩
end Go.Proofs.Ytmnnbmdfepogiaa.F
namespace Go.Proofs.Ytmnnbmdfepogiaa.F
open Go.RowKit Go.Proofs.YtmnnbmdfepogiaaW.PrintWords Go.Proofs.YtmnnbmdfepogiaaW.PrintLast Go.Proofs.YtmnnbmdfepogiaaW.PrintMore
attribute [local go_sem] max2_int min2_int max_two min_two max_three min_three max_four min_four
set_option linter.unusedVariables false
set_option linter.unusedSimpArgs false
def spec_l01In.f (a0 : Int) (a1 : Int) (a2 : Int) : Option (Bool) := if a0 ≥ a1 then (some (decide (a0 ≤ a2))) else (some false)
set_option maxHeartbeats 8000000 in
set_option maxRecDepth 100000 in
theorem spec_l01In.calls (a0 : Int) (a1 : Int) (a2 : Int) (r : Bool) (w : World) (h : spec_l01In.f a0 a1 a2 = some r) :
  Calls Try.prog 56 #[.int .i64 a0, .int .i64 a1, .int .i64 a2] w fun e w' => e = .returned (.bool r) ∧ Drawn0 w w' := by
 have H : (if a0 ≥ a1 then (some (decide (a0 ≤ a2))) else (some false)) = some r := h; clear h
 by_cases c4 : a0 ≥ a1
 ·rw [if_pos c4] at H
  have c4b0 : decide (a1 ≤ a0) = true := decide_eq_true c4; clear c4; obtain rfl := Option.some.inj H
  go_enter Try.func56, Try.ntmps56
  go_wp2
  go_ret
  exact ⟨Za, Zb⟩
 ·rw [if_neg c4] at H
  have c4b0 : decide (a1 ≤ a0) = false := decide_eq_false c4; clear c4; obtain rfl := Option.some.inj H
  go_enter Try.func56, Try.ntmps56
  go_wp2
  go_ret
  exact ⟨Za, Zb⟩
def spec_l03Find.l0 : Nat → List (S61) → ByteArray → Int → Option (Int)
 | 0, _, _, _ => none
 | k + 1, x0, x1, x5 => if x5 < (x0.length : Int) then (if 0 ≤ x5 then (if ((rd_T61 x0 x5).f0).toList = x1.toList then (some x5) else (spec_l03Find.l0 k x0 x1 (wrap64 (x5 + 1)))) else (none)) else (some (-1))
def spec_l03Find.f (k : Nat) (l0 : List (S61)) (a1 : ByteArray) : Option (Int) := spec_l03Find.l0 k l0 a1 0
set_option maxHeartbeats 8000000 in
set_option maxRecDepth 100000 in
theorem spec_l03Find.calls (k : Nat) (A0 : Option Addr) (c0 : Nat) (l0 : List (S61)) (a1 : ByteArray) (r : Int) (w : World) (hr0 : Kd.C k61 w A0 l0.length l0) (hc0 : l0.length ≤ c0) (h : spec_l03Find.f k l0 a1 = some r) :
  Calls Try.prog 70 #[.slice A0 l0.length c0, .string a1] w fun e w' => e = .returned (.int .i64 r) ∧ Drawn0 w w' := by
 have HR0 := am_ hr0; have HC0 := am_ hc0; clear hr0 hc0; have H : (spec_l03Find.l0 k l0 a1 0) = some r := h; clear h; have H' := am_ H; clear H
 go_enter Try.func70, Try.ntmps70
 go_wp2
 go_loopg [5] k (fun kq v5 w' => ∃ (x5_1 : Int), v5 = .int .i64 x5_1 ∧ Aside0 (spec_l03Find.l0 kq l0 a1 x5_1 = some r) ∧ Aside0 (kq ≤ k) ∧ Drawn0 w w')
 case atStart => exact ⟨(0), Za, H', ⟨Nat.le_refl _⟩, Zb⟩
 case round =>
  clear H'
  try clear p2
  obtain ⟨x5_1, rfl, HA, HK1, ⟨m1, rfl⟩⟩ := hrel
  cases gk with
  | zero => exact absurd HA.out (by simp [spec_l03Find.l0])
  | succ k1 =>
   have H := HA.out; clear HA; simp only [spec_l03Find.l0] at H
   by_cases c3 : x5_1 < (l0.length : Int)
   ·rw [if_pos c3] at H
    have c3b0 := decide_eq_true c3; clear c3
    by_cases c4 : 0 ≤ x5_1
    ·rw [if_pos c4] at H
     have c4b0 := decide_eq_true c4; clear c4
     by_cases c5 : ((rd_T61 l0 x5_1).f0).toList = a1.toList
     ·rw [if_pos c5] at H
      have c5b0 := beq_iff_eq.mpr c5; have c5b1 := bne_eq_false_iff_eq.mpr c5; clear c5; obtain rfl := Option.some.inj H; have p101 : 0 ≤ (x5_1 : Int) := of_decide_eq_true Zn; have q101 : x5_1 < (l0.length : Int) := of_decide_eq_true Zn; obtain ⟨ad101, e101, hx101_0, hx101_1, hx101_2, hx101_3, hx101_4, hx101_5, hx101_6, hx101_7, hx101_8⟩ := at_T61 HR0.out x5_1 p101 q101
      cases e101
      replace p101 := eq_true p101; replace q101 := eq_true q101
      go_wp2
      go_ret
      exact ⟨Za, Zb⟩
     ·rw [if_neg c5] at H
      have c5b0 := beq_eq_false_iff_ne.mpr c5; have c5b1 := bne_iff_ne.mpr c5; have H' := am_ H; clear H; have p101 : 0 ≤ (x5_1 : Int) := of_decide_eq_true Zn; have q101 : x5_1 < (l0.length : Int) := of_decide_eq_true Zn; obtain ⟨ad101, e101, hx101_0, hx101_1, hx101_2, hx101_3, hx101_4, hx101_5, hx101_6, hx101_7, hx101_8⟩ := at_T61 HR0.out x5_1 p101 q101
      cases e101
      replace p101 := eq_true p101; replace q101 := eq_true q101
      go_wp2
      go_roundg k1
      case measure => have := HK1.out; omega
      case rel => exact ⟨(wrap64 (x5_1 + 1)), Za, H', ⟨Zs⟩, Zb⟩
    ·rw [if_neg c4] at H
     exact absurd H (by simp)
   ·rw [if_neg c3] at H
    have c3b0 := decide_eq_false c3; clear c3; obtain rfl := Option.some.inj H
    go_wp2
    go_ret
    exact ⟨Za, Zb⟩
def spec_l07Time.l0 : Nat → List (S104) → Int → Int → Int → Int → Option (Int)
 | 0, _, _, _, _, _ => none
 | k + 1, x0, x1, x2, x7, x8 => if x8 < x1 then (if 0 ≤ x8 then (if x8 < (x0.length : Int) then (spec_l07Time.l0 k x0 x1 x2 (wrap64 (x7 + (wrap64 (((rd_T104 x0 x8).f0) * ((rd_T104 x0 x8).f1))))) (wrap64 (x8 + 1))) else (none)) else (none)) else (if 0 ≤ x1 then (if x1 < (x0.length : Int) then (some (wrap64 (x7 + (wrap64 (x2 * ((rd_T104 x0 x1).f1)))))) else (none)) else (none))
def spec_l07Time.f (k : Nat) (l0 : List (S104)) (a1 : Int) (a2 : Int) : Option (Int) := spec_l07Time.l0 k l0 a1 a2 0 0
set_option maxHeartbeats 8000000 in
set_option maxRecDepth 100000 in
theorem spec_l07Time.calls (k : Nat) (A0 : Option Addr) (c0 : Nat) (l0 : List (S104)) (a1 : Int) (a2 : Int) (r : Int) (w : World) (hr0 : Kd.C k104 w A0 l0.length l0) (hc0 : l0.length ≤ c0) (h : spec_l07Time.f k l0 a1 a2 = some r) :
  Calls Try.prog 100 #[.slice A0 l0.length c0, .int .i64 a1, .int .i64 a2] w fun e w' => e = .returned (.int .i64 r) ∧ Drawn0 w w' := by
 have HR0 := am_ hr0; have HC0 := am_ hc0; clear hr0 hc0; have H : (spec_l07Time.l0 k l0 a1 a2 0 0) = some r := h; clear h; have H' := am_ H; clear H
 go_enter Try.func100, Try.ntmps100
 go_wp2
 repeat (go_quiet (fail); try go_wp2)
 go_loopg [7, 8] k (fun kq v7 v8 w' => ∃ (x7_1 : Int) (x8_1 : Int), v7 = .int .i64 x7_1 ∧ v8 = .int .i64 x8_1 ∧ Aside0 (spec_l07Time.l0 kq l0 a1 a2 x7_1 x8_1 = some r) ∧ Aside0 (kq ≤ k) ∧ Drawn0 w w')
 case atStart => exact ⟨(0), (0), Za, Za, H', ⟨Nat.le_refl _⟩, Zb⟩
 case round =>
  clear H'
  try clear c1
  try clear p2
  obtain ⟨x7_1, x8_1, rfl, rfl, HA, HK1, ⟨m1, rfl⟩⟩ := hrel
  cases gk with
  | zero => exact absurd HA.out (by simp [spec_l07Time.l0])
  | succ k1 =>
   have H := HA.out; clear HA; simp only [spec_l07Time.l0] at H
   by_cases c4 : x8_1 < a1
   ·rw [if_pos c4] at H
    have c4b0 := decide_eq_true c4; clear c4
    by_cases c5 : 0 ≤ x8_1
    ·rw [if_pos c5] at H
     have c5b0 := decide_eq_true c5; clear c5
     by_cases c6 : x8_1 < (l0.length : Int)
     ·rw [if_pos c6] at H
      have c6b0 := decide_eq_true c6; clear c6; have H' := am_ H; clear H; have p102 : 0 ≤ (x8_1 : Int) := of_decide_eq_true Zn; have q102 : x8_1 < (l0.length : Int) := of_decide_eq_true Zn; obtain ⟨ad102, e102, hx102_0, hx102_1⟩ := at_T104 HR0.out x8_1 p102 q102
      cases e102
      replace p102 := eq_true p102; replace q102 := eq_true q102; have p103 : 0 ≤ (x8_1 : Int) := of_decide_eq_true Zn; have q103 : x8_1 < (l0.length : Int) := of_decide_eq_true Zn; obtain ⟨ad103, e103, hx103_0, hx103_1⟩ := at_T104 HR0.out x8_1 p103 q103; obtain rfl : ad102 = ad103 := (by injection e103); replace p103 := eq_true p103; replace q103 := eq_true q103
      go_wp2
      repeat (go_quiet (fail); try go_wp2)
      go_roundg k1
      case measure => have := HK1.out; omega
      case rel => exact ⟨(wrap64 (x7_1 + (wrap64 (((rd_T104 l0 x8_1).f0) * ((rd_T104 l0 x8_1).f1))))), (wrap64 (x8_1 + 1)), Za, Za, H', ⟨Zs⟩, Zb⟩
     ·rw [if_neg c6] at H
      exact absurd H (by simp)
    ·rw [if_neg c5] at H
     exact absurd H (by simp)
   ·rw [if_neg c4] at H
    have c4b0 := decide_eq_false c4; clear c4
    by_cases c7 : 0 ≤ a1
    ·rw [if_pos c7] at H
     have c7b0 := decide_eq_true c7; clear c7
     by_cases c8 : a1 < (l0.length : Int)
     ·rw [if_pos c8] at H
      have c8b0 := decide_eq_true c8; clear c8; obtain rfl := Option.some.inj H; have p104 : 0 ≤ (a1 : Int) := of_decide_eq_true Zn; have q104 : a1 < (l0.length : Int) := of_decide_eq_true Zn; obtain ⟨ad104, e104, hx104_0, hx104_1⟩ := at_T104 HR0.out a1 p104 q104
      cases e104
      replace p104 := eq_true p104; replace q104 := eq_true q104
      go_wp2
      repeat (go_quiet (fail); try go_wp2)
      go_ret
      exact ⟨Za, Zb⟩
     ·rw [if_neg c8] at H
      exact absurd H (by simp)
    ·rw [if_neg c7] at H
     exact absurd H (by simp)
def spec_l08Time.f (k : Nat) (l0_0 : List (S104)) (l0_1 : List (S61)) (l0_2 : List (S58)) (a1_0 : Int) (a1_1 : Int) (a1_2 : ByteArray) (a1_3 : Int) : Option (Int) := (spec_l07Time.f k l0_0 a1_0 a1_1).bind fun t107 => ((spec_l03Find.f k l0_1 a1_2).bind fun t108 => (if 0 ≤ t108 then (if t108 < (l0_1.length : Int) then (some (wrap64 (t107 - ((rd_T61 l0_1 t108).f3)))) else (none)) else (none)))
set_option maxHeartbeats 8000000 in
set_option maxRecDepth 100000 in
theorem spec_l08Time.calls (k : Nat) (A0_0 : Option Addr) (c0_0 : Nat) (l0_0 : List (S104)) (A0_1 : Option Addr) (c0_1 : Nat) (l0_1 : List (S61)) (A0_2 : Option Addr) (c0_2 : Nat) (l0_2 : List (S58)) (a1_0 : Int) (a1_1 : Int) (a1_2 : ByteArray) (a1_3 : Int) (r : Int) (w : World) (hr0_0 : Kd.C k104 w A0_0 l0_0.length l0_0) (hc0_0 : l0_0.length ≤ c0_0) (hr0_1 : Kd.C k61 w A0_1 l0_1.length l0_1) (hc0_1 : l0_1.length ≤ c0_1) (hr0_2 : Kd.C k58 w A0_2 l0_2.length l0_2) (hc0_2 : l0_2.length ≤ c0_2) (h : spec_l08Time.f k l0_0 l0_1 l0_2 a1_0 a1_1 a1_2 a1_3 = some r) :
  Calls Try.prog 72 #[.agg #[.slice A0_0 l0_0.length c0_0, .slice A0_1 l0_1.length c0_1, .slice A0_2 l0_2.length c0_2], .agg #[.int .i64 a1_0, .int .i64 a1_1, .string a1_2, .int .i64 a1_3]] w fun e w' => e = .returned (.int .i64 r) ∧ Below w.heap.size w w' := by
 have hu35 := Try.underlying35; have hu58 := Try.underlying58; have HR0_0 := am_ hr0_0; have HC0_0 := am_ hc0_0; clear hr0_0 hc0_0; have HR0_1 := am_ hr0_1; have HC0_1 := am_ hc0_1; clear hr0_1 hc0_1; have HR0_2 := am_ hr0_2; have HC0_2 := am_ hc0_2; clear hr0_2 hc0_2; have HB := am_ (Below.refl w.heap.size w); have H : ((spec_l07Time.f k l0_0 a1_0 a1_1).bind fun t107 => ((spec_l03Find.f k l0_1 a1_2).bind fun t108 => (if 0 ≤ t108 then (if t108 < (l0_1.length : Int) then (some (wrap64 (t107 - ((rd_T61 l0_1 t108).f3)))) else (none)) else (none)))) = some r := h; clear h; replace H := Option.bind_eq_some_iff.mp H; obtain ⟨t107, A30, H⟩ := H; have A3 := am_ A30; clear A30; replace H := Option.bind_eq_some_iff.mp H; obtain ⟨t108, A40, H⟩ := H; have A4 := am_ A40; clear A40
 by_cases c5 : 0 ≤ t108
 ·rw [if_pos c5] at H
  have c5b0 := decide_eq_true c5; clear c5
  by_cases c6 : t108 < (l0_1.length : Int)
  ·rw [if_pos c6] at H
   have c6b0 := decide_eq_true c6; clear c6; obtain rfl := Option.some.inj H
   go_enter Try.func72, Try.ntmps72
   go_wp2_with (first | ((with_reducible refine gate_dst (N := 2) rfl ?_); refine boxZ 2 #[.slice A0_0 l0_0.length c0_0, .slice A0_1 l0_1.length c0_1, .slice A0_2 l0_2.length c0_2] 35 ?_; intro gb105 hg w7 hbox hb; replace BK105 := am_ (hbox); replace GW105 := am_ ((Zc : w.heap.size ≤ gb105)); replace GE105 := GW105; replace HB := (bsZ Zd hb); clear hb hbox hg) | ((with_reducible refine gate_dst (N := 3) rfl ?_); refine boxZ 3 #[.int .i64 a1_0, .int .i64 a1_1, .string a1_2, .int .i64 a1_3] 58 ?_; intro gb106 hg w8 hbox hb; replace BK106 := am_ (hbox); replace GW106 := am_ (((Ze GE105) : w.heap.size ≤ gb106)); replace GE106 := GW106; replace HB := (bsZ (Zf GE105) hb); replace NB105_106 := am_ ((by rw [hg]; exact Nat.ne_of_lt (blk_lt (g := gb105) (b0Z BK105)) : gb105 ≠ gb106)); replace NB106_105 := am_ ((by rw [hg]; exact Nat.ne_of_gt (blk_lt (g := gb105) (b0Z BK105)) : gb106 ≠ gb105)); replace BK105 := (bkZ BK105 hb); clear hb hbox hg; have hnb9 := NB105_106.out; have hnc9 := NB106_105.out; obtain ⟨hcz10_0, hcz10_1, hcz10_2, hfz10_0, hfz10_1, hfz10_2⟩ := cz3 BK105; obtain ⟨hcz11_0, hcz11_1, hcz11_2, hcz11_3, hfz11_0, hfz11_1, hfz11_2, hfz11_3⟩ := cz4 BK106) | (go_at_call 100; (with_reducible refine (spec_l07Time.calls k _ _ l0_0 a1_0 a1_1 t107 _ ?_ ?_ A3.out).mono ?_); exact (Zz HR0_0); exact HC0_0.out; rintro e w' ⟨rfl, ⟨nd, rfl⟩⟩; (try first | exact ⟨rfl, _, World.drewN_drewN _ _ _⟩ | exact ⟨rfl, _, Eq.trans (World.drewN_drewN _ _ _) (congrArg (World.drewN _) (Nat.add_assoc _ _ _))⟩)) | (go_at_call 70; (with_reducible refine (spec_l03Find.calls k _ _ l0_1 a1_2 t108 _ ?_ ?_ A4.out).mono ?_); exact (Zag HR0_1 GE105 GE106); exact HC0_1.out; rintro e w' ⟨rfl, ⟨nd, rfl⟩⟩; (try first | exact ⟨rfl, _, World.drewN_drewN _ _ _⟩ | exact ⟨rfl, _, Eq.trans (World.drewN_drewN _ _ _) (congrArg (World.drewN _) (Nat.add_assoc _ _ _))⟩); have p109 : 0 ≤ (t108 : Int) := of_decide_eq_true Zn; have q109 : t108 < (l0_1.length : Int) := of_decide_eq_true Zn; obtain ⟨ad109, e109, hx109_0, hx109_1, hx109_2, hx109_3, hx109_4, hx109_5, hx109_6, hx109_7, hx109_8⟩ := at_T61 HR0_1.out t108 p109 q109; cases e109; replace hx109_0 := cbH HB hx109_0; replace hx109_1 := cbH HB hx109_1; replace hx109_2 := cbH HB hx109_2; replace hx109_3 := cbH HB hx109_3; replace hx109_4 := cbH HB hx109_4; replace hx109_5 := cbH HB hx109_5; replace hx109_6 := cbH HB hx109_6; replace hx109_7 := cbH HB hx109_7; replace hx109_8 := cbH HB hx109_8; replace p109 := eq_true p109; replace q109 := eq_true q109))
   repeat (go_quiet (first | ((with_reducible refine gate_dst (N := 2) rfl ?_); refine boxZ 2 #[.slice A0_0 l0_0.length c0_0, .slice A0_1 l0_1.length c0_1, .slice A0_2 l0_2.length c0_2] 35 ?_; intro gb105 hg w7 hbox hb; replace BK105 := am_ (hbox); replace GW105 := am_ ((Zc : w.heap.size ≤ gb105)); replace GE105 := GW105; replace HB := (bsZ Zd hb); clear hb hbox hg) | ((with_reducible refine gate_dst (N := 3) rfl ?_); refine boxZ 3 #[.int .i64 a1_0, .int .i64 a1_1, .string a1_2, .int .i64 a1_3] 58 ?_; intro gb106 hg w8 hbox hb; replace BK106 := am_ (hbox); replace GW106 := am_ (((Ze GE105) : w.heap.size ≤ gb106)); replace GE106 := GW106; replace HB := (bsZ (Zf GE105) hb); replace NB105_106 := am_ ((by rw [hg]; exact Nat.ne_of_lt (blk_lt (g := gb105) (b0Z BK105)) : gb105 ≠ gb106)); replace NB106_105 := am_ ((by rw [hg]; exact Nat.ne_of_gt (blk_lt (g := gb105) (b0Z BK105)) : gb106 ≠ gb105)); replace BK105 := (bkZ BK105 hb); clear hb hbox hg; have hnb9 := NB105_106.out; have hnc9 := NB106_105.out; obtain ⟨hcz10_0, hcz10_1, hcz10_2, hfz10_0, hfz10_1, hfz10_2⟩ := cz3 BK105; obtain ⟨hcz11_0, hcz11_1, hcz11_2, hcz11_3, hfz11_0, hfz11_1, hfz11_2, hfz11_3⟩ := cz4 BK106) | (go_at_call 100; (with_reducible refine (spec_l07Time.calls k _ _ l0_0 a1_0 a1_1 t107 _ ?_ ?_ A3.out).mono ?_); exact (Zz HR0_0); exact HC0_0.out; rintro e w' ⟨rfl, ⟨nd, rfl⟩⟩; (try first | exact ⟨rfl, _, World.drewN_drewN _ _ _⟩ | exact ⟨rfl, _, Eq.trans (World.drewN_drewN _ _ _) (congrArg (World.drewN _) (Nat.add_assoc _ _ _))⟩)) | (go_at_call 70; (with_reducible refine (spec_l03Find.calls k _ _ l0_1 a1_2 t108 _ ?_ ?_ A4.out).mono ?_); exact (Zag HR0_1 GE105 GE106); exact HC0_1.out; rintro e w' ⟨rfl, ⟨nd, rfl⟩⟩; (try first | exact ⟨rfl, _, World.drewN_drewN _ _ _⟩ | exact ⟨rfl, _, Eq.trans (World.drewN_drewN _ _ _) (congrArg (World.drewN _) (Nat.add_assoc _ _ _))⟩); have p109 : 0 ≤ (t108 : Int) := of_decide_eq_true Zn; have q109 : t108 < (l0_1.length : Int) := of_decide_eq_true Zn; obtain ⟨ad109, e109, hx109_0, hx109_1, hx109_2, hx109_3, hx109_4, hx109_5, hx109_6, hx109_7, hx109_8⟩ := at_T61 HR0_1.out t108 p109 q109; cases e109; replace hx109_0 := cbH HB hx109_0; replace hx109_1 := cbH HB hx109_1; replace hx109_2 := cbH HB hx109_2; replace hx109_3 := cbH HB hx109_3; replace hx109_4 := cbH HB hx109_4; replace hx109_5 := cbH HB hx109_5; replace hx109_6 := cbH HB hx109_6; replace hx109_7 := cbH HB hx109_7; replace hx109_8 := cbH HB hx109_8; replace p109 := eq_true p109; replace q109 := eq_true q109)); try go_wp2_with (first | ((with_reducible refine gate_dst (N := 2) rfl ?_); refine boxZ 2 #[.slice A0_0 l0_0.length c0_0, .slice A0_1 l0_1.length c0_1, .slice A0_2 l0_2.length c0_2] 35 ?_; intro gb105 hg w7 hbox hb; replace BK105 := am_ (hbox); replace GW105 := am_ ((Zc : w.heap.size ≤ gb105)); replace GE105 := GW105; replace HB := (bsZ Zd hb); clear hb hbox hg) | ((with_reducible refine gate_dst (N := 3) rfl ?_); refine boxZ 3 #[.int .i64 a1_0, .int .i64 a1_1, .string a1_2, .int .i64 a1_3] 58 ?_; intro gb106 hg w8 hbox hb; replace BK106 := am_ (hbox); replace GW106 := am_ (((Ze GE105) : w.heap.size ≤ gb106)); replace GE106 := GW106; replace HB := (bsZ (Zf GE105) hb); replace NB105_106 := am_ ((by rw [hg]; exact Nat.ne_of_lt (blk_lt (g := gb105) (b0Z BK105)) : gb105 ≠ gb106)); replace NB106_105 := am_ ((by rw [hg]; exact Nat.ne_of_gt (blk_lt (g := gb105) (b0Z BK105)) : gb106 ≠ gb105)); replace BK105 := (bkZ BK105 hb); clear hb hbox hg; have hnb9 := NB105_106.out; have hnc9 := NB106_105.out; obtain ⟨hcz10_0, hcz10_1, hcz10_2, hfz10_0, hfz10_1, hfz10_2⟩ := cz3 BK105; obtain ⟨hcz11_0, hcz11_1, hcz11_2, hcz11_3, hfz11_0, hfz11_1, hfz11_2, hfz11_3⟩ := cz4 BK106) | (go_at_call 100; (with_reducible refine (spec_l07Time.calls k _ _ l0_0 a1_0 a1_1 t107 _ ?_ ?_ A3.out).mono ?_); exact (Zz HR0_0); exact HC0_0.out; rintro e w' ⟨rfl, ⟨nd, rfl⟩⟩; (try first | exact ⟨rfl, _, World.drewN_drewN _ _ _⟩ | exact ⟨rfl, _, Eq.trans (World.drewN_drewN _ _ _) (congrArg (World.drewN _) (Nat.add_assoc _ _ _))⟩)) | (go_at_call 70; (with_reducible refine (spec_l03Find.calls k _ _ l0_1 a1_2 t108 _ ?_ ?_ A4.out).mono ?_); exact (Zag HR0_1 GE105 GE106); exact HC0_1.out; rintro e w' ⟨rfl, ⟨nd, rfl⟩⟩; (try first | exact ⟨rfl, _, World.drewN_drewN _ _ _⟩ | exact ⟨rfl, _, Eq.trans (World.drewN_drewN _ _ _) (congrArg (World.drewN _) (Nat.add_assoc _ _ _))⟩); have p109 : 0 ≤ (t108 : Int) := of_decide_eq_true Zn; have q109 : t108 < (l0_1.length : Int) := of_decide_eq_true Zn; obtain ⟨ad109, e109, hx109_0, hx109_1, hx109_2, hx109_3, hx109_4, hx109_5, hx109_6, hx109_7, hx109_8⟩ := at_T61 HR0_1.out t108 p109 q109; cases e109; replace hx109_0 := cbH HB hx109_0; replace hx109_1 := cbH HB hx109_1; replace hx109_2 := cbH HB hx109_2; replace hx109_3 := cbH HB hx109_3; replace hx109_4 := cbH HB hx109_4; replace hx109_5 := cbH HB hx109_5; replace hx109_6 := cbH HB hx109_6; replace hx109_7 := cbH HB hx109_7; replace hx109_8 := cbH HB hx109_8; replace p109 := eq_true p109; replace q109 := eq_true q109)))
   go_ret
   exact ⟨by first | rfl | (simp only [i64_w]; done) | (simp only [i64_w]; rfl) | (simp [errW_none, errW_some] <;> rfl) | (simp [*, errW_none, errW_some] <;> rfl), (Zh GE105 GE106)⟩
  ·rw [if_neg c6] at H
   exact absurd H (by simp)
 ·rw [if_neg c5] at H
  exact absurd H (by simp)
def spec_IsWord.l0 : Nat → ByteArray → Int → Option (Bool)
 | 0, _, _ => none
 | k + 1, x0, x3 => if x3 < (x0.size : Int) then (if 0 ≤ x3 then (if (bt x0 x3) < 97 then (some false) else (if (bt x0 x3) > 122 then (some false) else (spec_IsWord.l0 k x0 (wrap64 (x3 + 1))))) else (none)) else ((spec_l01In.f (x0.size : Int) 1 16).bind fun t110 => (some t110))
def spec_IsWord.f (k : Nat) (a0 : ByteArray) : Option (Bool) := spec_IsWord.l0 k a0 0
set_option maxHeartbeats 8000000 in
set_option maxRecDepth 100000 in
theorem spec_IsWord.calls (k : Nat) (a0 : ByteArray) (r : Bool) (w : World) (h : spec_IsWord.f k a0 = some r) :
  Calls Try.prog 114 #[.string a0] w fun e w' => e = .returned (.bool r) ∧ Drawn0 w w' := by
 have H : (spec_IsWord.l0 k a0 0) = some r := h; clear h; have H' := am_ H; clear H
 go_enter Try.func114, Try.ntmps114
 go_wp2
 go_loopg [3] k (fun kq v3 w' => ∃ (x3_1 : Int), v3 = .int .i64 x3_1 ∧ Aside0 (spec_IsWord.l0 kq a0 x3_1 = some r) ∧ Aside0 (kq ≤ k) ∧ Drawn0 w w')
 case atStart => exact ⟨(0), Za, H', ⟨Nat.le_refl _⟩, Zb⟩
 case round =>
  clear H'
  try clear c1
  obtain ⟨x3_1, rfl, HA, HK1, ⟨m1, rfl⟩⟩ := hrel
  cases gk with
  | zero => exact absurd HA.out (by simp [spec_IsWord.l0])
  | succ k1 =>
   have H := HA.out; clear HA; simp only [spec_IsWord.l0] at H
   by_cases c2 : x3_1 < (a0.size : Int)
   ·rw [if_pos c2] at H
    have c2b0 := decide_eq_true c2; clear c2
    by_cases c3 : 0 ≤ x3_1
    ·rw [if_pos c3] at H
     have c3b0 := decide_eq_true c3; clear c3
     by_cases c5 : (bt a0 x3_1) < 97
     ·rw [if_pos c5] at H
      have c5b0 := decide_eq_true c5; clear c5; obtain rfl := Option.some.inj H; have p4 : 0 ≤ (x3_1 : Int) := of_decide_eq_true Zn; have q4 : x3_1 < (a0.size : Int) := of_decide_eq_true Zn; have hx4 := bt_at a0 x3_1; replace p4 := eq_true p4; replace q4 := eq_true q4
      go_wp2
      go_ret
      exact ⟨Za, Zb⟩
     ·rw [if_neg c5] at H
      have c5b0 := decide_eq_false c5; clear c5
      by_cases c7 : (bt a0 x3_1) > 122
      ·rw [if_pos c7] at H
       have c7b0 : decide (122 < (bt a0 x3_1)) = true := decide_eq_true c7; clear c7; obtain rfl := Option.some.inj H; have p4 : 0 ≤ (x3_1 : Int) := of_decide_eq_true Zn; have q4 : x3_1 < (a0.size : Int) := of_decide_eq_true Zn; have hx4 := bt_at a0 x3_1; replace p4 := eq_true p4; replace q4 := eq_true q4; have p6 : 0 ≤ (x3_1 : Int) := of_decide_eq_true Zn; have q6 : x3_1 < (a0.size : Int) := of_decide_eq_true Zn; have hx6 := bt_at a0 x3_1; replace p6 := eq_true p6; replace q6 := eq_true q6
       go_wp2
       go_ret
       exact ⟨Za, Zb⟩
      ·rw [if_neg c7] at H
       have c7b0 : decide (122 < (bt a0 x3_1)) = false := decide_eq_false c7; clear c7; have H' := am_ H; clear H; have p4 : 0 ≤ (x3_1 : Int) := of_decide_eq_true Zn; have q4 : x3_1 < (a0.size : Int) := of_decide_eq_true Zn; have hx4 := bt_at a0 x3_1; replace p4 := eq_true p4; replace q4 := eq_true q4; have p6 : 0 ≤ (x3_1 : Int) := of_decide_eq_true Zn; have q6 : x3_1 < (a0.size : Int) := of_decide_eq_true Zn; have hx6 := bt_at a0 x3_1; replace p6 := eq_true p6; replace q6 := eq_true q6
       go_wp2
       go_roundg k1
       case measure => have := HK1.out; omega
       case rel => exact ⟨(wrap64 (x3_1 + 1)), Za, H', ⟨Zs⟩, Zb⟩
    ·rw [if_neg c3] at H
     exact absurd H (by simp)
   ·rw [if_neg c2] at H
    have c2b0 := decide_eq_false c2; clear c2; replace H := Option.bind_eq_some_iff.mp H; obtain ⟨t110, A80, H⟩ := H; have A8 := am_ A80; clear A80; obtain rfl := Option.some.inj H
    go_wp2_with (first | ((with_reducible refine gate_callee (f := 56) rfl ?_); refine gZ 22 Try.func56 #[.int .i64 (a0.size : Int), .int .i64 1, .int .i64 16] ?_; (with_reducible refine (spec_l01In.calls (a0.size : Int) 1 16 t110 _ A8.out).mono ?_); rintro e w' ⟨rfl, ⟨nd, rfl⟩⟩; refine ⟨_, rfl, ?_⟩))
    go_ret
    exact ⟨Za, Zb⟩
def spec_IsArticle.f (k : Nat) (a0_0 : ByteArray) (a0_1 : Int) (a0_2 : Int) (a0_3 : Int) (a0_4 : Int) (a0_5 : Int) (a0_6 : Int) (a0_7 : Int) (a0_8 : Int) : Option (Bool) := (spec_IsWord.f k a0_0).bind fun t112 => (if t112 = true then ((spec_l01In.f a0_1 0 3).bind fun t113 => (if t113 = true then ((spec_l01In.f a0_2 20 300).bind fun t114 => (if t114 = true then ((spec_l01In.f a0_3 0 10000).bind fun t115 => (if t115 = true then ((spec_l01In.f a0_4 0 a0_3).bind fun t116 => (if t116 = true then ((spec_l01In.f a0_5 1 50).bind fun t117 => (if t117 = true then ((spec_l01In.f a0_6 0 10000).bind fun t118 => (if t118 = true then ((spec_l01In.f a0_7 1 100000).bind fun t119 => (if t119 = true then ((spec_l01In.f a0_8 0 3).bind fun t120 => (some t120)) else (some false))) else (some false))) else (some false))) else (some false))) else (some false))) else (some false))) else (some false))) else (some false))
set_option maxHeartbeats 8000000 in
set_option maxRecDepth 100000 in
theorem spec_IsArticle.calls (k : Nat) (a0_0 : ByteArray) (a0_1 : Int) (a0_2 : Int) (a0_3 : Int) (a0_4 : Int) (a0_5 : Int) (a0_6 : Int) (a0_7 : Int) (a0_8 : Int) (r : Bool) (w : World) (h : spec_IsArticle.f k a0_0 a0_1 a0_2 a0_3 a0_4 a0_5 a0_6 a0_7 a0_8 = some r) :
  Calls Try.prog 103 #[.agg #[.string a0_0, .int .i64 a0_1, .int .i64 a0_2, .int .i64 a0_3, .int .i64 a0_4, .int .i64 a0_5, .int .i64 a0_6, .int .i64 a0_7, .int .i64 a0_8]] w fun e w' => e = .returned (.bool r) ∧ Below w.heap.size w w' := by
 have hu61 := Try.underlying61; have HB := am_ (Below.refl w.heap.size w); have H : ((spec_IsWord.f k a0_0).bind fun t112 => (if t112 = true then ((spec_l01In.f a0_1 0 3).bind fun t113 => (if t113 = true then ((spec_l01In.f a0_2 20 300).bind fun t114 => (if t114 = true then ((spec_l01In.f a0_3 0 10000).bind fun t115 => (if t115 = true then ((spec_l01In.f a0_4 0 a0_3).bind fun t116 => (if t116 = true then ((spec_l01In.f a0_5 1 50).bind fun t117 => (if t117 = true then ((spec_l01In.f a0_6 0 10000).bind fun t118 => (if t118 = true then ((spec_l01In.f a0_7 1 100000).bind fun t119 => (if t119 = true then ((spec_l01In.f a0_8 0 3).bind fun t120 => (some t120)) else (some false))) else (some false))) else (some false))) else (some false))) else (some false))) else (some false))) else (some false))) else (some false))) = some r := h; clear h; replace H := Option.bind_eq_some_iff.mp H; obtain ⟨t112, A20, H⟩ := H; have A2 := am_ A20; clear A20; have HS_ := am_ H; clear H
 go_enter Try.func103, Try.ntmps103
 go_wp2_with (first | ((with_reducible refine gate_dst (N := 1) rfl ?_); refine boxZ 1 #[.string a0_0, .int .i64 a0_1, .int .i64 a0_2, .int .i64 a0_3, .int .i64 a0_4, .int .i64 a0_5, .int .i64 a0_6, .int .i64 a0_7, .int .i64 a0_8] 61 ?_; intro gb111 hg w19 hbox hb; replace BK111 := am_ (hbox); replace GW111 := am_ ((Zc : w.heap.size ≤ gb111)); replace GE111 := GW111; replace HB := (bsZ Zd hb); clear hb hbox hg; refine ci9 BK111 ?_; intros) | ((with_reducible refine gate_callee (f := 114) rfl ?_); refine gZ 5 Try.func114 #[.string a0_0] ?_; (with_reducible refine (spec_IsWord.calls k a0_0 t112 _ A2.out).mono ?_); rintro e w' ⟨rfl, ⟨nd, rfl⟩⟩; refine ⟨_, rfl, ?_⟩; refine ?roundEnd))
 case roundEnd =>
  by_cases c3 : t112 = true
  ·have H := HS_.out
   clear HS_; subst c3; rw [if_pos rfl] at H; replace H := Option.bind_eq_some_iff.mp H; obtain ⟨t113, A40, H⟩ := H; have A4 := am_ A40; clear A40; have HS_ := am_ H; clear H
   go_wp2_with (first | (go_at_call 56; (with_reducible refine (spec_l01In.calls a0_1 0 3 t113 _ A4.out).mono ?_); rintro e w' ⟨rfl, ⟨nd, rfl⟩⟩; refine ?roundEnd))
   case roundEnd =>
    by_cases c5 : t113 = true
    ·have H := HS_.out
     clear HS_; subst c5; rw [if_pos rfl] at H; replace H := Option.bind_eq_some_iff.mp H; obtain ⟨t114, A60, H⟩ := H; have A6 := am_ A60; clear A60; have HS_ := am_ H; clear H
     go_wp2_with (first | (go_at_call 56; (with_reducible refine (spec_l01In.calls a0_2 20 300 t114 _ A6.out).mono ?_); rintro e w' ⟨rfl, ⟨nd, rfl⟩⟩; refine ?roundEnd))
     case roundEnd =>
      by_cases c7 : t114 = true
      ·have H := HS_.out
       clear HS_; subst c7; rw [if_pos rfl] at H; replace H := Option.bind_eq_some_iff.mp H; obtain ⟨t115, A80, H⟩ := H; have A8 := am_ A80; clear A80; have HS_ := am_ H; clear H
       go_wp2_with (first | (go_at_call 56; (with_reducible refine (spec_l01In.calls a0_3 0 10000 t115 _ A8.out).mono ?_); rintro e w' ⟨rfl, ⟨nd, rfl⟩⟩; refine ?roundEnd))
       case roundEnd =>
        by_cases c9 : t115 = true
        ·have H := HS_.out
         clear HS_; subst c9; rw [if_pos rfl] at H; replace H := Option.bind_eq_some_iff.mp H; obtain ⟨t116, A100, H⟩ := H; have A10 := am_ A100; clear A100; have HS_ := am_ H; clear H
         go_wp2_with (first | (go_at_call 56; (with_reducible refine (spec_l01In.calls a0_4 0 a0_3 t116 _ A10.out).mono ?_); rintro e w' ⟨rfl, ⟨nd, rfl⟩⟩; refine ?roundEnd))
         case roundEnd =>
          by_cases c11 : t116 = true
          ·have H := HS_.out
           clear HS_; subst c11; rw [if_pos rfl] at H; replace H := Option.bind_eq_some_iff.mp H; obtain ⟨t117, A120, H⟩ := H; have A12 := am_ A120; clear A120; have HS_ := am_ H; clear H
           go_wp2_with (first | (go_at_call 56; (with_reducible refine (spec_l01In.calls a0_5 1 50 t117 _ A12.out).mono ?_); rintro e w' ⟨rfl, ⟨nd, rfl⟩⟩; refine ?roundEnd))
           case roundEnd =>
            by_cases c13 : t117 = true
            ·have H := HS_.out
             clear HS_; subst c13; rw [if_pos rfl] at H; replace H := Option.bind_eq_some_iff.mp H; obtain ⟨t118, A140, H⟩ := H; have A14 := am_ A140; clear A140; have HS_ := am_ H; clear H
             go_wp2_with (first | (go_at_call 56; (with_reducible refine (spec_l01In.calls a0_6 0 10000 t118 _ A14.out).mono ?_); rintro e w' ⟨rfl, ⟨nd, rfl⟩⟩; refine ?roundEnd))
             case roundEnd =>
              by_cases c15 : t118 = true
              ·have H := HS_.out
               clear HS_; subst c15; rw [if_pos rfl] at H; replace H := Option.bind_eq_some_iff.mp H; obtain ⟨t119, A160, H⟩ := H; have A16 := am_ A160; clear A160; have HS_ := am_ H; clear H
               go_wp2_with (first | (go_at_call 56; (with_reducible refine (spec_l01In.calls a0_7 1 100000 t119 _ A16.out).mono ?_); rintro e w' ⟨rfl, ⟨nd, rfl⟩⟩; refine ?roundEnd))
               case roundEnd =>
                by_cases c17 : t119 = true
                ·have H := HS_.out
                 clear HS_; subst c17; rw [if_pos rfl] at H; replace H := Option.bind_eq_some_iff.mp H; obtain ⟨t120, A180, H⟩ := H; have A18 := am_ A180; clear A180; obtain rfl := Option.some.inj H
                 go_wp2_with (first | (go_at_call 56; (with_reducible refine (spec_l01In.calls a0_8 0 3 t120 _ A18.out).mono ?_); rintro e w' ⟨rfl, ⟨nd, rfl⟩⟩))
                 go_ret
                 exact ⟨Zj, (Zf GE111)⟩
                ·have H := HS_.out
                 clear HS_; replace c17 := Bool.eq_false_iff.mpr c17; subst c17; rw [if_neg (show ¬ (false = true) by decide)] at H; obtain rfl := Option.some.inj H
                 go_wp2_with (first | fail)
                 go_ret
                 exact ⟨Zj, (Zf GE111)⟩
              ·have H := HS_.out
               clear HS_; replace c15 := Bool.eq_false_iff.mpr c15; subst c15; rw [if_neg (show ¬ (false = true) by decide)] at H; obtain rfl := Option.some.inj H
               go_wp2_with (first | fail)
               go_ret
               exact ⟨Zj, (Zf GE111)⟩
            ·have H := HS_.out
             clear HS_; replace c13 := Bool.eq_false_iff.mpr c13; subst c13; rw [if_neg (show ¬ (false = true) by decide)] at H; obtain rfl := Option.some.inj H
             go_wp2_with (first | fail)
             go_ret
             exact ⟨Zj, (Zf GE111)⟩
          ·have H := HS_.out
           clear HS_; replace c11 := Bool.eq_false_iff.mpr c11; subst c11; rw [if_neg (show ¬ (false = true) by decide)] at H; obtain rfl := Option.some.inj H
           go_wp2_with (first | fail)
           go_ret
           exact ⟨Zj, (Zf GE111)⟩
        ·have H := HS_.out
         clear HS_; replace c9 := Bool.eq_false_iff.mpr c9; subst c9; rw [if_neg (show ¬ (false = true) by decide)] at H; obtain rfl := Option.some.inj H
         go_wp2_with (first | fail)
         go_ret
         exact ⟨Zj, (Zf GE111)⟩
      ·have H := HS_.out
       clear HS_; replace c7 := Bool.eq_false_iff.mpr c7; subst c7; rw [if_neg (show ¬ (false = true) by decide)] at H; obtain rfl := Option.some.inj H
       go_wp2_with (first | fail)
       go_ret
       exact ⟨Zj, (Zf GE111)⟩
    ·have H := HS_.out
     clear HS_; replace c5 := Bool.eq_false_iff.mpr c5; subst c5; rw [if_neg (show ¬ (false = true) by decide)] at H; obtain rfl := Option.some.inj H
     go_wp2_with (first | fail)
     go_ret
     exact ⟨Zj, (Zf GE111)⟩
  ·have H := HS_.out
   clear HS_; replace c3 := Bool.eq_false_iff.mpr c3; subst c3; rw [if_neg (show ¬ (false = true) by decide)] at H; obtain rfl := Option.some.inj H
   go_wp2_with (first | fail)
   go_ret
   exact ⟨Zj, (Zf GE111)⟩
def spec_AreArticles.l0 : Nat → List (S61) → Int → Option (Bool)
 | 0, _, _ => none
 | k + 1, x0, x3 => if x3 < (x0.length : Int) then (if 0 ≤ x3 then ((spec_IsArticle.f k ((rd_T61 x0 x3).f0) ((rd_T61 x0 x3).f1) ((rd_T61 x0 x3).f2) ((rd_T61 x0 x3).f3) ((rd_T61 x0 x3).f4) ((rd_T61 x0 x3).f5) ((rd_T61 x0 x3).f6) ((rd_T61 x0 x3).f7) ((rd_T61 x0 x3).f8)).bind fun t122 => (if t122 = true then (if x3 > 0 then (if 0 ≤ (wrap64 (x3 - 1)) then (if (wrap64 (x3 - 1)) < (x0.length : Int) then (if ((Op.bytesLess (((rd_T61 x0 (wrap64 (x3 - 1))).f0).toList) (((rd_T61 x0 x3).f0).toList)) = true) then (spec_AreArticles.l0 k x0 (wrap64 (x3 + 1))) else (some false)) else (none)) else (none)) else (spec_AreArticles.l0 k x0 (wrap64 (x3 + 1)))) else (some false))) else (none)) else (some (decide ((x0.length : Int) ≤ 12)))
def spec_AreArticles.f (k : Nat) (l0 : List (S61)) : Option (Bool) := spec_AreArticles.l0 k l0 0
def spec_AreArticles.T4 : Bool × List (List Nat × List Nat) := (true, [([], []), ([], []), ([0, 1], [0, 1]), ([2], [2]), ([3], [3]), ([4], [4]), ([5, 4], [5]), ([6], [6]), ([7, 6], [6, 7]), ([8, 6, 6], [6, 8]), ([9], [9]), ([9], [9]), ([11, 9], [9, 11]), ([10, 12, 9], [9, 10, 12]), ([13, 9], [9, 13]), ([14, 9], [9, 14]), ([9], [9]), ([9], [9]), ([16, 17, 9], [9, 16, 17]), ([18, 9], [9, 18]), ([19, 9], [9, 19]), ([15, 20, 9], [9, 15, 20]), ([9, 21, 6], [6, 9, 21]), ([6, 22], [6, 22])])
def spec_AreArticles.B4 : List Nat := [0, 0, 3, 7, 15, 31, 63, 127, 255, 511, 1023, 1023, 3071, 8191, 16383, 32767, 1023, 1023, 197631, 459775, 984063, 2097151, 4194303, 8388607]
theorem spec_AreArticles.tab4 : rtab .any (opsOf Try.f78 4) = spec_AreArticles.T4 := by kernel_rfl
theorem spec_AreArticles.bits4 : waitsOk spec_AreArticles.T4.2 spec_AreArticles.B4 = true := by kernel_rfl
set_option maxHeartbeats 8000000 in
set_option maxRecDepth 100000 in
theorem spec_AreArticles.calls (k : Nat) (A0 : Option Addr) (c0 : Nat) (l0 : List (S61)) (r : Bool) (w : World) (hr0 : Kd.C k61 w A0 l0.length l0) (hc0 : l0.length ≤ c0) (h : spec_AreArticles.f k l0 = some r) :
  Calls Try.prog 78 #[.slice A0 l0.length c0] w fun e w' => e = .returned (.bool r) ∧ Below w.heap.size w w' := by
 have hu61 := Try.underlying61; have HR0 := am_ hr0; have HC0 := am_ hc0; clear hr0 hc0; have HB := am_ (Below.refl w.heap.size w); have H : (spec_AreArticles.l0 k l0 0) = some r := h; clear h; have H' := am_ H; clear H
 go_enter Try.func78, Try.ntmps78
 go_wp2
 go_loopg [3] k (fun kq v3 w' => ∃ (x3_1 : Int), v3 = .int .i64 x3_1 ∧ Aside0 (spec_AreArticles.l0 kq l0 x3_1 = some r) ∧ Aside0 (kq ≤ k) ∧ Aside0 (Below w.heap.size w w'))
 case atStart => exact ⟨(0), Za, H', ⟨Nat.le_refl _⟩, ⟨Zd⟩⟩
 case round =>
  clear H'; obtain ⟨x3_1, rfl, HA, HK1, HB⟩ := hrel
  cases gk with
  | zero => exact absurd HA.out (by simp [spec_AreArticles.l0])
  | succ k1 =>
   have H := HA.out; clear HA; simp only [spec_AreArticles.l0] at H
   by_cases c2 : x3_1 < (l0.length : Int)
   ·rw [if_pos c2] at H
    have c2b0 := decide_eq_true c2; clear c2
    by_cases c3 : 0 ≤ x3_1
    ·rw [if_pos c3] at H
     have c3b0 := decide_eq_true c3; clear c3; replace H := Option.bind_eq_some_iff.mp H; obtain ⟨t122, A40, H⟩ := H; have A4 := am_ A40; clear A40
     by_cases c5 : t122 = true
     ·subst c5
      rw [if_pos rfl] at H
      by_cases c6 : x3_1 > 0
      ·rw [if_pos c6] at H
       have c6b0 : decide (0 < x3_1) = true := decide_eq_true c6; clear c6; obtain ⟨ji7, hji7⟩ : ∃ j_ : Int, (wrap64 (x3_1 - 1)) = j_ := ⟨_, rfl⟩
       replace H : (if 0 ≤ (ji7) then (if (ji7) < (l0.length : Int) then (if ((Op.bytesLess (((rd_T61 l0 (ji7)).f0).toList) (((rd_T61 l0 x3_1).f0).toList)) = true) then (spec_AreArticles.l0 k1 l0 (wrap64 (x3_1 + 1))) else (some false)) else (none)) else (none)) = some r := by first | (rw [hji7] at H; exact H) | (simp only [hji7] at H ⊢; exact H)
       (try rw [hji7] at A4)
       have hji7w : (IntKind.i64.wrap (x3_1 - 1)) = ji7 := (i64_w _).trans hji7
       by_cases c8 : 0 ≤ (ji7)
       ·rw [if_pos c8] at H
        have c8b0 := decide_eq_true c8; clear c8
        by_cases c9 : (ji7) < (l0.length : Int)
        ·rw [if_pos c9] at H
         have c9b0 := decide_eq_true c9; clear c9; have HS_ := am_ H; clear H
         try go_wp2
         replace HB := am_ (below_drew1 HB.out); have p121 : 0 ≤ (x3_1 : Int) := of_decide_eq_true Zn; have q121 : x3_1 < (l0.length : Int) := of_decide_eq_true Zn; obtain ⟨ad121, e121, hx121_0, hx121_1, hx121_2, hx121_3, hx121_4, hx121_5, hx121_6, hx121_7, hx121_8⟩ := at_T61 HR0.out x3_1 p121 q121; have hw121_8 := hx121_8; have hw121_7 := hx121_7; have hw121_6 := hx121_6; have hw121_5 := hx121_5; have hw121_4 := hx121_4; have hw121_3 := hx121_3; have hw121_2 := hx121_2; have hw121_1 := hx121_1; have hw121_0 := hx121_0
         cases e121
         replace hx121_0 := cbH HB hx121_0; replace hx121_1 := cbH HB hx121_1; replace hx121_2 := cbH HB hx121_2; replace hx121_3 := cbH HB hx121_3; replace hx121_4 := cbH HB hx121_4; replace hx121_5 := cbH HB hx121_5; replace hx121_6 := cbH HB hx121_6; replace hx121_7 := cbH HB hx121_7; replace hx121_8 := cbH HB hx121_8; replace p121 := eq_true p121; replace q121 := eq_true q121; have p123 : 0 ≤ ((ji7) : Int) := of_decide_eq_true Zn; have q123 : (ji7) < (l0.length : Int) := of_decide_eq_true Zn; obtain ⟨ad123, e123, hx123_0, hx123_1, hx123_2, hx123_3, hx123_4, hx123_5, hx123_6, hx123_7, hx123_8⟩ := at_T61 HR0.out (ji7) p123 q123; have hw123_8 := hx123_8; have hw123_7 := hx123_7; have hw123_6 := hx123_6; have hw123_5 := hx123_5; have hw123_4 := hx123_4; have hw123_3 := hx123_3; have hw123_2 := hx123_2; have hw123_1 := hx123_1; have hw123_0 := hx123_0; obtain rfl : ad121 = ad123 := (by injection e123); replace hx123_0 := cbH HB hx123_0; replace hx123_1 := cbH HB hx123_1; replace hx123_2 := cbH HB hx123_2; replace hx123_3 := cbH HB hx123_3; replace hx123_4 := cbH HB hx123_4; replace hx123_5 := cbH HB hx123_5; replace hx123_6 := cbH HB hx123_6; replace hx123_7 := cbH HB hx123_7; replace hx123_8 := cbH HB hx123_8; replace p123 := eq_true p123; replace q123 := eq_true q123; have p124 : 0 ≤ (x3_1 : Int) := of_decide_eq_true Zn; have q124 : x3_1 < (l0.length : Int) := of_decide_eq_true Zn; obtain ⟨ad124, e124, hx124_0, hx124_1, hx124_2, hx124_3, hx124_4, hx124_5, hx124_6, hx124_7, hx124_8⟩ := at_T61 HR0.out x3_1 p124 q124; have hw124_8 := hx124_8; have hw124_7 := hx124_7; have hw124_6 := hx124_6; have hw124_5 := hx124_5; have hw124_4 := hx124_4; have hw124_3 := hx124_3; have hw124_2 := hx124_2; have hw124_1 := hx124_1; have hw124_0 := hx124_0; obtain rfl : ad121 = ad124 := (by injection e124); replace hx124_0 := cbH HB hx124_0; replace hx124_1 := cbH HB hx124_1; replace hx124_2 := cbH HB hx124_2; replace hx124_3 := cbH HB hx124_3; replace hx124_4 := cbH HB hx124_4; replace hx124_5 := cbH HB hx124_5; replace hx124_6 := cbH HB hx124_6; replace hx124_7 := cbH HB hx124_7; replace hx124_8 := cbH HB hx124_8; replace p124 := eq_true p124; replace q124 := eq_true q124; refine start_ (n := 24) (S := fun w' => w'.cell? (ad121.add ((x3_1).toNat * 9)) = some (.string ((rd_T61 l0 x3_1).f0)) ∧ w'.cell? ⟨(ad121.add ((x3_1).toNat * 9)).block, (ad121.add ((x3_1).toNat * 9)).off + 1, none⟩ = some (.int .i64 ((rd_T61 l0 x3_1).f1)) ∧ w'.cell? ⟨(ad121.add ((x3_1).toNat * 9)).block, (ad121.add ((x3_1).toNat * 9)).off + 2, none⟩ = some (.int .i64 ((rd_T61 l0 x3_1).f2)) ∧ w'.cell? ⟨(ad121.add ((x3_1).toNat * 9)).block, (ad121.add ((x3_1).toNat * 9)).off + 3, none⟩ = some (.int .i64 ((rd_T61 l0 x3_1).f3)) ∧ w'.cell? ⟨(ad121.add ((x3_1).toNat * 9)).block, (ad121.add ((x3_1).toNat * 9)).off + 4, none⟩ = some (.int .i64 ((rd_T61 l0 x3_1).f4)) ∧ w'.cell? ⟨(ad121.add ((x3_1).toNat * 9)).block, (ad121.add ((x3_1).toNat * 9)).off + 5, none⟩ = some (.int .i64 ((rd_T61 l0 x3_1).f5)) ∧ w'.cell? ⟨(ad121.add ((x3_1).toNat * 9)).block, (ad121.add ((x3_1).toNat * 9)).off + 6, none⟩ = some (.int .i64 ((rd_T61 l0 x3_1).f6)) ∧ w'.cell? ⟨(ad121.add ((x3_1).toNat * 9)).block, (ad121.add ((x3_1).toNat * 9)).off + 7, none⟩ = some (.int .i64 ((rd_T61 l0 x3_1).f7)) ∧ w'.cell? ⟨(ad121.add ((x3_1).toNat * 9)).block, (ad121.add ((x3_1).toNat * 9)).off + 8, none⟩ = some (.int .i64 ((rd_T61 l0 x3_1).f8)) ∧ w'.cell? (ad121.add (((ji7)).toNat * 9)) = some (.string ((rd_T61 l0 (ji7)).f0)) ∧ w'.cell? ⟨(ad121.add (((ji7)).toNat * 9)).block, (ad121.add (((ji7)).toNat * 9)).off + 1, none⟩ = some (.int .i64 ((rd_T61 l0 (ji7)).f1)) ∧ w'.cell? ⟨(ad121.add (((ji7)).toNat * 9)).block, (ad121.add (((ji7)).toNat * 9)).off + 2, none⟩ = some (.int .i64 ((rd_T61 l0 (ji7)).f2)) ∧ w'.cell? ⟨(ad121.add (((ji7)).toNat * 9)).block, (ad121.add (((ji7)).toNat * 9)).off + 3, none⟩ = some (.int .i64 ((rd_T61 l0 (ji7)).f3)) ∧ w'.cell? ⟨(ad121.add (((ji7)).toNat * 9)).block, (ad121.add (((ji7)).toNat * 9)).off + 4, none⟩ = some (.int .i64 ((rd_T61 l0 (ji7)).f4)) ∧ w'.cell? ⟨(ad121.add (((ji7)).toNat * 9)).block, (ad121.add (((ji7)).toNat * 9)).off + 5, none⟩ = some (.int .i64 ((rd_T61 l0 (ji7)).f5)) ∧ w'.cell? ⟨(ad121.add (((ji7)).toNat * 9)).block, (ad121.add (((ji7)).toNat * 9)).off + 6, none⟩ = some (.int .i64 ((rd_T61 l0 (ji7)).f6)) ∧ w'.cell? ⟨(ad121.add (((ji7)).toNat * 9)).block, (ad121.add (((ji7)).toNat * 9)).off + 7, none⟩ = some (.int .i64 ((rd_T61 l0 (ji7)).f7)) ∧ w'.cell? ⟨(ad121.add (((ji7)).toNat * 9)).block, (ad121.add (((ji7)).toNat * 9)).off + 8, none⟩ = some (.int .i64 ((rd_T61 l0 (ji7)).f8)) ∧ w'.cell? (ad121.add ((x3_1).toNat * 9)) = some (.string ((rd_T61 l0 x3_1).f0)) ∧ w'.cell? ⟨(ad121.add ((x3_1).toNat * 9)).block, (ad121.add ((x3_1).toNat * 9)).off + 1, none⟩ = some (.int .i64 ((rd_T61 l0 x3_1).f1)) ∧ w'.cell? ⟨(ad121.add ((x3_1).toNat * 9)).block, (ad121.add ((x3_1).toNat * 9)).off + 2, none⟩ = some (.int .i64 ((rd_T61 l0 x3_1).f2)) ∧ w'.cell? ⟨(ad121.add ((x3_1).toNat * 9)).block, (ad121.add ((x3_1).toNat * 9)).off + 3, none⟩ = some (.int .i64 ((rd_T61 l0 x3_1).f3)) ∧ w'.cell? ⟨(ad121.add ((x3_1).toNat * 9)).block, (ad121.add ((x3_1).toNat * 9)).off + 4, none⟩ = some (.int .i64 ((rd_T61 l0 x3_1).f4)) ∧ w'.cell? ⟨(ad121.add ((x3_1).toNat * 9)).block, (ad121.add ((x3_1).toNat * 9)).off + 5, none⟩ = some (.int .i64 ((rd_T61 l0 x3_1).f5)) ∧ w'.cell? ⟨(ad121.add ((x3_1).toNat * 9)).block, (ad121.add ((x3_1).toNat * 9)).off + 6, none⟩ = some (.int .i64 ((rd_T61 l0 x3_1).f6)) ∧ w'.cell? ⟨(ad121.add ((x3_1).toNat * 9)).block, (ad121.add ((x3_1).toNat * 9)).off + 7, none⟩ = some (.int .i64 ((rd_T61 l0 x3_1).f7)) ∧ w'.cell? ⟨(ad121.add ((x3_1).toNat * 9)).block, (ad121.add ((x3_1).toNat * 9)).off + 8, none⟩ = some (.int .i64 ((rd_T61 l0 x3_1).f8))) (ds := []) (bT 24 0) Zi rfl rfl ⟨(cbH HB hw121_0 :), (cbH HB hw121_1 :), (cbH HB hw121_2 :), (cbH HB hw121_3 :), (cbH HB hw121_4 :), (cbH HB hw121_5 :), (cbH HB hw121_6 :), (cbH HB hw121_7 :), (cbH HB hw121_8 :), (cbH HB hw123_0 :), (cbH HB hw123_1 :), (cbH HB hw123_2 :), (cbH HB hw123_3 :), (cbH HB hw123_4 :), (cbH HB hw123_5 :), (cbH HB hw123_6 :), (cbH HB hw123_7 :), (cbH HB hw123_8 :), (cbH HB hw124_0 :), (cbH HB hw124_1 :), (cbH HB hw124_2 :), (cbH HB hw124_3 :), (cbH HB hw124_4 :), (cbH HB hw124_5 :), (cbH HB hw124_6 :), (cbH HB hw124_7 :), (cbH HB hw124_8 :)⟩ (fun hHeld => ?_); refine with_tabW spec_AreArticles.tab4 spec_AreArticles.bits4 (fun HT_ HW_ => ?_)
         generalize wr.drew = w11 at HB hx121_0 hx121_1 hx121_2 hx121_3 hx121_4 hx121_5 hx121_6 hx121_7 hx121_8 hx123_0 hx123_1 hx123_2 hx123_3 hx123_4 hx123_5 hx123_6 hx123_7 hx123_8 hx124_0 hx124_1 hx124_2 hx124_3 hx124_4 hx124_5 hx124_6 hx124_7 hx124_8 hHeld ⊢; refine pureZ HT_ 0 (some 10) (bT 24 1) ?_; refine pureZ HT_ 1 (some 11) (bT 24 2) ?_; refine pureZ HT_ 2 (some 12) (bT 24 3) ?_; refine takeZ27 HT_ HW_ 3 (some 13) (bT 24 4) hHeld ?_; refine one_ (i := 4) (N := some 14) (bT 24 5) rfl rfl (one_of HT_.out Zi) (by decide) (fun K hK => ?_); refine goes_ Try.func103 Zi rfl #[.agg #[.string ((rd_T61 l0 x3_1).f0), .int .i64 ((rd_T61 l0 x3_1).f1), .int .i64 ((rd_T61 l0 x3_1).f2), .int .i64 ((rd_T61 l0 x3_1).f3), .int .i64 ((rd_T61 l0 x3_1).f4), .int .i64 ((rd_T61 l0 x3_1).f5), .int .i64 ((rd_T61 l0 x3_1).f6), .int .i64 ((rd_T61 l0 x3_1).f7), .int .i64 ((rd_T61 l0 x3_1).f8)]] (by rfl) rfl rfl Zr ?_
         with_reducible refine (spec_IsArticle.calls k1 ((rd_T61 l0 x3_1).f0) ((rd_T61 l0 x3_1).f1) ((rd_T61 l0 x3_1).f2) ((rd_T61 l0 x3_1).f3) ((rd_T61 l0 x3_1).f4) ((rd_T61 l0 x3_1).f5) ((rd_T61 l0 x3_1).f6) ((rd_T61 l0 x3_1).f7) ((rd_T61 l0 x3_1).f8) true _ A4.out).mono ?_
         rintro e w12 ⟨rfl, hb⟩; refine ⟨_, rfl, ?_⟩; replace HB := (bsZ Zd hb)
         (try clear hb)
         (try clear hb2)
         (try clear hk)
         (try clear hi)
         refine hK.out _ _ ⟨(cbH HB hw121_0 :), (cbH HB hw121_1 :), (cbH HB hw121_2 :), (cbH HB hw121_3 :), (cbH HB hw121_4 :), (cbH HB hw121_5 :), (cbH HB hw121_6 :), (cbH HB hw121_7 :), (cbH HB hw121_8 :), (cbH HB hw123_0 :), (cbH HB hw123_1 :), (cbH HB hw123_2 :), (cbH HB hw123_3 :), (cbH HB hw123_4 :), (cbH HB hw123_5 :), (cbH HB hw123_6 :), (cbH HB hw123_7 :), (cbH HB hw123_8 :), (cbH HB hw124_0 :), (cbH HB hw124_1 :), (cbH HB hw124_2 :), (cbH HB hw124_3 :), (cbH HB hw124_4 :), (cbH HB hw124_5 :), (cbH HB hw124_6 :), (cbH HB hw124_7 :), (cbH HB hw124_8 :)⟩ (fun hHeld => ?_); clear hK K; refine normZ 14 ?_; refine pureZ HT_ 5 (some 15) (bT 24 6) ?_; refine pureZ HT_ 6 (some 16) (bT 24 7) ?_; refine pureZ HT_ 7 (some 17) (bT 24 8) ?_; refine pureZ HT_ 8 (some 18) (bT 24 9) ?_; refine pureZ HT_ 9 (some 19) (bT 24 10) ?_; refine pureZ HT_ 10 (some 20) (bT 24 11) ?_; refine pureZ HT_ 11 (some 21) (bT 24 12) ?_; refine pureZ HT_ 12 (some 22) (bT 24 13) ?_; refine pureZ HT_ 13 (some 23) (bT 24 14) ?_; refine pureZ HT_ 14 (some 24) (bT 24 15) ?_; refine pureZ HT_ 16 (some 26) (bB 24 98303) ?_; refine pureZ HT_ 17 (some 27) (bB 24 229375) ?_; refine pureZ HT_ 18 (some 28) (bB 24 491519) ?_; refine pureZ HT_ 19 (some 29) (bB 24 1015807) ?_; refine takeZ27 HT_ HW_ 15 (some 25) (bT 24 20) hHeld ?_; refine takeZ27 HT_ HW_ 20 (some 30) (bT 24 21) hHeld ?_; refine pureZ HT_ 21 (some 31) (bT 24 22) ?_; refine pureZ HT_ 22 (some 32) (bT 24 23) ?_; refine pureZ HT_ 23 (some 33) (bT 24 24) ?_; refine done_ (done_of HT_.out Zi) ?_
         by_cases c10 : ((Op.bytesLess (((rd_T61 l0 (ji7)).f0).toList) (((rd_T61 l0 x3_1).f0).toList)) = true)
         ·have H := HS_.out
          clear HS_; rw [if_pos c10] at H; have c10b0 : (Op.bytesLess (((rd_T61 l0 (ji7)).f0).toList) (((rd_T61 l0 x3_1).f0).toList)) = true := c10; clear c10; have H' := am_ H; clear H
          (try simp only [c10b0, Bool.not_true, Bool.not_false])
          try go_wp2
          go_roundg k1
          case measure => have := HK1.out; omega
          case rel => exact ⟨(wrap64 (x3_1 + 1)), Za, H', ⟨Zs⟩, ⟨Zd⟩⟩
         ·have H := HS_.out
          clear HS_; rw [if_neg c10] at H
          have c10b0 : (Op.bytesLess (((rd_T61 l0 (ji7)).f0).toList) (((rd_T61 l0 x3_1).f0).toList)) = false := by simpa using c10
          clear c10; obtain rfl := Option.some.inj H
          (try simp only [c10b0, Bool.not_true, Bool.not_false])
          try go_wp2
          go_ret
          exact ⟨Zq, Zd⟩
        ·rw [if_neg c9] at H
         exact absurd H (by simp)
       ·rw [if_neg c8] at H
        exact absurd H (by simp)
      ·rw [if_neg c6] at H
       have c6b0 : decide (0 < x3_1) = false := decide_eq_false c6; clear c6; have H' := am_ H; clear H
       try go_wp2
       replace HB := am_ (below_drew1 HB.out); have p121 : 0 ≤ (x3_1 : Int) := of_decide_eq_true Zn; have q121 : x3_1 < (l0.length : Int) := of_decide_eq_true Zn; obtain ⟨ad121, e121, hx121_0, hx121_1, hx121_2, hx121_3, hx121_4, hx121_5, hx121_6, hx121_7, hx121_8⟩ := at_T61 HR0.out x3_1 p121 q121; have hw121_8 := hx121_8; have hw121_7 := hx121_7; have hw121_6 := hx121_6; have hw121_5 := hx121_5; have hw121_4 := hx121_4; have hw121_3 := hx121_3; have hw121_2 := hx121_2; have hw121_1 := hx121_1; have hw121_0 := hx121_0
       cases e121
       replace hx121_0 := cbH HB hx121_0; replace hx121_1 := cbH HB hx121_1; replace hx121_2 := cbH HB hx121_2; replace hx121_3 := cbH HB hx121_3; replace hx121_4 := cbH HB hx121_4; replace hx121_5 := cbH HB hx121_5; replace hx121_6 := cbH HB hx121_6; replace hx121_7 := cbH HB hx121_7; replace hx121_8 := cbH HB hx121_8; replace p121 := eq_true p121; replace q121 := eq_true q121; refine start_ (n := 24) (S := fun w' => w'.cell? (ad121.add ((x3_1).toNat * 9)) = some (.string ((rd_T61 l0 x3_1).f0)) ∧ w'.cell? ⟨(ad121.add ((x3_1).toNat * 9)).block, (ad121.add ((x3_1).toNat * 9)).off + 1, none⟩ = some (.int .i64 ((rd_T61 l0 x3_1).f1)) ∧ w'.cell? ⟨(ad121.add ((x3_1).toNat * 9)).block, (ad121.add ((x3_1).toNat * 9)).off + 2, none⟩ = some (.int .i64 ((rd_T61 l0 x3_1).f2)) ∧ w'.cell? ⟨(ad121.add ((x3_1).toNat * 9)).block, (ad121.add ((x3_1).toNat * 9)).off + 3, none⟩ = some (.int .i64 ((rd_T61 l0 x3_1).f3)) ∧ w'.cell? ⟨(ad121.add ((x3_1).toNat * 9)).block, (ad121.add ((x3_1).toNat * 9)).off + 4, none⟩ = some (.int .i64 ((rd_T61 l0 x3_1).f4)) ∧ w'.cell? ⟨(ad121.add ((x3_1).toNat * 9)).block, (ad121.add ((x3_1).toNat * 9)).off + 5, none⟩ = some (.int .i64 ((rd_T61 l0 x3_1).f5)) ∧ w'.cell? ⟨(ad121.add ((x3_1).toNat * 9)).block, (ad121.add ((x3_1).toNat * 9)).off + 6, none⟩ = some (.int .i64 ((rd_T61 l0 x3_1).f6)) ∧ w'.cell? ⟨(ad121.add ((x3_1).toNat * 9)).block, (ad121.add ((x3_1).toNat * 9)).off + 7, none⟩ = some (.int .i64 ((rd_T61 l0 x3_1).f7)) ∧ w'.cell? ⟨(ad121.add ((x3_1).toNat * 9)).block, (ad121.add ((x3_1).toNat * 9)).off + 8, none⟩ = some (.int .i64 ((rd_T61 l0 x3_1).f8))) (ds := []) (bT 24 0) Zi rfl rfl ⟨(cbH HB hw121_0 :), (cbH HB hw121_1 :), (cbH HB hw121_2 :), (cbH HB hw121_3 :), (cbH HB hw121_4 :), (cbH HB hw121_5 :), (cbH HB hw121_6 :), (cbH HB hw121_7 :), (cbH HB hw121_8 :)⟩ (fun hHeld => ?_); refine with_tabW spec_AreArticles.tab4 spec_AreArticles.bits4 (fun HT_ HW_ => ?_); generalize wr.drew = w15 at HB hx121_0 hx121_1 hx121_2 hx121_3 hx121_4 hx121_5 hx121_6 hx121_7 hx121_8 hHeld ⊢; refine pureZ HT_ 0 (some 10) (bT 24 1) ?_; refine pureZ HT_ 1 (some 11) (bT 24 2) ?_; refine pureZ HT_ 2 (some 12) (bT 24 3) ?_; refine takeZ9 HT_ HW_ 3 (some 13) (bT 24 4) hHeld ?_; refine one_ (i := 4) (N := some 14) (bT 24 5) rfl rfl (one_of HT_.out Zi) (by decide) (fun K hK => ?_); refine goes_ Try.func103 Zi rfl #[.agg #[.string ((rd_T61 l0 x3_1).f0), .int .i64 ((rd_T61 l0 x3_1).f1), .int .i64 ((rd_T61 l0 x3_1).f2), .int .i64 ((rd_T61 l0 x3_1).f3), .int .i64 ((rd_T61 l0 x3_1).f4), .int .i64 ((rd_T61 l0 x3_1).f5), .int .i64 ((rd_T61 l0 x3_1).f6), .int .i64 ((rd_T61 l0 x3_1).f7), .int .i64 ((rd_T61 l0 x3_1).f8)]] (by rfl) rfl rfl Zr ?_
       with_reducible refine (spec_IsArticle.calls k1 ((rd_T61 l0 x3_1).f0) ((rd_T61 l0 x3_1).f1) ((rd_T61 l0 x3_1).f2) ((rd_T61 l0 x3_1).f3) ((rd_T61 l0 x3_1).f4) ((rd_T61 l0 x3_1).f5) ((rd_T61 l0 x3_1).f6) ((rd_T61 l0 x3_1).f7) ((rd_T61 l0 x3_1).f8) true _ A4.out).mono ?_
       rintro e w16 ⟨rfl, hb⟩; refine ⟨_, rfl, ?_⟩; replace HB := (bsZ Zd hb)
       (try clear hb)
       (try clear hb2)
       (try clear hk)
       (try clear hi)
       refine hK.out _ _ ⟨(cbH HB hw121_0 :), (cbH HB hw121_1 :), (cbH HB hw121_2 :), (cbH HB hw121_3 :), (cbH HB hw121_4 :), (cbH HB hw121_5 :), (cbH HB hw121_6 :), (cbH HB hw121_7 :), (cbH HB hw121_8 :)⟩ (fun hHeld => ?_); clear hK K; refine normZ 14 ?_; refine pureZ HT_ 5 (some 15) (bT 24 6) ?_; refine pureZ HT_ 6 (some 16) (bT 24 7) ?_; refine pureZ HT_ 7 (some 17) (bT 24 8) ?_; refine pureZ HT_ 8 (some 18) (bT 24 9) ?_; refine pureZ HT_ 9 (some 19) (bT 24 10) ?_; refine pureU HT_ 10 (some 20) (bT 24 11) ?_; refine pureU HT_ 11 (some 21) (bT 24 12) ?_; refine pureU HT_ 12 (some 22) (bT 24 13) ?_; refine pureU HT_ 13 (some 23) (bT 24 14) ?_; refine pureU HT_ 14 (some 24) (bT 24 15) ?_; refine pureU HT_ 15 (some 25) (bT 24 16) ?_; refine pureU HT_ 16 (some 26) (bT 24 17) ?_; refine pureU HT_ 17 (some 27) (bT 24 18) ?_; refine pureU HT_ 18 (some 28) (bT 24 19) ?_; refine pureU HT_ 19 (some 29) (bT 24 20) ?_; refine pureU HT_ 20 (some 30) (bT 24 21) ?_; refine pureU HT_ 21 (some 31) (bT 24 22) ?_; refine pureZ HT_ 22 (some 32) (bT 24 23) ?_; refine pureZ HT_ 23 (some 33) (bT 24 24) ?_; refine done_ (done_of HT_.out Zi) ?_
       try go_wp2
       go_roundg k1
       case measure => have := HK1.out; omega
       case rel => exact ⟨(wrap64 (x3_1 + 1)), Za, H', ⟨Zs⟩, ⟨Zd⟩⟩
     ·replace c5 := Bool.eq_false_iff.mpr c5
      subst c5; rw [if_neg (show ¬ (false = true) by decide)] at H; obtain rfl := Option.some.inj H
      try go_wp2
      replace HB := am_ (below_drew1 HB.out); have p121 : 0 ≤ (x3_1 : Int) := of_decide_eq_true Zn; have q121 : x3_1 < (l0.length : Int) := of_decide_eq_true Zn; obtain ⟨ad121, e121, hx121_0, hx121_1, hx121_2, hx121_3, hx121_4, hx121_5, hx121_6, hx121_7, hx121_8⟩ := at_T61 HR0.out x3_1 p121 q121; have hw121_8 := hx121_8; have hw121_7 := hx121_7; have hw121_6 := hx121_6; have hw121_5 := hx121_5; have hw121_4 := hx121_4; have hw121_3 := hx121_3; have hw121_2 := hx121_2; have hw121_1 := hx121_1; have hw121_0 := hx121_0
      cases e121
      replace hx121_0 := cbH HB hx121_0; replace hx121_1 := cbH HB hx121_1; replace hx121_2 := cbH HB hx121_2; replace hx121_3 := cbH HB hx121_3; replace hx121_4 := cbH HB hx121_4; replace hx121_5 := cbH HB hx121_5; replace hx121_6 := cbH HB hx121_6; replace hx121_7 := cbH HB hx121_7; replace hx121_8 := cbH HB hx121_8; replace p121 := eq_true p121; replace q121 := eq_true q121; refine start_ (n := 24) (S := fun w' => w'.cell? (ad121.add ((x3_1).toNat * 9)) = some (.string ((rd_T61 l0 x3_1).f0)) ∧ w'.cell? ⟨(ad121.add ((x3_1).toNat * 9)).block, (ad121.add ((x3_1).toNat * 9)).off + 1, none⟩ = some (.int .i64 ((rd_T61 l0 x3_1).f1)) ∧ w'.cell? ⟨(ad121.add ((x3_1).toNat * 9)).block, (ad121.add ((x3_1).toNat * 9)).off + 2, none⟩ = some (.int .i64 ((rd_T61 l0 x3_1).f2)) ∧ w'.cell? ⟨(ad121.add ((x3_1).toNat * 9)).block, (ad121.add ((x3_1).toNat * 9)).off + 3, none⟩ = some (.int .i64 ((rd_T61 l0 x3_1).f3)) ∧ w'.cell? ⟨(ad121.add ((x3_1).toNat * 9)).block, (ad121.add ((x3_1).toNat * 9)).off + 4, none⟩ = some (.int .i64 ((rd_T61 l0 x3_1).f4)) ∧ w'.cell? ⟨(ad121.add ((x3_1).toNat * 9)).block, (ad121.add ((x3_1).toNat * 9)).off + 5, none⟩ = some (.int .i64 ((rd_T61 l0 x3_1).f5)) ∧ w'.cell? ⟨(ad121.add ((x3_1).toNat * 9)).block, (ad121.add ((x3_1).toNat * 9)).off + 6, none⟩ = some (.int .i64 ((rd_T61 l0 x3_1).f6)) ∧ w'.cell? ⟨(ad121.add ((x3_1).toNat * 9)).block, (ad121.add ((x3_1).toNat * 9)).off + 7, none⟩ = some (.int .i64 ((rd_T61 l0 x3_1).f7)) ∧ w'.cell? ⟨(ad121.add ((x3_1).toNat * 9)).block, (ad121.add ((x3_1).toNat * 9)).off + 8, none⟩ = some (.int .i64 ((rd_T61 l0 x3_1).f8))) (ds := []) (bT 24 0) Zi rfl rfl ⟨(cbH HB hw121_0 :), (cbH HB hw121_1 :), (cbH HB hw121_2 :), (cbH HB hw121_3 :), (cbH HB hw121_4 :), (cbH HB hw121_5 :), (cbH HB hw121_6 :), (cbH HB hw121_7 :), (cbH HB hw121_8 :)⟩ (fun hHeld => ?_); refine with_tabW spec_AreArticles.tab4 spec_AreArticles.bits4 (fun HT_ HW_ => ?_); generalize wr.drew = w17 at HB hx121_0 hx121_1 hx121_2 hx121_3 hx121_4 hx121_5 hx121_6 hx121_7 hx121_8 hHeld ⊢; refine pureZ HT_ 0 (some 10) (bT 24 1) ?_; refine pureZ HT_ 1 (some 11) (bT 24 2) ?_; refine pureZ HT_ 2 (some 12) (bT 24 3) ?_; refine takeZ9 HT_ HW_ 3 (some 13) (bT 24 4) hHeld ?_; refine one_ (i := 4) (N := some 14) (bT 24 5) rfl rfl (one_of HT_.out Zi) (by decide) (fun K hK => ?_); refine goes_ Try.func103 Zi rfl #[.agg #[.string ((rd_T61 l0 x3_1).f0), .int .i64 ((rd_T61 l0 x3_1).f1), .int .i64 ((rd_T61 l0 x3_1).f2), .int .i64 ((rd_T61 l0 x3_1).f3), .int .i64 ((rd_T61 l0 x3_1).f4), .int .i64 ((rd_T61 l0 x3_1).f5), .int .i64 ((rd_T61 l0 x3_1).f6), .int .i64 ((rd_T61 l0 x3_1).f7), .int .i64 ((rd_T61 l0 x3_1).f8)]] (by rfl) rfl rfl Zr ?_
      with_reducible refine (spec_IsArticle.calls k1 ((rd_T61 l0 x3_1).f0) ((rd_T61 l0 x3_1).f1) ((rd_T61 l0 x3_1).f2) ((rd_T61 l0 x3_1).f3) ((rd_T61 l0 x3_1).f4) ((rd_T61 l0 x3_1).f5) ((rd_T61 l0 x3_1).f6) ((rd_T61 l0 x3_1).f7) ((rd_T61 l0 x3_1).f8) false _ A4.out).mono ?_
      rintro e w18 ⟨rfl, hb⟩; refine ⟨_, rfl, ?_⟩; replace HB := (bsZ Zd hb)
      (try clear hb)
      (try clear hb2)
      (try clear hk)
      (try clear hi)
      refine hK.out _ _ ⟨(cbH HB hw121_0 :), (cbH HB hw121_1 :), (cbH HB hw121_2 :), (cbH HB hw121_3 :), (cbH HB hw121_4 :), (cbH HB hw121_5 :), (cbH HB hw121_6 :), (cbH HB hw121_7 :), (cbH HB hw121_8 :)⟩ (fun hHeld => ?_); clear hK K; refine normZ 14 ?_; refine pureZ HT_ 5 (some 15) (bT 24 6) ?_; refine pureZ HT_ 6 (some 16) (bT 24 7) ?_; refine pureU HT_ 7 (some 17) (bT 24 8) ?_; refine pureU HT_ 8 (some 18) (bT 24 9) ?_; refine pureU HT_ 9 (some 19) (bT 24 10) ?_; refine pureU HT_ 10 (some 20) (bT 24 11) ?_; refine pureU HT_ 11 (some 21) (bT 24 12) ?_; refine pureU HT_ 12 (some 22) (bT 24 13) ?_; refine pureU HT_ 13 (some 23) (bT 24 14) ?_; refine pureU HT_ 14 (some 24) (bT 24 15) ?_; refine pureU HT_ 15 (some 25) (bT 24 16) ?_; refine pureU HT_ 16 (some 26) (bT 24 17) ?_; refine pureU HT_ 17 (some 27) (bT 24 18) ?_; refine pureU HT_ 18 (some 28) (bT 24 19) ?_; refine pureU HT_ 19 (some 29) (bT 24 20) ?_; refine pureU HT_ 20 (some 30) (bT 24 21) ?_; refine pureU HT_ 21 (some 31) (bT 24 22) ?_; refine pureU HT_ 22 (some 32) (bT 24 23) ?_; refine pureZ HT_ 23 (some 33) (bT 24 24) ?_; refine done_ (done_of HT_.out Zi) ?_
      try go_wp2
      go_ret
      exact ⟨Zj, Zd⟩
    ·rw [if_neg c3] at H
     exact absurd H (by simp)
   ·rw [if_neg c2] at H
    have c2b0 := decide_eq_false c2; clear c2; obtain rfl := Option.some.inj H
    go_wp2
    go_ret
    exact ⟨Zj, Zd⟩
def spec_IsScore.l0 : Nat → List (S104) → Int → Option (Bool)
 | 0, _, _ => none
 | k + 1, x0, x3 => if x3 < (x0.length : Int) then (if 0 ≤ x3 then ((spec_l01In.f ((rd_T104 x0 x3).f0) 1 16).bind fun t127 => (if t127 = true then ((spec_l01In.f ((rd_T104 x0 x3).f1) 100 5000).bind fun t129 => (if t129 = true then (spec_IsScore.l0 k x0 (wrap64 (x3 + 1))) else (some false))) else (some false))) else (none)) else ((spec_l01In.f (x0.length : Int) 1 20).bind fun t125 => (some t125))
def spec_IsScore.f (k : Nat) (l0 : List (S104)) : Option (Bool) := spec_IsScore.l0 k l0 0
set_option maxHeartbeats 8000000 in
set_option maxRecDepth 100000 in
theorem spec_IsScore.calls (k : Nat) (A0 : Option Addr) (c0 : Nat) (l0 : List (S104)) (r : Bool) (w : World) (hr0 : Kd.C k104 w A0 l0.length l0) (hc0 : l0.length ≤ c0) (h : spec_IsScore.f k l0 = some r) :
  Calls Try.prog 82 #[.slice A0 l0.length c0] w fun e w' => e = .returned (.bool r) ∧ Drawn0 w w' := by
 have HR0 := am_ hr0; have HC0 := am_ hc0; clear hr0 hc0; have H : (spec_IsScore.l0 k l0 0) = some r := h; clear h; have H' := am_ H; clear H
 go_enter Try.func82, Try.ntmps82
 go_wp2
 go_loopg [3] k (fun kq v3 w' => ∃ (x3_1 : Int), v3 = .int .i64 x3_1 ∧ Aside0 (spec_IsScore.l0 kq l0 x3_1 = some r) ∧ Aside0 (kq ≤ k) ∧ Drawn0 w w')
 case atStart => exact ⟨(0), Za, H', ⟨Nat.le_refl _⟩, Zb⟩
 case round =>
  clear H'; obtain ⟨x3_1, rfl, HA, HK1, ⟨m1, rfl⟩⟩ := hrel
  cases gk with
  | zero => exact absurd HA.out (by simp [spec_IsScore.l0])
  | succ k1 =>
   have H := HA.out; clear HA; simp only [spec_IsScore.l0] at H
   by_cases c2 : x3_1 < (l0.length : Int)
   ·rw [if_pos c2] at H
    have c2b0 := decide_eq_true c2; clear c2
    by_cases c3 : 0 ≤ x3_1
    ·rw [if_pos c3] at H
     have c3b0 := decide_eq_true c3; clear c3; replace H := Option.bind_eq_some_iff.mp H; obtain ⟨t127, A40, H⟩ := H; have A4 := am_ A40; clear A40; have HS_ := am_ H; clear H; have p126 : 0 ≤ (x3_1 : Int) := of_decide_eq_true Zn; have q126 : x3_1 < (l0.length : Int) := of_decide_eq_true Zn; obtain ⟨ad126, e126, hx126_0, hx126_1⟩ := at_T104 HR0.out x3_1 p126 q126
     cases e126
     replace p126 := eq_true p126; replace q126 := eq_true q126
     go_wp2_with (first | ((with_reducible refine gate_callee (f := 56) rfl ?_); refine gZ 15 Try.func56 #[.int .i64 ((rd_T104 l0 x3_1).f0), .int .i64 1, .int .i64 16] ?_; (with_reducible refine (spec_l01In.calls ((rd_T104 l0 x3_1).f0) 1 16 t127 _ A4.out).mono ?_); rintro e w' ⟨rfl, ⟨nd, rfl⟩⟩; refine ⟨_, rfl, ?_⟩; refine ?roundEnd))
     case roundEnd =>
      by_cases c5 : t127 = true
      ·have H := HS_.out
       clear HS_; subst c5; rw [if_pos rfl] at H; replace H := Option.bind_eq_some_iff.mp H; obtain ⟨t129, A60, H⟩ := H; have A6 := am_ A60; clear A60; have HS_ := am_ H; clear H; have p128 : 0 ≤ (x3_1 : Int) := of_decide_eq_true Zn; have q128 : x3_1 < (l0.length : Int) := of_decide_eq_true Zn; obtain ⟨ad128, e128, hx128_0, hx128_1⟩ := at_T104 HR0.out x3_1 p128 q128; obtain rfl : ad126 = ad128 := (by injection e128); replace p128 := eq_true p128; replace q128 := eq_true q128
       go_wp2_with (first | (go_at_call 56; (with_reducible refine (spec_l01In.calls ((rd_T104 l0 x3_1).f1) 100 5000 t129 _ A6.out).mono ?_); rintro e w' ⟨rfl, ⟨nd, rfl⟩⟩; refine ?roundEnd))
       case roundEnd =>
        by_cases c7 : t129 = true
        ·have H := HS_.out
         clear HS_; subst c7; rw [if_pos rfl] at H; have H' := am_ H; clear H
         go_wp2_with (first | fail)
         go_roundg k1
         case measure => have := HK1.out; omega
         case rel => exact ⟨(wrap64 (x3_1 + 1)), Za, H', ⟨Zs⟩, Zb⟩
        ·have H := HS_.out
         clear HS_; replace c7 := Bool.eq_false_iff.mpr c7; subst c7; rw [if_neg (show ¬ (false = true) by decide)] at H; obtain rfl := Option.some.inj H
         go_wp2_with (first | fail)
         go_ret
         exact ⟨Za, Zb⟩
      ·have H := HS_.out
       clear HS_; replace c5 := Bool.eq_false_iff.mpr c5; subst c5; rw [if_neg (show ¬ (false = true) by decide)] at H; obtain rfl := Option.some.inj H
       go_wp2_with (first | fail)
       go_ret
       exact ⟨Za, Zb⟩
    ·rw [if_neg c3] at H
     exact absurd H (by simp)
   ·rw [if_neg c2] at H
    have c2b0 := decide_eq_false c2; clear c2; replace H := Option.bind_eq_some_iff.mp H; obtain ⟨t125, A80, H⟩ := H; have A8 := am_ A80; clear A80; obtain rfl := Option.some.inj H
    go_wp2_with (first | ((with_reducible refine gate_callee (f := 56) rfl ?_); refine gZ 28 Try.func56 #[.int .i64 (l0.length : Int), .int .i64 1, .int .i64 20] ?_; (with_reducible refine (spec_l01In.calls (l0.length : Int) 1 20 t125 _ A8.out).mono ?_); rintro e w' ⟨rfl, ⟨nd, rfl⟩⟩; refine ⟨_, rfl, ?_⟩))
    go_ret
    exact ⟨Za, Zb⟩
def spec_l07Has.f (l0 : List (S104)) (a1 : Int) (a2 : Int) : Option (Bool) := (spec_l01In.f a1 0 (wrap64 ((l0.length : Int) - 1))).bind fun t130 => (if t130 = true then (if 0 ≤ a1 then (if a1 < (l0.length : Int) then ((spec_l01In.f a2 0 (wrap64 (((rd_T104 l0 a1).f0) - 1))).bind fun t132 => (some t132)) else (none)) else (none)) else (some false))
set_option maxHeartbeats 8000000 in
set_option maxRecDepth 100000 in
theorem spec_l07Has.calls (A0 : Option Addr) (c0 : Nat) (l0 : List (S104)) (a1 : Int) (a2 : Int) (r : Bool) (w : World) (hr0 : Kd.C k104 w A0 l0.length l0) (hc0 : l0.length ≤ c0) (h : spec_l07Has.f l0 a1 a2 = some r) :
  Calls Try.prog 83 #[.slice A0 l0.length c0, .int .i64 a1, .int .i64 a2] w fun e w' => e = .returned (.bool r) ∧ Drawn0 w w' := by
 have HR0 := am_ hr0; have HC0 := am_ hc0; clear hr0 hc0; have H : ((spec_l01In.f a1 0 (wrap64 ((l0.length : Int) - 1))).bind fun t130 => (if t130 = true then (if 0 ≤ a1 then (if a1 < (l0.length : Int) then ((spec_l01In.f a2 0 (wrap64 (((rd_T104 l0 a1).f0) - 1))).bind fun t132 => (some t132)) else (none)) else (none)) else (some false))) = some r := h; clear h; replace H := Option.bind_eq_some_iff.mp H; obtain ⟨t130, A40, H⟩ := H; have A4 := am_ A40; clear A40; have HS_ := am_ H; clear H
 go_enter Try.func83, Try.ntmps83
 go_wp2_with (first | ((with_reducible refine gate_callee (f := 56) rfl ?_); refine gZ 11 Try.func56 #[.int .i64 a1, .int .i64 0, .int .i64 (wrap64 ((l0.length : Int) - 1))] ?_; (with_reducible refine (spec_l01In.calls a1 0 (wrap64 ((l0.length : Int) - 1)) t130 _ A4.out).mono ?_); rintro e w' ⟨rfl, ⟨nd, rfl⟩⟩; refine ⟨_, rfl, ?_⟩; refine ?roundEnd))
 case roundEnd =>
  by_cases c5 : t130 = true
  ·have H := HS_.out
   clear HS_; subst c5; rw [if_pos rfl] at H
   by_cases c6 : 0 ≤ a1
   ·rw [if_pos c6] at H
    have c6b0 := decide_eq_true c6; clear c6
    by_cases c7 : a1 < (l0.length : Int)
    ·rw [if_pos c7] at H
     have c7b0 := decide_eq_true c7; clear c7; replace H := Option.bind_eq_some_iff.mp H; obtain ⟨t132, A80, H⟩ := H; have A8 := am_ A80; clear A80; obtain rfl := Option.some.inj H; have p131 : 0 ≤ (a1 : Int) := of_decide_eq_true Zn; have q131 : a1 < (l0.length : Int) := of_decide_eq_true Zn; obtain ⟨ad131, e131, hx131_0, hx131_1⟩ := at_T104 HR0.out a1 p131 q131
     cases e131
     replace p131 := eq_true p131; replace q131 := eq_true q131
     go_wp2_with (first | (go_at_call 56; (with_reducible refine (spec_l01In.calls a2 0 (wrap64 (((rd_T104 l0 a1).f0) - 1)) t132 _ A8.out).mono ?_); rintro e w' ⟨rfl, ⟨nd, rfl⟩⟩))
     go_ret
     exact ⟨Za, Zb⟩
    ·rw [if_neg c7] at H
     exact absurd H (by simp)
   ·rw [if_neg c6] at H
    exact absurd H (by simp)
  ·have H := HS_.out
   clear HS_; replace c5 := Bool.eq_false_iff.mpr c5; subst c5; rw [if_neg (show ¬ (false = true) by decide)] at H; obtain rfl := Option.some.inj H
   go_wp2_with (first | fail)
   go_ret
   exact ⟨Za, Zb⟩
mutual
def spec_IsShow.j0 : Nat → Bool → List (S104) → List (S61) → List (S58) → Option (Bool)
 | 0, _, _, _, _ => none
 | k + 1, x20, x134000, x134001, x134002 => if x20 = true then (some false) else (spec_IsShow.l0 k 0 x134000 x134001 x134002)
def spec_IsShow.l0 : Nat → Int → List (S104) → List (S61) → List (S58) → Option (Bool)
 | 0, _, _, _, _ => none
 | k + 1, x3, x134000, x134001, x134002 => if x3 < (x134002.length : Int) then (if 0 ≤ x3 then ((spec_l07Has.f x134000 ((rd_T58 x134002 x3).f0) ((rd_T58 x134002 x3).f1)).bind fun t138 => (if t138 = true then ((spec_l03Find.f k x134001 ((rd_T58 x134002 x3).f2)).bind fun t139 => (if t139 < 0 then (some false) else ((spec_l01In.f ((rd_T58 x134002 x3).f3) 0 11).bind fun t140 => (if t140 = true then ((spec_l08Time.f k x134000 x134001 x134002 ((rd_T58 x134002 x3).f0) ((rd_T58 x134002 x3).f1) ((rd_T58 x134002 x3).f2) ((rd_T58 x134002 x3).f3)).bind fun t141 => (if t141 < 0 then (some false) else (spec_IsShow.l0 k (wrap64 (x3 + 1)) x134000 x134001 x134002))) else (some false))))) else (some false))) else (none)) else (some true)
end
def spec_IsShow.f (k : Nat) (l0_0 : List (S104)) (l0_1 : List (S61)) (l0_2 : List (S58)) : Option (Bool) := (spec_IsScore.f k l0_0).bind fun t134 => (if t134 = true then ((spec_AreArticles.f k l0_1).bind fun t135 => (if t135 = true then (spec_IsShow.j0 k (decide ((l0_2.length : Int) > 20)) l0_0 l0_1 l0_2) else (spec_IsShow.j0 k true l0_0 l0_1 l0_2))) else (spec_IsShow.j0 k true l0_0 l0_1 l0_2))
set_option maxHeartbeats 8000000 in
set_option maxRecDepth 100000 in
theorem spec_IsShow.calls (k : Nat) (A0_0 : Option Addr) (c0_0 : Nat) (l0_0 : List (S104)) (A0_1 : Option Addr) (c0_1 : Nat) (l0_1 : List (S61)) (A0_2 : Option Addr) (c0_2 : Nat) (l0_2 : List (S58)) (r : Bool) (w : World) (hr0_0 : Kd.C k104 w A0_0 l0_0.length l0_0) (hc0_0 : l0_0.length ≤ c0_0) (hr0_1 : Kd.C k61 w A0_1 l0_1.length l0_1) (hc0_1 : l0_1.length ≤ c0_1) (hr0_2 : Kd.C k58 w A0_2 l0_2.length l0_2) (hc0_2 : l0_2.length ≤ c0_2) (h : spec_IsShow.f k l0_0 l0_1 l0_2 = some r) :
  Calls Try.prog 43 #[.agg #[.slice A0_0 l0_0.length c0_0, .slice A0_1 l0_1.length c0_1, .slice A0_2 l0_2.length c0_2]] w fun e w' => e = .returned (.bool r) ∧ Below w.heap.size w w' := by
 have hu35 := Try.underlying35; have hu58 := Try.underlying58; have HR0_0 := am_ hr0_0; have HC0_0 := am_ hc0_0; clear hr0_0 hc0_0; have HR0_1 := am_ hr0_1; have HC0_1 := am_ hc0_1; clear hr0_1 hc0_1; have HR0_2 := am_ hr0_2; have HC0_2 := am_ hc0_2; clear hr0_2 hc0_2; have HB := am_ (Below.refl w.heap.size w); have H : ((spec_IsScore.f k l0_0).bind fun t134 => (if t134 = true then ((spec_AreArticles.f k l0_1).bind fun t135 => (if t135 = true then (spec_IsShow.j0 k (decide ((l0_2.length : Int) > 20)) l0_0 l0_1 l0_2) else (spec_IsShow.j0 k true l0_0 l0_1 l0_2))) else (spec_IsShow.j0 k true l0_0 l0_1 l0_2))) = some r := h; clear h; have HC2 := am_ H; clear H
 go_enter Try.func43, Try.ntmps43
 go_upto_region 1 with (first | ((with_reducible refine gate_dst (N := 1) rfl ?_); (try (refine gate_guard (by rfl) ?_; dsimp only)); refine boxZ 1 #[.slice A0_0 l0_0.length c0_0, .slice A0_1 l0_1.length c0_1, .slice A0_2 l0_2.length c0_2] 35 ?_; intro gb133 hg w3 hbox hb; replace BK133 := am_ (hbox); replace GW133 := am_ ((Zc : w.heap.size ≤ gb133)); replace GE133 := GW133; replace HB := (bsZ Zd hb); clear hb hbox hg))
 (try simp only [Act.put, List.setIfInBounds_toArray, List.set_cons_zero, List.set_cons_succ])
 go_cut [20] (fun v20 wc => ∃ (kq : Nat) (x20_1 : Bool), v20 = .bool x20_1 ∧ Aside0 (spec_IsShow.j0 kq x20_1 l0_0 l0_1 l0_2 = some r) ∧ Aside0 (kq ≤ k) ∧ Aside0 (wc.heap[gb133]? = some (.cells #[(.slice A0_0 l0_0.length c0_0), (.slice A0_1 l0_1.length c0_1), (.slice A0_2 l0_2.length c0_2)] 35 (0, 0))) ∧ Aside0 (Below w.heap.size w wc))
 case first =>
  have H := HC2.out; clear HC2; replace H := Option.bind_eq_some_iff.mp H; obtain ⟨t134, A40, H⟩ := H; have A4 := am_ A40; clear A40; have HS_ := am_ H; clear H; refine ci3 BK133 ?_; intros
  go_wp2_with (first | ((with_reducible refine gate_callee (f := 82) rfl ?_); refine gZ 7 Try.func82 #[.slice A0_0 l0_0.length c0_0] ?_; (with_reducible refine (spec_IsScore.calls k _ _ l0_0 t134 _ ?_ ?_ A4.out).mono ?_); exact (Zz HR0_0); exact HC0_0.out; rintro e w' ⟨rfl, ⟨nd, rfl⟩⟩; refine ⟨_, rfl, ?_⟩; refine ?roundEnd))
  case roundEnd =>
   by_cases c5 : t134 = true
   ·have H := HS_.out
    clear HS_; subst c5; rw [if_pos rfl] at H; replace H := Option.bind_eq_some_iff.mp H; obtain ⟨t135, A60, H⟩ := H; have A6 := am_ A60; clear A60; have HS_ := am_ H; clear H
    go_wp2_with (first | (go_at_call 78; (with_reducible refine (spec_AreArticles.calls k _ _ l0_1 t135 _ ?_ ?_ A6.out).mono ?_); exact (Zaa HR0_1 GE133); exact HC0_1.out; rintro e w9 ⟨rfl, hb⟩; replace BK133 := (bkZ BK133 hb); replace HB := (bsZ (Zf GE133) hb); clear hb; refine ?roundEnd))
    case roundEnd =>
     by_cases c7 : t135 = true
     ·have H := HS_.out
      clear HS_; subst c7; rw [if_pos rfl] at H; have H' := am_ H; clear H; refine ci3 BK133 ?_; intros
      go_wp2_with (first | fail)
      go_meet
      case rel => exact ⟨_, (decide ((l0_2.length : Int) > 20)), Za, H', ⟨Zl⟩, ⟨(Zah BK133)⟩, ⟨(Zf GE133)⟩⟩
     ·have H := HS_.out
      clear HS_; replace c7 := Bool.eq_false_iff.mpr c7; subst c7; rw [if_neg (show ¬ (false = true) by decide)] at H; have H' := am_ H; clear H
      go_wp2_with (first | fail)
      go_meet
      case rel => exact ⟨_, (true), Za, H', ⟨Zl⟩, ⟨(Zah BK133)⟩, ⟨(Zf GE133)⟩⟩
   ·have H := HS_.out
    clear HS_; replace c5 := Bool.eq_false_iff.mpr c5; subst c5; rw [if_neg (show ¬ (false = true) by decide)] at H; have H' := am_ H; clear H
    go_wp2_with (first | fail)
    go_meet
    case rel => exact ⟨_, (true), Za, H', ⟨Zl⟩, ⟨(Zah BK133)⟩, ⟨(Zf GE133)⟩⟩
 case rest =>
  clear HC2
  try clear p2
  try clear c4
  try clear c5
  try clear c7
  try clear c8
  obtain ⟨kq, x20_1, rfl, HA, HJ1, BK133, HB⟩ := hcut
  cases kq with
  | zero => exact absurd HA.out (by simp [spec_IsShow.j0])
  | succ kj1 =>
   have H := HA.out; clear HA; simp only [spec_IsShow.j0] at H
   by_cases c14 : x20_1 = true
   ·subst c14
    rw [if_pos rfl] at H; obtain rfl := Option.some.inj H
    go_wp2
    go_ret
    exact ⟨Zj, (Zf GE133)⟩
   ·replace c14 := Bool.eq_false_iff.mpr c14
    subst c14; rw [if_neg (show ¬ (false = true) by decide)] at H; have H' := am_ H; clear H
    go_wp2
    go_loopg [3] kj1 (fun kq v3 w' => ∃ (x3_2 : Int), v3 = .int .i64 x3_2 ∧ Aside0 (spec_IsShow.l0 kq x3_2 l0_0 l0_1 l0_2 = some r) ∧ Aside0 (kq ≤ kj1) ∧ Aside0 (w'.heap[gb133]? = some (.cells #[(.slice A0_0 l0_0.length c0_0), (.slice A0_1 l0_1.length c0_1), (.slice A0_2 l0_2.length c0_2)] 35 (0, 0))) ∧ Aside0 (Below w.heap.size w w'))
    case atStart => exact ⟨(0), Za, H', ⟨Nat.le_refl _⟩, ⟨(Zah BK133)⟩, ⟨(Zf GE133)⟩⟩
    case round =>
     clear H'
     try clear c1
     try clear p2
     try clear c4
     try clear c5
     try clear c7
     try clear c8
     try clear c14
     try clear p2
     obtain ⟨x3_2, rfl, HA, HK2, BK133, HB⟩ := hrel
     cases gk with
     | zero => exact absurd HA.out (by simp [spec_IsShow.l0])
     | succ k2 =>
      have H := HA.out; clear HA; simp only [spec_IsShow.l0] at H
      by_cases c15 : x3_2 < (l0_2.length : Int)
      ·rw [if_pos c15] at H
       have c15b0 := decide_eq_true c15; clear c15
       by_cases c16 : 0 ≤ x3_2
       ·rw [if_pos c16] at H
        have c16b0 := decide_eq_true c16; clear c16; replace H := Option.bind_eq_some_iff.mp H; obtain ⟨t138, A170, H⟩ := H; have A17 := am_ A170; clear A170; have HS_ := am_ H; clear H; refine ci3 BK133 ?_; intros; have p136 : 0 ≤ (x3_2 : Int) := of_decide_eq_true Zn; have q136 : x3_2 < (l0_2.length : Int) := of_decide_eq_true Zn; obtain ⟨ad136, e136, hx136_0, hx136_1, hx136_2, hx136_3⟩ := at_T58 HR0_2.out x3_2 p136 q136
        cases e136
        replace hx136_0 := cbH HB hx136_0; replace hx136_1 := cbH HB hx136_1; replace hx136_2 := cbH HB hx136_2; replace hx136_3 := cbH HB hx136_3; replace p136 := eq_true p136; replace q136 := eq_true q136
        go_wp2_with (first | ((with_reducible refine gate_dst (N := 4) rfl ?_); (try (refine gate_guard (by rfl) ?_; dsimp only)); refine boxZ 4 #[.int .i64 0, .int .i64 0, .string (⟨#[]⟩ : ByteArray), .int .i64 0] 58 ?_; intro gb137 hg w22 hbox hb; replace BK137 := am_ (hbox); replace GW137 := am_ (((Ze GE133) : w.heap.size ≤ gb137)); replace GE137 := GW137; replace HB := (bsZ (Zf GE133) hb); replace NB133_137 := am_ ((by rw [hg]; exact Nat.ne_of_lt (blk_lt (g := gb133) (b0Z BK133)) : gb133 ≠ gb137)); replace NB137_133 := am_ ((by rw [hg]; exact Nat.ne_of_gt (blk_lt (g := gb133) (b0Z BK133)) : gb137 ≠ gb133)); replace BK133 := (bkZ BK133 hb); clear hb hbox hg; have hnb23 := NB137_133.out; have hnc23 := NB133_137.out; refine ci4 BK137 ?_; intros; refine ci3 BK133 ?_; intros) | ((with_reducible refine gate_callee (f := 83) rfl ?_); refine gZ 39 Try.func83 #[.slice A0_0 l0_0.length c0_0, .int .i64 ((rd_T58 l0_2 x3_2).f0), .int .i64 ((rd_T58 l0_2 x3_2).f1)] ?_; (with_reducible refine (spec_l07Has.calls _ _ l0_0 ((rd_T58 l0_2 x3_2).f0) ((rd_T58 l0_2 x3_2).f1) t138 _ ?_ ?_ A17.out).mono ?_); exact Kd.C_below HR0_0.out (Zh GE133 GE137); exact HC0_0.out; rintro e w' ⟨rfl, ⟨nd, rfl⟩⟩; refine ⟨_, rfl, ?_⟩; refine ?roundEnd))
        case roundEnd =>
         by_cases c18 : t138 = true
         ·have H := HS_.out
          clear HS_; subst c18; rw [if_pos rfl] at H; replace H := Option.bind_eq_some_iff.mp H; obtain ⟨t139, A190, H⟩ := H; have A19 := am_ A190; clear A190; have HS_ := am_ H; clear H
          go_wp2_with (first | (go_at_call 70; (with_reducible refine (spec_l03Find.calls k2 _ _ l0_1 ((rd_T58 l0_2 x3_2).f2) t139 _ ?_ ?_ A19.out).mono ?_); exact Kd.C_below HR0_1.out (Zh GE133 GE137); exact HC0_1.out; rintro e w' ⟨rfl, ⟨nd, rfl⟩⟩; refine ?roundEnd))
          case roundEnd =>
           by_cases c20 : t139 < 0
           ·have H := HS_.out
            clear HS_; rw [if_pos c20] at H; have c20b0 := decide_eq_true c20; clear c20; obtain rfl := Option.some.inj H
            go_wp2_with (first | fail)
            go_ret
            exact ⟨Zj, (Zh GE133 GE137)⟩
           ·have H := HS_.out
            clear HS_; rw [if_neg c20] at H; have c20b0 := decide_eq_false c20; clear c20; replace H := Option.bind_eq_some_iff.mp H; obtain ⟨t140, A260, H⟩ := H; have A26 := am_ A260; clear A260; have HS_ := am_ H; clear H
            go_wp2_with (first | (go_at_call 56; (with_reducible refine (spec_l01In.calls ((rd_T58 l0_2 x3_2).f3) 0 11 t140 _ A26.out).mono ?_); rintro e w' ⟨rfl, ⟨nd, rfl⟩⟩; refine ?roundEnd))
            case roundEnd =>
             by_cases c27 : t140 = true
             ·have H := HS_.out
              clear HS_; subst c27; rw [if_pos rfl] at H; replace H := Option.bind_eq_some_iff.mp H; obtain ⟨t141, A280, H⟩ := H; have A28 := am_ A280; clear A280; have HS_ := am_ H; clear H
              go_wp2_with (first | (go_at_call 72; (with_reducible refine (spec_l08Time.calls k2 _ _ l0_0 _ _ l0_1 _ _ l0_2 ((rd_T58 l0_2 x3_2).f0) ((rd_T58 l0_2 x3_2).f1) ((rd_T58 l0_2 x3_2).f2) ((rd_T58 l0_2 x3_2).f3) t141 _ ?_ ?_ ?_ ?_ ?_ ?_ A28.out).mono ?_); exact Kd.C_below HR0_0.out (Zh GE133 GE137); exact HC0_0.out; exact Kd.C_below HR0_1.out (Zh GE133 GE137); exact HC0_1.out; exact Kd.C_below HR0_2.out (Zh GE133 GE137); exact HC0_2.out; rintro e w35 ⟨rfl, hb⟩; replace BK133 := am_ (blk_below (g := gb133) (bfZ BK133 NB133_137) hb); replace BK137 := am_ (blk_below (g := gb137) (o := .cells #[.int .i64 ((rd_T58 l0_2 x3_2).f0), .int .i64 ((rd_T58 l0_2 x3_2).f1), .string ((rd_T58 l0_2 x3_2).f2), .int .i64 ((rd_T58 l0_2 x3_2).f3)] 58 (0, 0)) (bpZ BK137) hb); replace HB := (bsZ (Zh GE133 GE137) hb); clear hb; refine ?roundEnd))
              case roundEnd =>
               by_cases c29 : t141 < 0
               ·have H := HS_.out
                clear HS_; rw [if_pos c29] at H; have c29b0 := decide_eq_true c29; clear c29; obtain rfl := Option.some.inj H
                go_wp2_with (first | fail)
                go_ret
                exact ⟨Zj, (Zh GE133 GE137)⟩
               ·have H := HS_.out
                clear HS_; rw [if_neg c29] at H; have c29b0 := decide_eq_false c29; clear c29; have H' := am_ H; clear H
                go_wp2_with (first | fail)
                go_roundg k2
                case measure => have := HJ1.out; have := HK2.out; omega
                case rel => exact ⟨(wrap64 (x3_2 + 1)), Za, H', ⟨by have := HJ1.out; have := HK2.out; omega⟩, ⟨(Zah BK133)⟩, ⟨(Zh GE133 GE137)⟩⟩
             ·have H := HS_.out
              clear HS_; replace c27 := Bool.eq_false_iff.mpr c27; subst c27; rw [if_neg (show ¬ (false = true) by decide)] at H; obtain rfl := Option.some.inj H
              go_wp2_with (first | fail)
              go_ret
              exact ⟨Zj, (Zh GE133 GE137)⟩
         ·have H := HS_.out
          clear HS_; replace c18 := Bool.eq_false_iff.mpr c18; subst c18; rw [if_neg (show ¬ (false = true) by decide)] at H; obtain rfl := Option.some.inj H
          go_wp2_with (first | fail)
          go_ret
          exact ⟨Zj, (Zh GE133 GE137)⟩
       ·rw [if_neg c16] at H
        exact absurd H (by simp)
      ·rw [if_neg c15] at H
       have c15b0 := decide_eq_false c15; clear c15; obtain rfl := Option.some.inj H; refine ci3 BK133 ?_; intros
       go_wp2
       go_ret
       exact ⟨Zj, (Zf GE133)⟩
end Go.Proofs.Ytmnnbmdfepogiaa.F
