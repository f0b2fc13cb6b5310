import Derived.Test.YtmnnbmdfepogiaaJFnShows4
import Derived.Below
import Derived.Deep.Draws
import Derived.Deep.AppendLies
import Derived.Maps.AppendAt
import Derived.OwnWalk
import Derived.Laws.BytesArg
import Derived.Laws.MakeOwn
import Derived.Laws.OwnMore
import Derived.Tactics
import Derived.Lib.ConvBytes
import Derived.Laws.Slices
import Derived.WalkKit
import Derived.KernelRfl
import Derived.RowKit3
import Derived.Deep.LoopGhost
import Derived.Deep.QuietTactic
import Derived.BigQuiet
import Derived.WideLaws
import Derived.Deep.DeepCutAuto
import Derived.Deep.CutBlock
import Derived.Deep.RegionHeld3
import Derived.Lib.AppendStr
import Derived.ArgAppend
import Derived.Laws.IdiomCopy
import Derived.RowKit
import Derived.OrdersHeld
import Derived.Laws.BitsLemmas
import Derived.Laws.StructEq
import Derived.Test.YtmnnbmdfepogiaaProg
import Derived.Laws.Cover1
namespace Go.Proofs.Ytmnnbmdfepogiaa.F
open Go.RowKit Go.Proofs.YtmnnbmdfepogiaaW.PrintWords Go.Proofs.YtmnnbmdfepogiaaW.PrintLast Go.Proofs.YtmnnbmdfepogiaaW.PrintMore
attribute [local go_sem] max2_int min2_int max_two min_two max_three min_three max_four min_four
set_option linter.unusedVariables false
set_option linter.unusedSimpArgs false
def spec_l07Draw.l0 : Nat → List (S104) → List Int → Int → Int → Option ((List (S104)) × Int × Int)
 | 0, _, _, _, _ => none
 | k + 1, x3, x1000, x1001, x1002 => (spec_l01Next.f x1000 x1001 x1002 2).bind fun bt496 => (if (x3.length : Int) < (wrap64 (20 + bt496.1)) then (if x3.length < 8796093022208 then (spec_l07Draw.l0 k (x3 ++ [(⟨4, 500⟩ : S104)]) x1000 bt496.2.1 bt496.2.2) else (none)) else (some (x3, bt496.2.1, bt496.2.2)))
def spec_l07Draw.f (k : Nat) (s0_0 : List Int) (s0_1 : Int) (s0_2 : Int) : Option ((List (S104)) × Int × Int) := (spec_l07Good.f k s0_0 s0_1 s0_2).bind fun bt474 => ((spec_l01Next.f s0_0 bt474.2.1 bt474.2.2 40).bind fun bt479 => (if bt479.1 = 0 then ((spec_l01Pick.f s0_0 bt479.2.1 bt479.2.2 (([0, 1, 16, 17] : List Int))).bind fun bt485 => (if 0 < (bt474.1.length : Int) then (some ((bt474.1.set (0 : Int).toNat (⟨bt485.1, (rd_T104 bt474.1 0).f1⟩ : S104)), bt485.2.1, bt485.2.2)) else (none))) else (if bt479.1 = 1 then ((spec_l01Pick.f s0_0 bt479.2.1 bt479.2.2 (([99, 100, 5000, 5001] : List Int))).bind fun bt492 => (if 0 < (bt474.1.length : Int) then (some ((bt474.1.set (0 : Int).toNat (⟨(rd_T104 bt474.1 0).f0, bt492.1⟩ : S104)), bt492.2.1, bt492.2.2)) else (none))) else (if bt479.1 = 2 then (spec_l07Draw.l0 k bt474.1 s0_0 bt479.2.1 bt479.2.2) else (if bt479.1 = 3 then (if 0 ≤ (bt474.1.length : Int) then (some ((bt474.1.take (0 : Int).toNat), bt479.2.1, bt479.2.2)) else (none)) else (some (bt474.1, bt479.2.1, bt479.2.2)))))))
set_option maxHeartbeats 8000000 in
set_option maxRecDepth 100000 in
theorem spec_l07Draw.calls (k : Nat) (g : Nat) (s0_0 : List Int) (s0_1 : Int) (s0_2 : Int) (r1 : List (S104)) (r2 : Int) (r3 : Int) (w0 w : World) (hI : IsS116 w0 w g s0_0 s0_1 s0_2) (hB : Below w0.heap.size w0 w) (h : spec_l07Draw.f k s0_0 s0_1 s0_2 = some (r1, r2, r3)) :
  Calls Try.prog 98 #[.pointer (some ⟨g, 0, none⟩)] w fun e w' => ∃ v0_ : Value, e = .returned (v0_) ∧ Kd.R k104 104 w' w.heap.size (fun _ => True) v0_ r1 ∧ IsS116 w0 w' g s0_0 r2 r3 ∧ Below w0.heap.size w0 w' ∧ KeepBut w w' g none := by
 have hu104 := Try.underlying104; have HI0 := am_ hI; have HK := am_ (KeepBut.refl w g none); have HL := am_ hB.size; clear hI; have HW0 := am_ hB.size; have HB := am_ hB; clear hB; have H : ((spec_l07Good.f k s0_0 s0_1 s0_2).bind fun bt474 => ((spec_l01Next.f s0_0 bt474.2.1 bt474.2.2 40).bind fun bt479 => (if bt479.1 = 0 then ((spec_l01Pick.f s0_0 bt479.2.1 bt479.2.2 (([0, 1, 16, 17] : List Int))).bind fun bt485 => (if 0 < (bt474.1.length : Int) then (some ((bt474.1.set (0 : Int).toNat (⟨bt485.1, (rd_T104 bt474.1 0).f1⟩ : S104)), bt485.2.1, bt485.2.2)) else (none))) else (if bt479.1 = 1 then ((spec_l01Pick.f s0_0 bt479.2.1 bt479.2.2 (([99, 100, 5000, 5001] : List Int))).bind fun bt492 => (if 0 < (bt474.1.length : Int) then (some ((bt474.1.set (0 : Int).toNat (⟨(rd_T104 bt474.1 0).f0, bt492.1⟩ : S104)), bt492.2.1, bt492.2.2)) else (none))) else (if bt479.1 = 2 then (spec_l07Draw.l0 k bt474.1 s0_0 bt479.2.1 bt479.2.2) else (if bt479.1 = 3 then (if 0 ≤ (bt474.1.length : Int) then (some ((bt474.1.take (0 : Int).toNat), bt479.2.1, bt479.2.2)) else (none)) else (some (bt474.1, bt479.2.1, bt479.2.2)))))))) = some (r1, r2, r3) := h; clear h; replace H := Option.bind_eq_some_iff.mp H; obtain ⟨⟨t474, t477, t478⟩, A20, H⟩ := H
 dsimp only at H
 have A2 := am_ A20; clear A20; replace H := Option.bind_eq_some_iff.mp H; obtain ⟨⟨t479, t480, t481⟩, A30, H⟩ := H
 dsimp only at H
 have A3 := am_ A30; clear A30; have HS_ := am_ H; clear H
 go_enter Try.func98, Try.ntmps98
 go_wp2_with (first | ((with_reducible refine gate_callee (f := 108) rfl ?_); refine gZ 5 Try.func108 #[.pointer (some ⟨g, 0, none⟩)] ?_; (with_reducible refine (spec_l07Good.calls k g s0_0 s0_1 s0_2 t474 t477 t478 w0 _ ?_ ?_ A2.out).mono ?_); exact Zak; exact Zal; rintro e w8 ⟨v475, rfl, ho0, hi, hb, hk⟩; refine ⟨_, rfl, ?_⟩; replace HO476 := am_ (Kd.R_lower ho0 (keep_size (w := w) (g := g) (row := none) Zam)); replace HK := am_ (KeepBut.trans Zam hk (.inl rfl)); replace HB := am_ (hb); replace HI0 := am_ (hi); clear hb hk hi ho0; refine ?roundEnd))
 case roundEnd =>
  by_cases c4 : t479 = 0
  ·have H := HS_.out
   clear HS_; rw [if_pos c4] at H; have c4b0 := beq_iff_eq.mpr c4; have c4b1 := bne_eq_false_iff_eq.mpr c4; clear c4; obtain ⟨y482, hy482⟩ : ∃ y_ : List Int, y_ = (([0, 1, 16, 17] : List Int)) := ⟨_, rfl⟩
   (first | (rw [← hy482] at H; with_reducible replace H := bindZ H) | rw [← hy482] at H | skip)
   have Ny482 := am_ hy482; clear hy482; replace H := Option.bind_eq_some_iff.mp H; obtain ⟨⟨t485, t486, t487⟩, A50, H⟩ := H
   dsimp only at H
   have A5 := am_ A50; clear A50
   by_cases c6 : 0 < (t474.length : Int)
   ·rw [if_pos c6] at H
    have c6b0 := decide_eq_true c6; have c6b1 : decide (0 < t474.length) = true := decide_eq_true (by omega); clear c6; obtain ⟨y488, hy488⟩ : ∃ y_ : List (S104), y_ = (t474.set (0 : Int).toNat (⟨t485, (rd_T104 t474 0).f1⟩ : S104)) := ⟨_, rfl⟩
    (first | (rw [← hy488] at H; with_reducible replace H := bindZ H) | rw [← hy488] at H | skip)
    have Ny488 := am_ hy488; clear hy488; simp only [Option.some.injEq, Prod.mk.injEq] at H; obtain ⟨rfl, rfl, rfl⟩ := H
    go_wp2_with (first | ((with_reducible refine gate_callee (f := 62) rfl ?_); refine gZ 7 Try.func62 #[.pointer (some ⟨g, 0, none⟩), .int .i64 40] ?_; (with_reducible refine (spec_l01Next.calls g s0_0 t477 t478 40 t479 t480 t481 w0 _ ?_ ?_ A3.out).mono ?_); exact Zak; exact Zal; rintro e w9 ⟨rfl, hi, hb, hk⟩; refine ⟨_, rfl, ?_⟩; replace HO476 := (hoZ (IsS116.apart (show IsS116 w0 _ g s0_0 t477 t478 from Zak) (Zr HO476) (by decide)) hk); replace HK := am_ (KeepBut.trans Zam hk (.inl rfl)); replace HB := am_ (hb); replace HI0 := am_ (hi); clear hb hk hi) | ((with_reducible refine gate_dst (N := 12) rfl ?_); refine Kd.R_lit (Kd.int .i64) _ 2 ?hg (N := 12) ?hd (xs := ([0, 1, 16, 17] : List Int)) (inner := [.int .i64 0, .int .i64 1, .int .i64 16, .int .i64 17]) (ok := fun _ => True) (okp := fun _ => True) ?hr ?hp (fun _ hk => hk) trivial (Below.refl _ _) (Nat.le_refl _) (by simp) ?_; (case hd => rfl); (case hg => rfl); (case hr => first | (go_simp; done) | (go_simp; rfl)); (case hp => exact (Reps.one (show Kd.M (Kd.int .i64) _ _ _ 0 [.int .i64 0] from rfl) (Reps.one (show Kd.M (Kd.int .i64) _ _ _ 1 [.int .i64 1] from rfl) (Reps.one (show Kd.M (Kd.int .i64) _ _ _ 16 [.int .i64 16] from rfl) (Reps.one (show Kd.M (Kd.int .i64) _ _ _ 17 [.int .i64 17] from rfl) (Reps.none _ _)))))); intro v483 w10 ho11 hb hg_ hnew_; clear hg_ hnew_; (first | rw [← Ny482.out] at ho11 | (simp only [Int.reduceToNat] at ho11; rw [← Ny482.out] at ho11)); replace HO476 := (hbZ HO476 hb); replace HO484 := am_ (Kd.R_lower ho11 (keep_size (w := w) (g := g) (row := none) Zam)); replace HK := am_ (KeepBut.trans Zam (KeepBut.of_below hb g none) (.inl rfl)); replace HB := (bsZ Zal hb); replace HI0 := am_ (IsS116.below Zak hb); clear hb ho11; obtain ⟨Ao12, co12, eo12⟩ := Kd.R_slice HO484.out; subst eo12) | ((with_reducible refine gate_callee (f := 79) rfl ?_); refine gZ 13 Try.func79 #[.pointer (some ⟨g, 0, none⟩), .slice Ao12 y482.length co12] ?_; (with_reducible refine (spec_l01Pick.calls g s0_0 t480 t481 _ _ y482 t485 t486 t487 w0 _ ?_ ?_ ?_ ?_ ?_ A5.out).mono ?_); exact Zak; exact Zal; exact (Zaa HO484); exact (Kd.R_reads' HO484.out).2.1; exact far_slice (IsS116.own_ne HI0.out HO484.out (by decide)); rintro e w13 ⟨rfl, hi, hb, hk⟩; refine ⟨_, rfl, ?_⟩; replace HO476 := (hoZ (IsS116.apart (show IsS116 w0 _ g s0_0 t480 t481 from Zak) (Zr HO476) (by decide)) hk); replace HO484 := (hoZ (IsS116.apart (show IsS116 w0 _ g s0_0 t480 t481 from Zak) (Zr HO484) (by decide)) hk); replace HK := am_ (KeepBut.trans Zam hk (.inl rfl)); replace HB := am_ (hb); replace HI0 := am_ (hi); clear hb hk hi; have p7 : 0 ≤ (0 : Int) := (by omega); have q7 : (0 : Int) < ((t474.length : Int) : Int) := of_decide_eq_true Zc; have qi7 : (0 < t474.length) = True := eq_true (by omega); obtain ⟨go7, co7, eo7, gb7, gl7, cl7, HG7⟩ := Kd.R_form HO476.out (by omega); (first | cases eo7 | (injection eo7 with ea_ en_ ec_; (first | subst ea_ | (injection ea_ with ea_; subst ea_)); subst ec_; clear en_)); have GB7 := am_ gb7; have GG7 := am_ HG7; clear gb7 gl7 HG7; obtain ⟨ce7, hcl7, hM7, hcc7, hfr7⟩ := Kd.R_elem HO476.out z104 (0 : Int) p7 q7; obtain rfl := k104_openM hM7; have hx7_0 : w13.cell? ⟨go7, (0 : Int).toNat * 2, none⟩ = some (.int .i64 ((rd_T104 t474 0).f0)) := hcc7 0 _ rfl; have hx7_1 : w13.cell? ⟨go7, (0 : Int).toNat * 2 + 1, none⟩ = some (.int .i64 ((rd_T104 t474 0).f1)) := hcc7 1 _ rfl; have hf7_0 : w13.frozen? ⟨go7, (0 : Int).toNat * 2, none⟩ = false := hfr7 0; have hf7_1 := hfr7 1; clear hcl7 hcc7 hfr7 hM7; (try rw [show ((0 : Int)).toNat = 0 from rfl] at hx7_0); (try simp only [Nat.reduceMul, Nat.zero_mul, Nat.zero_add, Nat.reduceAdd] at hx7_0); (try rw [show ((0 : Int)).toNat = 0 from rfl] at hf7_0); (try simp only [Nat.reduceMul, Nat.zero_mul, Nat.zero_add, Nat.reduceAdd] at hf7_0); (try rw [show ((0 : Int)).toNat = 0 from rfl] at hx7_1); (try simp only [Nat.reduceMul, Nat.zero_mul, Nat.zero_add, Nat.reduceAdd] at hx7_1); (try rw [show ((0 : Int)).toNat = 0 from rfl] at hf7_1); (try simp only [Nat.reduceMul, Nat.zero_mul, Nat.zero_add, Nat.reduceAdd] at hf7_1); replace p7 := eq_true p7; replace q7 := eq_true q7; have HX14 := am_ (show Kd.R k104 104 w13 w.heap.size (fun _ => True) (.slice (some ⟨go7, 0, none⟩) t474.length co7) t474 from (Zr HO476)); obtain ⟨ce14, hcl14, hM14, hcc14, hfr14⟩ := Kd.R_elem HX14.out z104 (0 : Int) (by omega) (by have h_ : (0 : Int) < ((t474.length : Int) : Int) := of_decide_eq_true Zc; first | exact h_ | (have e_ := (Kd.R_reads' HO476.out).1; omega) | simpa using h_); obtain rfl := k104_openM hM14; have HP14 := Kd.R_seg HX14.out (0 : Int) (by omega) (by have h_ : (0 : Int) < ((t474.length : Int) : Int) := of_decide_eq_true Zc; first | exact h_ | (have e_ := (Kd.R_reads' HO476.out).1; omega) | simpa using h_) (seg := [.int .i64 t485]) (j := 0) hcl14 hcc14 (show 1 ≤ 2 from (by decide)) (x' := (⟨t485, (rd_T104 t474 0).f1⟩ : S104)) (k104_mkM _ _ _ (⟨t485, (rd_T104 t474 0).f1⟩ : S104) ) (fun _ hk => hk); have hx14_0 := hcc14 0 _ rfl; (try simp only [show (k104).sz = 2 from rfl, Nat.mul_one, Nat.add_zero] at hx14_0); (try rw [show ((0 : Int)).toNat = 0 from rfl] at hx14_0); (try simp only [Nat.reduceMul, Nat.zero_mul, Nat.zero_add, Nat.reduceAdd] at hx14_0); have hf14_0 := hfr14 0; (try simp only [show (k104).sz = 2 from rfl, Nat.mul_one, Nat.add_zero] at hf14_0); (try rw [show ((0 : Int)).toNat = 0 from rfl] at hf14_0); (try simp only [Nat.reduceMul, Nat.zero_mul, Nat.zero_add, Nat.reduceAdd] at hf14_0); clear hcl14 hcc14 hfr14 hM14) | ((with_reducible refine gate_store (t := 2) (p := 15) rfl ?_); refine store_event (t := 2) (p := 15) (v := ?vo_w15) (w1 := (w13.setCell ⟨go7, 0, none⟩ (.int .i64 t485))) ?hg ?ho ?hn ?hr ?_; (case ho => rfl); (case hg => rfl); (case hn => rfl); (case hr => first | (go_simp; done) | (go_simp; rfl)); intro w15 hw; have hg : w13.grownBy w15 (some go7) := (by rw [hw]; exact HP14.2); have hp_ : Kd.R k104 104 w15 w.heap.size (fun _ => True) (.slice (some ⟨go7, 0, none⟩) t474.length co7) y488 := (by rw [hw, Ny488.out]; exact HP14.1); clear HP14; replace HI0 := am_ (IsS116.grown Zak hg (IsS116.own_ne HI0.out HO476.out (by decide))); replace HO484 := am_ (Kd.R_over' (v := (.slice (some ⟨go7, 0, none⟩) t474.length co7)) (Zr HO484) (Kd.R_typed HO476.out) (by decide) hg); replace HB := am_ ((by rw [hw]; exact below_set (HB.out) (Nat.le_trans HL.out GB7.out) : Below w0.heap.size w0 w15)); replace HK := am_ (KeepBut.trans Zam (KeepBut.of_grown hg g) (Kd.R_base2 HO476.out)); replace HO476 := am_ (hp_); clear hg hw hp_))
    go_ret
    exact ⟨_, Zl, (Zr HO476), Zak, Zal, Zam⟩
   ·rw [if_neg c6] at H
    exact absurd H (by simp)
  ·have H := HS_.out
   clear HS_; rw [if_neg c4] at H; have c4b0 := beq_eq_false_iff_ne.mpr c4; have c4b1 := bne_iff_ne.mpr c4; have HS_ := am_ H; clear H
   by_cases c16 : t479 = 1
   ·have H := HS_.out
    clear HS_; rw [if_pos c16] at H; have c16b0 := beq_iff_eq.mpr c16; have c16b1 := bne_eq_false_iff_eq.mpr c16; clear c16; obtain ⟨y489, hy489⟩ : ∃ y_ : List Int, y_ = (([99, 100, 5000, 5001] : List Int)) := ⟨_, rfl⟩
    (first | (rw [← hy489] at H; with_reducible replace H := bindZ H) | rw [← hy489] at H | skip)
    have Ny489 := am_ hy489; clear hy489; replace H := Option.bind_eq_some_iff.mp H; obtain ⟨⟨t492, t493, t494⟩, A170, H⟩ := H
    dsimp only at H
    have A17 := am_ A170; clear A170
    by_cases c18 : 0 < (t474.length : Int)
    ·rw [if_pos c18] at H
     have c18b0 := decide_eq_true c18; have c18b1 : decide (0 < t474.length) = true := decide_eq_true (by omega); clear c18; obtain ⟨y495, hy495⟩ : ∃ y_ : List (S104), y_ = (t474.set (0 : Int).toNat (⟨(rd_T104 t474 0).f0, t492⟩ : S104)) := ⟨_, rfl⟩
     (first | (rw [← hy495] at H; with_reducible replace H := bindZ H) | rw [← hy495] at H | skip)
     have Ny495 := am_ hy495; clear hy495; simp only [Option.some.injEq, Prod.mk.injEq] at H; obtain ⟨rfl, rfl, rfl⟩ := H
     go_wp2_with (first | ((with_reducible refine gate_callee (f := 62) rfl ?_); refine gZ 7 Try.func62 #[.pointer (some ⟨g, 0, none⟩), .int .i64 40] ?_; (with_reducible refine (spec_l01Next.calls g s0_0 t477 t478 40 t479 t480 t481 w0 _ ?_ ?_ A3.out).mono ?_); exact Zak; exact Zal; rintro e w21 ⟨rfl, hi, hb, hk⟩; refine ⟨_, rfl, ?_⟩; replace HO476 := (hoZ (IsS116.apart (show IsS116 w0 _ g s0_0 t477 t478 from Zak) (Zr HO476) (by decide)) hk); replace HK := am_ (KeepBut.trans Zam hk (.inl rfl)); replace HB := am_ (hb); replace HI0 := am_ (hi); clear hb hk hi) | ((with_reducible refine gate_dst (N := 20) rfl ?_); refine Kd.R_lit (Kd.int .i64) _ 2 ?hg (N := 20) ?hd (xs := ([99, 100, 5000, 5001] : List Int)) (inner := [.int .i64 99, .int .i64 100, .int .i64 5000, .int .i64 5001]) (ok := fun _ => True) (okp := fun _ => True) ?hr ?hp (fun _ hk => hk) trivial (Below.refl _ _) (Nat.le_refl _) (by simp) ?_; (case hd => rfl); (case hg => rfl); (case hr => first | (go_simp; done) | (go_simp; rfl)); (case hp => exact (Reps.one (show Kd.M (Kd.int .i64) _ _ _ 99 [.int .i64 99] from rfl) (Reps.one (show Kd.M (Kd.int .i64) _ _ _ 100 [.int .i64 100] from rfl) (Reps.one (show Kd.M (Kd.int .i64) _ _ _ 5000 [.int .i64 5000] from rfl) (Reps.one (show Kd.M (Kd.int .i64) _ _ _ 5001 [.int .i64 5001] from rfl) (Reps.none _ _)))))); intro v490 w22 ho23 hb hg_ hnew_; clear hg_ hnew_; (first | rw [← Ny489.out] at ho23 | (simp only [Int.reduceToNat] at ho23; rw [← Ny489.out] at ho23)); replace HO476 := (hbZ HO476 hb); replace HO491 := am_ (Kd.R_lower ho23 (keep_size (w := w) (g := g) (row := none) Zam)); replace HK := am_ (KeepBut.trans Zam (KeepBut.of_below hb g none) (.inl rfl)); replace HB := (bsZ Zal hb); replace HI0 := am_ (IsS116.below Zak hb); clear hb ho23; obtain ⟨Ao24, co24, eo24⟩ := Kd.R_slice HO491.out; subst eo24) | ((with_reducible refine gate_callee (f := 79) rfl ?_); refine gZ 21 Try.func79 #[.pointer (some ⟨g, 0, none⟩), .slice Ao24 y489.length co24] ?_; (with_reducible refine (spec_l01Pick.calls g s0_0 t480 t481 _ _ y489 t492 t493 t494 w0 _ ?_ ?_ ?_ ?_ ?_ A17.out).mono ?_); exact Zak; exact Zal; exact (Zaa HO491); exact (Kd.R_reads' HO491.out).2.1; exact far_slice (IsS116.own_ne HI0.out HO491.out (by decide)); rintro e w25 ⟨rfl, hi, hb, hk⟩; refine ⟨_, rfl, ?_⟩; replace HO476 := (hoZ (IsS116.apart (show IsS116 w0 _ g s0_0 t480 t481 from Zak) (Zr HO476) (by decide)) hk); replace HO491 := (hoZ (IsS116.apart (show IsS116 w0 _ g s0_0 t480 t481 from Zak) (Zr HO491) (by decide)) hk); replace HK := am_ (KeepBut.trans Zam hk (.inl rfl)); replace HB := am_ (hb); replace HI0 := am_ (hi); clear hb hk hi; have p19 : 0 ≤ (0 : Int) := (by omega); have q19 : (0 : Int) < ((t474.length : Int) : Int) := of_decide_eq_true Zc; have qi19 : (0 < t474.length) = True := eq_true (by omega); obtain ⟨go19, co19, eo19, gb19, gl19, cl19, HG19⟩ := Kd.R_form HO476.out (by omega); (first | cases eo19 | (injection eo19 with ea_ en_ ec_; (first | subst ea_ | (injection ea_ with ea_; subst ea_)); subst ec_; clear en_)); have GB19 := am_ gb19; have GG19 := am_ HG19; clear gb19 gl19 HG19; obtain ⟨ce19, hcl19, hM19, hcc19, hfr19⟩ := Kd.R_elem HO476.out z104 (0 : Int) p19 q19; obtain rfl := k104_openM hM19; have hx19_0 : w25.cell? ⟨go19, (0 : Int).toNat * 2, none⟩ = some (.int .i64 ((rd_T104 t474 0).f0)) := hcc19 0 _ rfl; have hx19_1 : w25.cell? ⟨go19, (0 : Int).toNat * 2 + 1, none⟩ = some (.int .i64 ((rd_T104 t474 0).f1)) := hcc19 1 _ rfl; have hf19_0 : w25.frozen? ⟨go19, (0 : Int).toNat * 2, none⟩ = false := hfr19 0; have hf19_1 := hfr19 1; clear hcl19 hcc19 hfr19 hM19; (try rw [show ((0 : Int)).toNat = 0 from rfl] at hx19_0); (try simp only [Nat.reduceMul, Nat.zero_mul, Nat.zero_add, Nat.reduceAdd] at hx19_0); (try rw [show ((0 : Int)).toNat = 0 from rfl] at hf19_0); (try simp only [Nat.reduceMul, Nat.zero_mul, Nat.zero_add, Nat.reduceAdd] at hf19_0); (try rw [show ((0 : Int)).toNat = 0 from rfl] at hx19_1); (try simp only [Nat.reduceMul, Nat.zero_mul, Nat.zero_add, Nat.reduceAdd] at hx19_1); (try rw [show ((0 : Int)).toNat = 0 from rfl] at hf19_1); (try simp only [Nat.reduceMul, Nat.zero_mul, Nat.zero_add, Nat.reduceAdd] at hf19_1); replace p19 := eq_true p19; replace q19 := eq_true q19; have HX26 := am_ (show Kd.R k104 104 w25 w.heap.size (fun _ => True) (.slice (some ⟨go19, 0, none⟩) t474.length co19) t474 from (Zr HO476)); obtain ⟨ce26, hcl26, hM26, hcc26, hfr26⟩ := Kd.R_elem HX26.out z104 (0 : Int) (by omega) (by have h_ : (0 : Int) < ((t474.length : Int) : Int) := of_decide_eq_true Zc; first | exact h_ | (have e_ := (Kd.R_reads' HO476.out).1; omega) | simpa using h_); obtain rfl := k104_openM hM26; have HP26 := Kd.R_seg HX26.out (0 : Int) (by omega) (by have h_ : (0 : Int) < ((t474.length : Int) : Int) := of_decide_eq_true Zc; first | exact h_ | (have e_ := (Kd.R_reads' HO476.out).1; omega) | simpa using h_) (seg := [.int .i64 t492]) (j := 1) hcl26 hcc26 (show 2 ≤ 2 from (by decide)) (x' := (⟨(rd_T104 t474 0).f0, t492⟩ : S104)) (k104_mkM _ _ _ (⟨(rd_T104 t474 0).f0, t492⟩ : S104) ) (fun _ hk => hk); have hx26_1 := hcc26 1 _ rfl; (try simp only [show (k104).sz = 2 from rfl, Nat.mul_one, Nat.add_zero] at hx26_1); (try rw [show ((0 : Int)).toNat = 0 from rfl] at hx26_1); (try simp only [Nat.reduceMul, Nat.zero_mul, Nat.zero_add, Nat.reduceAdd] at hx26_1); have hf26_1 := hfr26 1; (try simp only [show (k104).sz = 2 from rfl, Nat.mul_one, Nat.add_zero] at hf26_1); (try rw [show ((0 : Int)).toNat = 0 from rfl] at hf26_1); (try simp only [Nat.reduceMul, Nat.zero_mul, Nat.zero_add, Nat.reduceAdd] at hf26_1); clear hcl26 hcc26 hfr26 hM26) | ((with_reducible refine gate_store (t := 2) (p := 23) rfl ?_); refine store_event (t := 2) (p := 23) (v := ?vo_w27) (w1 := (w25.setCell ⟨go19, 1, none⟩ (.int .i64 t492))) ?hg ?ho ?hn ?hr ?_; (case ho => rfl); (case hg => rfl); (case hn => rfl); (case hr => first | (go_simp; done) | (go_simp; rfl)); intro w27 hw; have hg : w25.grownBy w27 (some go19) := (by rw [hw]; exact HP26.2); have hp_ : Kd.R k104 104 w27 w.heap.size (fun _ => True) (.slice (some ⟨go19, 0, none⟩) t474.length co19) y495 := (by rw [hw, Ny495.out]; exact HP26.1); clear HP26; replace HI0 := am_ (IsS116.grown Zak hg (IsS116.own_ne HI0.out HO476.out (by decide))); replace HO491 := am_ (Kd.R_over' (v := (.slice (some ⟨go19, 0, none⟩) t474.length co19)) (Zr HO491) (Kd.R_typed HO476.out) (by decide) hg); replace HB := am_ ((by rw [hw]; exact below_set (HB.out) (Nat.le_trans HL.out GB19.out) : Below w0.heap.size w0 w27)); replace HK := am_ (KeepBut.trans Zam (KeepBut.of_grown hg g) (Kd.R_base2 HO476.out)); replace HO476 := am_ (hp_); clear hg hw hp_))
     go_ret
     exact ⟨_, Zl, (Zr HO476), Zak, Zal, Zam⟩
    ·rw [if_neg c18] at H
     exact absurd H (by simp)
   ·have H := HS_.out
    clear HS_; rw [if_neg c16] at H; have c16b0 := beq_eq_false_iff_ne.mpr c16; have c16b1 := bne_iff_ne.mpr c16; have HS_ := am_ H; clear H
    by_cases c28 : t479 = 2
    ·have H := HS_.out
     clear HS_; rw [if_pos c28] at H; have c28b0 := beq_iff_eq.mpr c28; have c28b1 := bne_eq_false_iff_eq.mpr c28; clear c28; have H' := am_ H; clear H
     go_wp2_with (first | ((with_reducible refine gate_callee (f := 62) rfl ?_); refine gZ 7 Try.func62 #[.pointer (some ⟨g, 0, none⟩), .int .i64 40] ?_; (with_reducible refine (spec_l01Next.calls g s0_0 t477 t478 40 t479 t480 t481 w0 _ ?_ ?_ A3.out).mono ?_); exact Zak; exact Zal; rintro e w30 ⟨rfl, hi, hb, hk⟩; refine ⟨_, rfl, ?_⟩; replace HO476 := (hoZ (IsS116.apart (show IsS116 w0 _ g s0_0 t477 t478 from Zak) (Zr HO476) (by decide)) hk); replace HK := am_ (KeepBut.trans Zam hk (.inl rfl)); replace HB := am_ (hb); replace HI0 := am_ (hi); clear hb hk hi))
     go_loopg [3] k (fun kq v3 w' => ∃ (x3_1 : List (S104)) (x1001_1 : Int) (x1002_1 : Int), Aside0 (spec_l07Draw.l0 kq x3_1 s0_0 x1001_1 x1002_1 = some (r1, r2, r3)) ∧ Aside0 (kq ≤ k) ∧ Aside0 (Kd.R k104 104 w' w.heap.size (fun _ => True) v3 x3_1) ∧ Aside0 (IsS116 w0 w' g s0_0 x1001_1 x1002_1) ∧ Aside0 (KeepBut w w' g none) ∧ Aside0 (Below w0.heap.size w0 w'))
     case atStart => exact ⟨(t474), (t480), (t481), H', ⟨Nat.le_refl _⟩, ⟨(Zr HO476)⟩, ⟨Zak⟩, ⟨Zam⟩, ⟨Zal⟩⟩
     case round =>
      clear H'
      try clear c1
      try clear p1
      try clear q1
      try clear hx1
      try clear qi1
      try clear hf1
      try clear c2
      try clear p2
      try clear hx2
      try clear hf2
      try clear c4
      try clear c4b0
      try clear c4b1
      try clear c6
      try clear c6b0
      try clear c6b1
      try clear c7
      try clear p7
      try clear q7
      try clear hx7
      try clear qi7
      try clear hf7
      try clear c9
      try clear c10
      try clear c14
      try clear hx14
      try clear hf14
      try clear c16
      try clear c16b0
      try clear c16b1
      try clear c18
      try clear c18b0
      try clear c18b1
      try clear c19
      try clear p19
      try clear q19
      try clear hx19
      try clear qi19
      try clear hf19
      try clear c26
      try clear hx26
      try clear hf26
      try clear c28
      try clear c28b0
      try clear c28b1
      try clear hx14_0
      try clear hx19_0
      try clear hx19_1
      try clear hx26_1
      try clear hx7_0
      try clear hx7_1
      try clear p19
      try clear p7
      try clear q19
      try clear q7
      obtain ⟨x3_1, x1001_1, x1002_1, HA, HK1, HO_3, HI0, HK, HB⟩ := hrel
      cases gk with
      | zero => exact absurd HA.out (by simp [spec_l07Draw.l0])
      | succ k1 =>
       have H := HA.out; clear HA; simp only [spec_l07Draw.l0] at H; replace H := Option.bind_eq_some_iff.mp H; obtain ⟨⟨t496, t497, t498⟩, A310, H⟩ := H
       dsimp only at H
       have A31 := am_ A310; clear A310; have HS_ := am_ H; clear H; obtain ⟨Ao34, co34, eo34⟩ := Kd.R_slice HO_3.out; subst eo34
       go_wp2_with (first | ((with_reducible refine gate_callee (f := 62) rfl ?_); refine gZ 29 Try.func62 #[.pointer (some ⟨g, 0, none⟩), .int .i64 2] ?_; (with_reducible refine (spec_l01Next.calls g s0_0 x1001_1 x1002_1 2 t496 t497 t498 w0 _ ?_ ?_ A31.out).mono ?_); exact Zak; exact Zal; rintro e w35 ⟨rfl, hi, hb, hk⟩; refine ⟨_, rfl, ?_⟩; replace HO_3 := (hoZ (IsS116.apart (show IsS116 w0 _ g s0_0 x1001_1 x1002_1 from Zak) (Zr HO_3) (by decide)) hk); replace HK := am_ (KeepBut.trans Zam hk (.inl rfl)); replace HB := am_ (hb); replace HI0 := am_ (hi); clear hb hk hi; refine ?roundEnd))
       case roundEnd =>
        by_cases c32 : (x3_1.length : Int) < (wrap64 (20 + t496))
        ·have H := HS_.out
         clear HS_; rw [if_pos c32] at H; have c32b0 := decide_eq_true c32; clear c32
         by_cases c33 : x3_1.length < 8796093022208
         ·rw [if_pos c33] at H
          have LMc33 := am_ c33; clear c33; obtain ⟨y499, hy499⟩ : ∃ y_ : List (S104), y_ = (x3_1 ++ [(⟨4, 500⟩ : S104)]) := ⟨_, rfl⟩
          (first | (rw [← hy499] at H; with_reducible replace H := bindZ H) | rw [← hy499] at H | skip)
          have Ny499 := am_ hy499; clear hy499; have H' := am_ H; clear H
          go_wp2_with (first | ((with_reducible refine gate_builtin (b := .append) (xs := #[.tmp 32, .tmp 34]) rfl ?_); at_builtin; refine Kd.R_append k104 w.heap.size rfl (.tmp 32) (.tmp 34) 31 104 (.agg #[(.int .i64 0), (.int .i64 0)]) 16 rfl Try.underlying31 info104 rfl (by decide) (by omega) (.slice Ao34 x3_1.length co34) x3_1 (⟨4, 500⟩ : S104) [.int .i64 4, .int .i64 500] (fun _ => True) (fun _ => False) rfl rfl ?aP (fun _ hk => hk.elim) ?aF ?aO (Below.refl _ _) ?aS ?aL ?_; (case aP => exact k104_mkM _ _ _ (⟨4, 500⟩ : S104)); (case aF => exact (fun _ _ => trivial)); (case aO => exact (Zr HO_3)); (case aS => exact (keep_size (w := w) (g := g) (row := none) Zam)); (case aL => have := LMc33.out; omega); intro v500 w36 ho hb hg hat; rw [← Ny499.out] at ho; replace HB := am_ (below_weaken Zal HL.out hb); replace HI0 := am_ (IsS116.grown Zak hg (IsS116.own_ne HI0.out HO_3.out (by decide))); replace HK := am_ (KeepBut.trans Zam (KeepBut.of_grown hg g) (Kd.R_base2 HO_3.out)); replace HO501 := am_ (ho); clear HO_3; clear ho hb hg hat))
          go_roundg k1
          case measure => have := HK1.out; omega
          case rel => exact ⟨(y499), (t497), (t498), H', ⟨Zd⟩, ⟨(Zr HO501)⟩, ⟨Zak⟩, ⟨Zam⟩, ⟨Zal⟩⟩
         ·rw [if_neg c33] at H
          exact absurd H (by simp)
        ·have H := HS_.out
         clear HS_; rw [if_neg c32] at H; have c32b0 := decide_eq_false c32; clear c32; simp only [Option.some.injEq, Prod.mk.injEq] at H; obtain ⟨rfl, rfl, rfl⟩ := H
         go_wp2_with (first | fail)
         go_ret
         exact ⟨_, Zl, (Zr HO_3), Zak, Zal, Zam⟩
    ·have H := HS_.out
     clear HS_; rw [if_neg c28] at H; have c28b0 := beq_eq_false_iff_ne.mpr c28; have c28b1 := bne_iff_ne.mpr c28; have HS_ := am_ H; clear H
     by_cases c39 : t479 = 3
     ·have H := HS_.out
      clear HS_; rw [if_pos c39] at H; have c39b0 := beq_iff_eq.mpr c39; have c39b1 := bne_eq_false_iff_eq.mpr c39; clear c39
      by_cases c40 : 0 ≤ (t474.length : Int)
      ·rw [if_pos c40] at H
       have c40b0 := eq_true c40; have c40b1 := decide_eq_true c40; clear c40; obtain ⟨y502, hy502⟩ : ∃ y_ : List (S104), y_ = (t474.take (0 : Int).toNat) := ⟨_, rfl⟩
       (first | (rw [← hy502] at H; with_reducible replace H := bindZ H) | rw [← hy502] at H | skip)
       have Ny502 := am_ hy502; clear hy502; simp only [Option.some.injEq, Prod.mk.injEq] at H; obtain ⟨rfl, rfl, rfl⟩ := H
       go_wp2_with (first | ((with_reducible refine gate_callee (f := 62) rfl ?_); refine gZ 7 Try.func62 #[.pointer (some ⟨g, 0, none⟩), .int .i64 40] ?_; (with_reducible refine (spec_l01Next.calls g s0_0 t477 t478 40 t479 t480 t481 w0 _ ?_ ?_ A3.out).mono ?_); exact Zak; exact Zal; rintro e w42 ⟨rfl, hi, hb, hk⟩; refine ⟨_, rfl, ?_⟩; replace HO476 := (hoZ (IsS116.apart (show IsS116 w0 _ g s0_0 t477 t478 from Zak) (Zr HO476) (by decide)) hk); replace HK := am_ (KeepBut.trans Zam hk (.inl rfl)); replace HB := am_ (hb); replace HI0 := am_ (hi); clear hb hk hi; obtain ⟨Ao43, co43, eo43⟩ := Kd.R_slice HO476.out; subst eo43; have q44 : (0 : Int) ≤ ((t474.length : Int) : Int) := of_decide_eq_true Zc; obtain ⟨i044, hi044, _, hsz44, _⟩ := info_parts info104; have hcut44 := cut_to (P := Try.prog) 31 104 .i64 Try.underlying31 hi044 Ao43 t474.length co43 0 (by omega) q44 (Kd.R_reads' HO476.out).2.1; have hr44 := Kd.R_take (m := (0 : Int).toNat) HO476.out (by omega); have hy44 : y502.length = (0 : Int).toNat := (by rw [Ny502.out, List.length_take]; omega); rw [← Ny502.out] at hr44; rw [← hy44] at hr44 hcut44; clear hy44 hi044 hsz44 HO476; have HO504 := am_ hr44; clear hr44; replace q44 := eq_true q44))
       go_ret
       exact ⟨_, Zl, (Zr HO504), Zak, Zal, Zam⟩
      ·rw [if_neg c40] at H
       exact absurd H (by simp)
     ·have H := HS_.out
      clear HS_; rw [if_neg c39] at H; have c39b0 := beq_eq_false_iff_ne.mpr c39; have c39b1 := bne_iff_ne.mpr c39; simp only [Option.some.injEq, Prod.mk.injEq] at H; obtain ⟨rfl, rfl, rfl⟩ := H
      go_wp2_with (first | ((with_reducible refine gate_callee (f := 62) rfl ?_); refine gZ 7 Try.func62 #[.pointer (some ⟨g, 0, none⟩), .int .i64 40] ?_; (with_reducible refine (spec_l01Next.calls g s0_0 t477 t478 40 t479 t480 t481 w0 _ ?_ ?_ A3.out).mono ?_); exact Zak; exact Zal; rintro e w46 ⟨rfl, hi, hb, hk⟩; refine ⟨_, rfl, ?_⟩; replace HO476 := (hoZ (IsS116.apart (show IsS116 w0 _ g s0_0 t477 t478 from Zak) (Zr HO476) (by decide)) hk); replace HK := am_ (KeepBut.trans Zam hk (.inl rfl)); replace HB := am_ (hb); replace HI0 := am_ (hi); clear hb hk hi))
      go_ret
      exact ⟨_, Zl, (Zr HO476), Zak, Zal, Zam⟩
def spec_l01Good.f (s0_0 : List Int) (s0_1 : Int) (s0_2 : Int) : Option (ByteArray × Int × Int) := (some (([(⟨#[97, 100, 97]⟩ : ByteArray), (⟨#[98, 114, 117, 110, 111]⟩ : ByteArray), (⟨#[99, 108, 97, 114, 97]⟩ : ByteArray), (⟨#[100, 111, 114, 97]⟩ : ByteArray), (⟨#[101, 109, 105, 108]⟩ : ByteArray), (⟨#[102, 114, 105, 100, 97]⟩ : ByteArray), (⟨#[103, 117, 115, 116, 97, 118]⟩ : ByteArray), (⟨#[104, 97, 110, 110, 97]⟩ : ByteArray), (⟨#[105, 118, 97, 110]⟩ : ByteArray), (⟨#[106, 97, 110, 97]⟩ : ByteArray), (⟨#[107, 97, 114, 108]⟩ : ByteArray), (⟨#[108, 101, 110, 97]⟩ : ByteArray)] : List ByteArray) : List ByteArray)).bind fun y505 => ((spec_l01Next.f s0_0 s0_1 s0_2 12).bind fun bt508 => (if 0 ≤ bt508.1 then (if bt508.1 < (y505.length : Int) then (some (rdOf ByteArray.empty y505 bt508.1, bt508.2.1, bt508.2.2)) else (none)) else (none)))
set_option maxHeartbeats 8000000 in
set_option maxRecDepth 100000 in
theorem spec_l01Good.calls (g : Nat) (s0_0 : List Int) (s0_1 : Int) (s0_2 : Int) (r1 : ByteArray) (r2 : Int) (r3 : Int) (w0 w : World) (hI : IsS116 w0 w g s0_0 s0_1 s0_2) (hB : Below w0.heap.size w0 w) (h : spec_l01Good.f s0_0 s0_1 s0_2 = some (r1, r2, r3)) :
  Calls Try.prog 117 #[.pointer (some ⟨g, 0, none⟩)] w fun e w' => e = .returned (.string r1) ∧ IsS116 w0 w' g s0_0 r2 r3 ∧ Below w0.heap.size w0 w' ∧ KeepBut w w' g none := by
 have HI0 := am_ hI; have HK := am_ (KeepBut.refl w g none); have HL := am_ hB.size; clear hI; have HW0 := am_ hB.size; have HB := am_ hB; clear hB; have H : ((some (([(⟨#[97, 100, 97]⟩ : ByteArray), (⟨#[98, 114, 117, 110, 111]⟩ : ByteArray), (⟨#[99, 108, 97, 114, 97]⟩ : ByteArray), (⟨#[100, 111, 114, 97]⟩ : ByteArray), (⟨#[101, 109, 105, 108]⟩ : ByteArray), (⟨#[102, 114, 105, 100, 97]⟩ : ByteArray), (⟨#[103, 117, 115, 116, 97, 118]⟩ : ByteArray), (⟨#[104, 97, 110, 110, 97]⟩ : ByteArray), (⟨#[105, 118, 97, 110]⟩ : ByteArray), (⟨#[106, 97, 110, 97]⟩ : ByteArray), (⟨#[107, 97, 114, 108]⟩ : ByteArray), (⟨#[108, 101, 110, 97]⟩ : ByteArray)] : List ByteArray) : List ByteArray)).bind fun y505 => ((spec_l01Next.f s0_0 s0_1 s0_2 12).bind fun bt508 => (if 0 ≤ bt508.1 then (if bt508.1 < (y505.length : Int) then (some (rdOf ByteArray.empty y505 bt508.1, bt508.2.1, bt508.2.2)) else (none)) else (none)))) = some (r1, r2, r3) := h; clear h; obtain ⟨y505, hy505⟩ : ∃ y_ : List ByteArray, y_ = (([(⟨#[97, 100, 97]⟩ : ByteArray), (⟨#[98, 114, 117, 110, 111]⟩ : ByteArray), (⟨#[99, 108, 97, 114, 97]⟩ : ByteArray), (⟨#[100, 111, 114, 97]⟩ : ByteArray), (⟨#[101, 109, 105, 108]⟩ : ByteArray), (⟨#[102, 114, 105, 100, 97]⟩ : ByteArray), (⟨#[103, 117, 115, 116, 97, 118]⟩ : ByteArray), (⟨#[104, 97, 110, 110, 97]⟩ : ByteArray), (⟨#[105, 118, 97, 110]⟩ : ByteArray), (⟨#[106, 97, 110, 97]⟩ : ByteArray), (⟨#[107, 97, 114, 108]⟩ : ByteArray), (⟨#[108, 101, 110, 97]⟩ : ByteArray)] : List ByteArray)) := ⟨_, rfl⟩
 (first | (rw [← hy505] at H; with_reducible replace H := bindZ H) | rw [← hy505] at H | skip)
 have Ny505 := am_ hy505; clear hy505; replace H := Option.bind_eq_some_iff.mp H; obtain ⟨⟨t508, t509, t510⟩, A20, H⟩ := H
 dsimp only at H
 have A2 := am_ A20; clear A20
 by_cases c3 : 0 ≤ t508
 ·rw [if_pos c3] at H
  have c3b0 := decide_eq_true c3; clear c3
  by_cases c4 : t508 < (y505.length : Int)
  ·rw [if_pos c4] at H
   have c4b0 := decide_eq_true c4; clear c4; simp only [Option.some.injEq, Prod.mk.injEq] at H; obtain ⟨rfl, rfl, rfl⟩ := H
   go_enter Try.func117, Try.ntmps117
   go_wp2_with (first | ((with_reducible refine gate_dst (N := 3) rfl ?_); refine Kd.R_lit Kd.string _ 9 ?hg (N := 3) ?hd (xs := ([(⟨#[97, 100, 97]⟩ : ByteArray), (⟨#[98, 114, 117, 110, 111]⟩ : ByteArray), (⟨#[99, 108, 97, 114, 97]⟩ : ByteArray), (⟨#[100, 111, 114, 97]⟩ : ByteArray), (⟨#[101, 109, 105, 108]⟩ : ByteArray), (⟨#[102, 114, 105, 100, 97]⟩ : ByteArray), (⟨#[103, 117, 115, 116, 97, 118]⟩ : ByteArray), (⟨#[104, 97, 110, 110, 97]⟩ : ByteArray), (⟨#[105, 118, 97, 110]⟩ : ByteArray), (⟨#[106, 97, 110, 97]⟩ : ByteArray), (⟨#[107, 97, 114, 108]⟩ : ByteArray), (⟨#[108, 101, 110, 97]⟩ : ByteArray)] : List ByteArray)) (inner := [.string (⟨#[97, 100, 97]⟩ : ByteArray), .string (⟨#[98, 114, 117, 110, 111]⟩ : ByteArray), .string (⟨#[99, 108, 97, 114, 97]⟩ : ByteArray), .string (⟨#[100, 111, 114, 97]⟩ : ByteArray), .string (⟨#[101, 109, 105, 108]⟩ : ByteArray), .string (⟨#[102, 114, 105, 100, 97]⟩ : ByteArray), .string (⟨#[103, 117, 115, 116, 97, 118]⟩ : ByteArray), .string (⟨#[104, 97, 110, 110, 97]⟩ : ByteArray), .string (⟨#[105, 118, 97, 110]⟩ : ByteArray), .string (⟨#[106, 97, 110, 97]⟩ : ByteArray), .string (⟨#[107, 97, 114, 108]⟩ : ByteArray), .string (⟨#[108, 101, 110, 97]⟩ : ByteArray)]) (ok := fun _ => True) (okp := fun _ => True) ?hr ?hp (fun _ hk => hk) trivial (Below.refl _ _) (Nat.le_refl _) (by simp) ?_; (case hd => rfl); (case hg => rfl); (case hr => first | (go_simp; done) | (go_simp; rfl)); (case hp => exact (Reps.one (show Kd.M Kd.string _ _ _ (⟨#[97, 100, 97]⟩ : ByteArray) [.string (⟨#[97, 100, 97]⟩ : ByteArray)] from rfl) (Reps.one (show Kd.M Kd.string _ _ _ (⟨#[98, 114, 117, 110, 111]⟩ : ByteArray) [.string (⟨#[98, 114, 117, 110, 111]⟩ : ByteArray)] from rfl) (Reps.one (show Kd.M Kd.string _ _ _ (⟨#[99, 108, 97, 114, 97]⟩ : ByteArray) [.string (⟨#[99, 108, 97, 114, 97]⟩ : ByteArray)] from rfl) (Reps.one (show Kd.M Kd.string _ _ _ (⟨#[100, 111, 114, 97]⟩ : ByteArray) [.string (⟨#[100, 111, 114, 97]⟩ : ByteArray)] from rfl) (Reps.one (show Kd.M Kd.string _ _ _ (⟨#[101, 109, 105, 108]⟩ : ByteArray) [.string (⟨#[101, 109, 105, 108]⟩ : ByteArray)] from rfl) (Reps.one (show Kd.M Kd.string _ _ _ (⟨#[102, 114, 105, 100, 97]⟩ : ByteArray) [.string (⟨#[102, 114, 105, 100, 97]⟩ : ByteArray)] from rfl) (Reps.one (show Kd.M Kd.string _ _ _ (⟨#[103, 117, 115, 116, 97, 118]⟩ : ByteArray) [.string (⟨#[103, 117, 115, 116, 97, 118]⟩ : ByteArray)] from rfl) (Reps.one (show Kd.M Kd.string _ _ _ (⟨#[104, 97, 110, 110, 97]⟩ : ByteArray) [.string (⟨#[104, 97, 110, 110, 97]⟩ : ByteArray)] from rfl) (Reps.one (show Kd.M Kd.string _ _ _ (⟨#[105, 118, 97, 110]⟩ : ByteArray) [.string (⟨#[105, 118, 97, 110]⟩ : ByteArray)] from rfl) (Reps.one (show Kd.M Kd.string _ _ _ (⟨#[106, 97, 110, 97]⟩ : ByteArray) [.string (⟨#[106, 97, 110, 97]⟩ : ByteArray)] from rfl) (Reps.one (show Kd.M Kd.string _ _ _ (⟨#[107, 97, 114, 108]⟩ : ByteArray) [.string (⟨#[107, 97, 114, 108]⟩ : ByteArray)] from rfl) (Reps.one (show Kd.M Kd.string _ _ _ (⟨#[108, 101, 110, 97]⟩ : ByteArray) [.string (⟨#[108, 101, 110, 97]⟩ : ByteArray)] from rfl) (Reps.none _ _)))))))))))))); intro v506 w5 ho6 hb hg_ hnew_; clear hg_ hnew_; (first | rw [← Ny505.out] at ho6 | (simp only [Int.reduceToNat] at ho6; rw [← Ny505.out] at ho6)); replace HO507 := am_ (Kd.R_lower ho6 (keep_size (w := w) (g := g) (row := none) Zam)); replace HK := am_ (KeepBut.trans Zam (KeepBut.of_below hb g none) (.inl rfl)); replace HB := (bsZ Zal hb); replace HI0 := am_ (IsS116.below Zak hb); clear hb ho6) | ((with_reducible refine gate_callee (f := 62) rfl ?_); refine gZ 5 Try.func62 #[.pointer (some ⟨g, 0, none⟩), .int .i64 12] ?_; (with_reducible refine (spec_l01Next.calls g s0_0 s0_1 s0_2 12 t508 t509 t510 w0 _ ?_ ?_ A2.out).mono ?_); exact Zak; exact Zal; rintro e w7 ⟨rfl, hi, hb, hk⟩; refine ⟨_, rfl, ?_⟩; replace HO507 := (hoZ (IsS116.apart (show IsS116 w0 _ g s0_0 s0_1 s0_2 from Zak) (Zr HO507) (by decide)) hk); replace HK := am_ (KeepBut.trans Zam hk (.inl rfl)); replace HB := am_ (hb); replace HI0 := am_ (hi); clear hb hk hi; obtain ⟨Ao8, co8, eo8⟩ := Kd.R_slice HO507.out; subst eo8; have p511 : 0 ≤ (t508 : Int) := of_decide_eq_true Zc; have q511 : t508 < (y505.length : Int) := of_decide_eq_true Zc; obtain ⟨ad511, e511, hx511_0⟩ := Kd.at_string (Kd.R_reads' HO507.out).2.2 t508 p511 q511; cases e511; replace p511 := eq_true p511; replace q511 := eq_true q511))
   go_ret
   exact ⟨Zl, Zak, Zal, Zam⟩
  ·rw [if_neg c4] at H
   exact absurd H (by simp)
 ·rw [if_neg c3] at H
  exact absurd H (by simp)
def spec_l01DrawWord.f (s0_0 : List Int) (s0_1 : Int) (s0_2 : Int) : Option (ByteArray × Int × Int) := (spec_l01Next.f s0_0 s0_1 s0_2 24).bind fun bt512 => (if bt512.1 = 0 then ((some (([(⟨#[]⟩ : ByteArray), (⟨#[65, 100, 97]⟩ : ByteArray), (⟨#[97, 49]⟩ : ByteArray), (⟨#[97, 98, 99, 100, 101, 102, 103, 104, 105, 106, 107, 108, 109, 110, 111, 112]⟩ : ByteArray), (⟨#[97, 98, 99, 100, 101, 102, 103, 104, 105, 106, 107, 108, 109, 110, 111, 112, 113]⟩ : ByteArray), (⟨#[97, 32, 98]⟩ : ByteArray)] : List ByteArray) : List ByteArray)).bind fun y515 => ((spec_l01Next.f s0_0 bt512.2.1 bt512.2.2 6).bind fun bt518 => (if 0 ≤ bt518.1 then (if bt518.1 < (y515.length : Int) then (some (rdOf ByteArray.empty y515 bt518.1, bt518.2.1, bt518.2.2)) else (none)) else (none)))) else ((spec_l01Good.f s0_0 bt512.2.1 bt512.2.2).bind fun bt522 => (some (bt522.1, bt522.2.1, bt522.2.2))))
set_option maxHeartbeats 8000000 in
set_option maxRecDepth 100000 in
theorem spec_l01DrawWord.calls (g : Nat) (s0_0 : List Int) (s0_1 : Int) (s0_2 : Int) (r1 : ByteArray) (r2 : Int) (r3 : Int) (w0 w : World) (hI : IsS116 w0 w g s0_0 s0_1 s0_2) (hB : Below w0.heap.size w0 w) (h : spec_l01DrawWord.f s0_0 s0_1 s0_2 = some (r1, r2, r3)) :
  Calls Try.prog 116 #[.pointer (some ⟨g, 0, none⟩)] w fun e w' => e = .returned (.string r1) ∧ IsS116 w0 w' g s0_0 r2 r3 ∧ Below w0.heap.size w0 w' ∧ KeepBut w w' g none := by
 have HI0 := am_ hI; have HK := am_ (KeepBut.refl w g none); have HL := am_ hB.size; clear hI; have HW0 := am_ hB.size; have HB := am_ hB; clear hB; have H : ((spec_l01Next.f s0_0 s0_1 s0_2 24).bind fun bt512 => (if bt512.1 = 0 then ((some (([(⟨#[]⟩ : ByteArray), (⟨#[65, 100, 97]⟩ : ByteArray), (⟨#[97, 49]⟩ : ByteArray), (⟨#[97, 98, 99, 100, 101, 102, 103, 104, 105, 106, 107, 108, 109, 110, 111, 112]⟩ : ByteArray), (⟨#[97, 98, 99, 100, 101, 102, 103, 104, 105, 106, 107, 108, 109, 110, 111, 112, 113]⟩ : ByteArray), (⟨#[97, 32, 98]⟩ : ByteArray)] : List ByteArray) : List ByteArray)).bind fun y515 => ((spec_l01Next.f s0_0 bt512.2.1 bt512.2.2 6).bind fun bt518 => (if 0 ≤ bt518.1 then (if bt518.1 < (y515.length : Int) then (some (rdOf ByteArray.empty y515 bt518.1, bt518.2.1, bt518.2.2)) else (none)) else (none)))) else ((spec_l01Good.f s0_0 bt512.2.1 bt512.2.2).bind fun bt522 => (some (bt522.1, bt522.2.1, bt522.2.2))))) = some (r1, r2, r3) := h; clear h; replace H := Option.bind_eq_some_iff.mp H; obtain ⟨⟨t512, t513, t514⟩, A20, H⟩ := H
 dsimp only at H
 have A2 := am_ A20; clear A20; have HS_ := am_ H; clear H
 go_enter Try.func116, Try.ntmps116
 go_wp2_with (first | ((with_reducible refine gate_callee (f := 62) rfl ?_); refine gZ 4 Try.func62 #[.pointer (some ⟨g, 0, none⟩), .int .i64 24] ?_; (with_reducible refine (spec_l01Next.calls g s0_0 s0_1 s0_2 24 t512 t513 t514 w0 _ ?_ ?_ A2.out).mono ?_); exact Zak; exact Zal; rintro e w7 ⟨rfl, hi, hb, hk⟩; refine ⟨_, rfl, ?_⟩; replace HK := am_ (KeepBut.trans Zam hk (.inl rfl)); replace HB := am_ (hb); replace HI0 := am_ (hi); clear hb hk hi; refine ?roundEnd))
 case roundEnd =>
  by_cases c3 : t512 = 0
  ·have H := HS_.out
   clear HS_; rw [if_pos c3] at H; have c3b0 := beq_iff_eq.mpr c3; have c3b1 := bne_eq_false_iff_eq.mpr c3; clear c3; obtain ⟨y515, hy515⟩ : ∃ y_ : List ByteArray, y_ = (([(⟨#[]⟩ : ByteArray), (⟨#[65, 100, 97]⟩ : ByteArray), (⟨#[97, 49]⟩ : ByteArray), (⟨#[97, 98, 99, 100, 101, 102, 103, 104, 105, 106, 107, 108, 109, 110, 111, 112]⟩ : ByteArray), (⟨#[97, 98, 99, 100, 101, 102, 103, 104, 105, 106, 107, 108, 109, 110, 111, 112, 113]⟩ : ByteArray), (⟨#[97, 32, 98]⟩ : ByteArray)] : List ByteArray)) := ⟨_, rfl⟩
   (first | (rw [← hy515] at H; with_reducible replace H := bindZ H) | rw [← hy515] at H | skip)
   have Ny515 := am_ hy515; clear hy515; replace H := Option.bind_eq_some_iff.mp H; obtain ⟨⟨t518, t519, t520⟩, A40, H⟩ := H
   dsimp only at H
   have A4 := am_ A40; clear A40
   by_cases c5 : 0 ≤ t518
   ·rw [if_pos c5] at H
    have c5b0 := decide_eq_true c5; clear c5
    by_cases c6 : t518 < (y515.length : Int)
    ·rw [if_pos c6] at H
     have c6b0 := decide_eq_true c6; clear c6; simp only [Option.some.injEq, Prod.mk.injEq] at H; obtain ⟨rfl, rfl, rfl⟩ := H
     go_wp2_with (first | ((with_reducible refine gate_dst (N := 6) rfl ?_); refine Kd.R_lit Kd.string _ 9 ?hg (N := 6) ?hd (xs := ([(⟨#[]⟩ : ByteArray), (⟨#[65, 100, 97]⟩ : ByteArray), (⟨#[97, 49]⟩ : ByteArray), (⟨#[97, 98, 99, 100, 101, 102, 103, 104, 105, 106, 107, 108, 109, 110, 111, 112]⟩ : ByteArray), (⟨#[97, 98, 99, 100, 101, 102, 103, 104, 105, 106, 107, 108, 109, 110, 111, 112, 113]⟩ : ByteArray), (⟨#[97, 32, 98]⟩ : ByteArray)] : List ByteArray)) (inner := [.string (⟨#[]⟩ : ByteArray), .string (⟨#[65, 100, 97]⟩ : ByteArray), .string (⟨#[97, 49]⟩ : ByteArray), .string (⟨#[97, 98, 99, 100, 101, 102, 103, 104, 105, 106, 107, 108, 109, 110, 111, 112]⟩ : ByteArray), .string (⟨#[97, 98, 99, 100, 101, 102, 103, 104, 105, 106, 107, 108, 109, 110, 111, 112, 113]⟩ : ByteArray), .string (⟨#[97, 32, 98]⟩ : ByteArray)]) (ok := fun _ => True) (okp := fun _ => True) ?hr ?hp (fun _ hk => hk) trivial (Below.refl _ _) (Nat.le_refl _) (by simp) ?_; (case hd => rfl); (case hg => rfl); (case hr => first | (go_simp; done) | (go_simp; rfl)); (case hp => exact (Reps.one (show Kd.M Kd.string _ _ _ (⟨#[]⟩ : ByteArray) [.string (⟨#[]⟩ : ByteArray)] from rfl) (Reps.one (show Kd.M Kd.string _ _ _ (⟨#[65, 100, 97]⟩ : ByteArray) [.string (⟨#[65, 100, 97]⟩ : ByteArray)] from rfl) (Reps.one (show Kd.M Kd.string _ _ _ (⟨#[97, 49]⟩ : ByteArray) [.string (⟨#[97, 49]⟩ : ByteArray)] from rfl) (Reps.one (show Kd.M Kd.string _ _ _ (⟨#[97, 98, 99, 100, 101, 102, 103, 104, 105, 106, 107, 108, 109, 110, 111, 112]⟩ : ByteArray) [.string (⟨#[97, 98, 99, 100, 101, 102, 103, 104, 105, 106, 107, 108, 109, 110, 111, 112]⟩ : ByteArray)] from rfl) (Reps.one (show Kd.M Kd.string _ _ _ (⟨#[97, 98, 99, 100, 101, 102, 103, 104, 105, 106, 107, 108, 109, 110, 111, 112, 113]⟩ : ByteArray) [.string (⟨#[97, 98, 99, 100, 101, 102, 103, 104, 105, 106, 107, 108, 109, 110, 111, 112, 113]⟩ : ByteArray)] from rfl) (Reps.one (show Kd.M Kd.string _ _ _ (⟨#[97, 32, 98]⟩ : ByteArray) [.string (⟨#[97, 32, 98]⟩ : ByteArray)] from rfl) (Reps.none _ _)))))))); intro v516 w8 ho9 hb hg_ hnew_; clear hg_ hnew_; (first | rw [← Ny515.out] at ho9 | (simp only [Int.reduceToNat] at ho9; rw [← Ny515.out] at ho9)); replace HO517 := am_ (Kd.R_lower ho9 (keep_size (w := w) (g := g) (row := none) Zam)); replace HK := am_ (KeepBut.trans Zam (KeepBut.of_below hb g none) (.inl rfl)); replace HB := (bsZ Zal hb); replace HI0 := am_ (IsS116.below Zak hb); clear hb ho9) | ((with_reducible refine gate_callee (f := 62) rfl ?_); refine gZ 8 Try.func62 #[.pointer (some ⟨g, 0, none⟩), .int .i64 6] ?_; (with_reducible refine (spec_l01Next.calls g s0_0 t513 t514 6 t518 t519 t520 w0 _ ?_ ?_ A4.out).mono ?_); exact Zak; exact Zal; rintro e w10 ⟨rfl, hi, hb, hk⟩; refine ⟨_, rfl, ?_⟩; replace HO517 := (hoZ (IsS116.apart (show IsS116 w0 _ g s0_0 t513 t514 from Zak) (Zr HO517) (by decide)) hk); replace HK := am_ (KeepBut.trans Zam hk (.inl rfl)); replace HB := am_ (hb); replace HI0 := am_ (hi); clear hb hk hi; obtain ⟨Ao11, co11, eo11⟩ := Kd.R_slice HO517.out; subst eo11; have p521 : 0 ≤ (t518 : Int) := of_decide_eq_true Zc; have q521 : t518 < (y515.length : Int) := of_decide_eq_true Zc; obtain ⟨ad521, e521, hx521_0⟩ := Kd.at_string (Kd.R_reads' HO517.out).2.2 t518 p521 q521; cases e521; replace p521 := eq_true p521; replace q521 := eq_true q521))
     go_ret
     exact ⟨Zl, Zak, Zal, Zam⟩
    ·rw [if_neg c6] at H
     exact absurd H (by simp)
   ·rw [if_neg c5] at H
    exact absurd H (by simp)
  ·have H := HS_.out
   clear HS_; rw [if_neg c3] at H; have c3b0 := beq_eq_false_iff_ne.mpr c3; have c3b1 := bne_iff_ne.mpr c3; replace H := Option.bind_eq_some_iff.mp H; obtain ⟨⟨t522, t523, t524⟩, A120, H⟩ := H
   dsimp only at H
   have A12 := am_ A120; clear A120; simp only [Option.some.injEq, Prod.mk.injEq] at H; obtain ⟨rfl, rfl, rfl⟩ := H
   go_wp2_with (first | ((with_reducible refine gate_callee (f := 117) rfl ?_); refine gZ 12 Try.func117 #[.pointer (some ⟨g, 0, none⟩)] ?_; (with_reducible refine (spec_l01Good.calls g s0_0 t513 t514 t522 t523 t524 w0 _ ?_ ?_ A12.out).mono ?_); exact Zak; exact Zal; rintro e w14 ⟨rfl, hi, hb, hk⟩; refine ⟨_, rfl, ?_⟩; replace HK := am_ (KeepBut.trans Zam hk (.inl rfl)); replace HB := am_ (hb); replace HI0 := am_ (hi); clear hb hk hi))
   go_ret
   exact ⟨Zl, Zak, Zal, Zam⟩
def spec_l03Draw.f (s0_0 : List Int) (s0_1 : Int) (s0_2 : Int) (a1 : ByteArray) : Option (ByteArray × Int × Int × Int × Int × Int × Int × Int × Int × Int × Int) := (spec_l03Good.f s0_0 s0_1 s0_2 a1).bind fun bt526 => ((spec_l01Next.f s0_0 bt526.2.2.2.2.2.2.2.2.2.1 bt526.2.2.2.2.2.2.2.2.2.2 60).bind fun bt538 => (if bt538.1 = 0 then ((spec_l01Pick.f s0_0 bt538.2.1 bt538.2.2 (([19, 20, 300, 301] : List Int))).bind fun bt544 => (some (bt526.1, bt526.2.1, bt544.1, bt526.2.2.2.1, bt526.2.2.2.2.1, bt526.2.2.2.2.2.1, bt526.2.2.2.2.2.2.1, bt526.2.2.2.2.2.2.2.1, bt526.2.2.2.2.2.2.2.2.1, bt544.2.1, bt544.2.2))) else (if bt538.1 = 1 then ((spec_l01Pick.f s0_0 bt538.2.1 bt538.2.2 (([bt526.2.2.2.1, wrap64 (bt526.2.2.2.1 + 1), (-1)] : List Int))).bind fun bt550 => (some (bt526.1, bt526.2.1, bt526.2.2.1, bt526.2.2.2.1, bt550.1, bt526.2.2.2.2.2.1, bt526.2.2.2.2.2.2.1, bt526.2.2.2.2.2.2.2.1, bt526.2.2.2.2.2.2.2.2.1, bt550.2.1, bt550.2.2))) else (if bt538.1 = 2 then ((spec_l01Pick.f s0_0 bt538.2.1 bt538.2.2 (([0, 50, 51] : List Int))).bind fun bt556 => (some (bt526.1, bt526.2.1, bt526.2.2.1, bt526.2.2.2.1, bt526.2.2.2.2.1, bt556.1, bt526.2.2.2.2.2.2.1, bt526.2.2.2.2.2.2.2.1, bt526.2.2.2.2.2.2.2.2.1, bt556.2.1, bt556.2.2))) else (if bt538.1 = 3 then ((spec_l01DrawWord.f s0_0 bt538.2.1 bt538.2.2).bind fun bt559 => (some (bt559.1, bt526.2.1, bt526.2.2.1, bt526.2.2.2.1, bt526.2.2.2.2.1, bt526.2.2.2.2.2.1, bt526.2.2.2.2.2.2.1, bt526.2.2.2.2.2.2.2.1, bt526.2.2.2.2.2.2.2.2.1, bt559.2.1, bt559.2.2))) else (if bt538.1 = 4 then ((spec_l01Pick.f s0_0 bt538.2.1 bt538.2.2 (([0, 100000, 100001] : List Int))).bind fun bt565 => (some (bt526.1, bt526.2.1, bt526.2.2.1, bt526.2.2.2.1, bt526.2.2.2.2.1, bt526.2.2.2.2.2.1, bt526.2.2.2.2.2.2.1, bt565.1, bt526.2.2.2.2.2.2.2.2.1, bt565.2.1, bt565.2.2))) else (some (bt526.1, bt526.2.1, bt526.2.2.1, bt526.2.2.2.1, bt526.2.2.2.2.1, bt526.2.2.2.2.2.1, bt526.2.2.2.2.2.2.1, bt526.2.2.2.2.2.2.2.1, bt526.2.2.2.2.2.2.2.2.1, bt538.2.1, bt538.2.2))))))))
set_option maxHeartbeats 8000000 in
set_option maxRecDepth 100000 in
theorem spec_l03Draw.calls (g : Nat) (s0_0 : List Int) (s0_1 : Int) (s0_2 : Int) (a1 : ByteArray) (r1 : ByteArray) (r2 : Int) (r3 : Int) (r4 : Int) (r5 : Int) (r6 : Int) (r7 : Int) (r8 : Int) (r9 : Int) (r10 : Int) (r11 : Int) (w0 w : World) (hI : IsS116 w0 w g s0_0 s0_1 s0_2) (hB : Below w0.heap.size w0 w) (h : spec_l03Draw.f s0_0 s0_1 s0_2 a1 = some (r1, r2, r3, r4, r5, r6, r7, r8, r9, r10, r11)) :
  Calls Try.prog 112 #[.pointer (some ⟨g, 0, none⟩), .string a1] w fun e w' => e = .returned (.agg #[.string r1, .int .i64 r2, .int .i64 r3, .int .i64 r4, .int .i64 r5, .int .i64 r6, .int .i64 r7, .int .i64 r8, .int .i64 r9]) ∧ IsS116 w0 w' g s0_0 r10 r11 ∧ Below w0.heap.size w0 w' ∧ KeepBut w w' g none := by
 have hu61 := Try.underlying61; have HI0 := am_ hI; have HK := am_ (KeepBut.refl w g none); have HL := am_ hB.size; clear hI; have HW0 := am_ hB.size; have HB := am_ hB; clear hB; have H : ((spec_l03Good.f s0_0 s0_1 s0_2 a1).bind fun bt526 => ((spec_l01Next.f s0_0 bt526.2.2.2.2.2.2.2.2.2.1 bt526.2.2.2.2.2.2.2.2.2.2 60).bind fun bt538 => (if bt538.1 = 0 then ((spec_l01Pick.f s0_0 bt538.2.1 bt538.2.2 (([19, 20, 300, 301] : List Int))).bind fun bt544 => (some (bt526.1, bt526.2.1, bt544.1, bt526.2.2.2.1, bt526.2.2.2.2.1, bt526.2.2.2.2.2.1, bt526.2.2.2.2.2.2.1, bt526.2.2.2.2.2.2.2.1, bt526.2.2.2.2.2.2.2.2.1, bt544.2.1, bt544.2.2))) else (if bt538.1 = 1 then ((spec_l01Pick.f s0_0 bt538.2.1 bt538.2.2 (([bt526.2.2.2.1, wrap64 (bt526.2.2.2.1 + 1), (-1)] : List Int))).bind fun bt550 => (some (bt526.1, bt526.2.1, bt526.2.2.1, bt526.2.2.2.1, bt550.1, bt526.2.2.2.2.2.1, bt526.2.2.2.2.2.2.1, bt526.2.2.2.2.2.2.2.1, bt526.2.2.2.2.2.2.2.2.1, bt550.2.1, bt550.2.2))) else (if bt538.1 = 2 then ((spec_l01Pick.f s0_0 bt538.2.1 bt538.2.2 (([0, 50, 51] : List Int))).bind fun bt556 => (some (bt526.1, bt526.2.1, bt526.2.2.1, bt526.2.2.2.1, bt526.2.2.2.2.1, bt556.1, bt526.2.2.2.2.2.2.1, bt526.2.2.2.2.2.2.2.1, bt526.2.2.2.2.2.2.2.2.1, bt556.2.1, bt556.2.2))) else (if bt538.1 = 3 then ((spec_l01DrawWord.f s0_0 bt538.2.1 bt538.2.2).bind fun bt559 => (some (bt559.1, bt526.2.1, bt526.2.2.1, bt526.2.2.2.1, bt526.2.2.2.2.1, bt526.2.2.2.2.2.1, bt526.2.2.2.2.2.2.1, bt526.2.2.2.2.2.2.2.1, bt526.2.2.2.2.2.2.2.2.1, bt559.2.1, bt559.2.2))) else (if bt538.1 = 4 then ((spec_l01Pick.f s0_0 bt538.2.1 bt538.2.2 (([0, 100000, 100001] : List Int))).bind fun bt565 => (some (bt526.1, bt526.2.1, bt526.2.2.1, bt526.2.2.2.1, bt526.2.2.2.2.1, bt526.2.2.2.2.2.1, bt526.2.2.2.2.2.2.1, bt565.1, bt526.2.2.2.2.2.2.2.2.1, bt565.2.1, bt565.2.2))) else (some (bt526.1, bt526.2.1, bt526.2.2.1, bt526.2.2.2.1, bt526.2.2.2.2.1, bt526.2.2.2.2.2.1, bt526.2.2.2.2.2.2.1, bt526.2.2.2.2.2.2.2.1, bt526.2.2.2.2.2.2.2.2.1, bt538.2.1, bt538.2.2))))))))) = some (r1, r2, r3, r4, r5, r6, r7, r8, r9, r10, r11) := h; clear h; replace H := Option.bind_eq_some_iff.mp H; obtain ⟨⟨t526, t527, t528, t529, t530, t531, t532, t533, t534, t535, t536⟩, A30, H⟩ := H
 dsimp only at H
 have A3 := am_ A30; clear A30; replace H := Option.bind_eq_some_iff.mp H; obtain ⟨⟨t538, t539, t540⟩, A40, H⟩ := H
 dsimp only at H
 have A4 := am_ A40; clear A40; have HS_ := am_ H; clear H
 go_enter Try.func112, Try.ntmps112
 go_wp2_with (first | ((with_reducible refine gate_dst (N := 4) rfl ?_); refine boxZ 4 #[.string (⟨#[]⟩ : ByteArray), .int .i64 0, .int .i64 0, .int .i64 0, .int .i64 0, .int .i64 0, .int .i64 0, .int .i64 0, .int .i64 0] 61 ?_; intro gb525 hg w7 hbox hb; replace HB := (bsZ Zal hb); replace BK525 := am_ (hbox); replace GW525 := am_ ((Zap : w.heap.size ≤ gb525)); replace GE525 := am_ ((Nat.le_trans HW0.out (Zap : w.heap.size ≤ gb525) : w0.heap.size ≤ gb525)); replace HK := am_ (KeepBut.trans Zam (KeepBut.of_below hb g none) (.inl rfl)); replace NB0_525 := am_ ((Zaq : g ≠ gb525)); replace NB525_0 := am_ ((Zar : gb525 ≠ g)); replace HI0 := am_ (IsS116.below Zak hb); clear hb hbox hg) | ((with_reducible refine gate_callee (f := 110) rfl ?_); refine gZ 8 Try.func110 #[.pointer (some ⟨g, 0, none⟩), .string a1] ?_; (with_reducible refine (spec_l03Good.calls g s0_0 s0_1 s0_2 a1 t526 t527 t528 t529 t530 t531 t532 t533 t534 t535 t536 w0 _ ?_ ?_ A3.out).mono ?_); exact (Zas NB0_525); exact (Zat GE525); rintro e w8 ⟨rfl, hi, hb, hk⟩; refine ⟨_, rfl, ?_⟩; replace BK525 := (kbZ BK525 hk NB525_0); replace HK := am_ (KeepBut.trans (Zau GW525) hk (.inl rfl)); replace HB := am_ (hb); replace HI0 := am_ (hi); clear hb hk hi) | ((with_reducible refine gate_dst (N := 5) rfl ?_); refine boxZ 5 #[.string (⟨#[]⟩ : ByteArray), .int .i64 0, .int .i64 0, .int .i64 0, .int .i64 0, .int .i64 0, .int .i64 0, .int .i64 0, .int .i64 0] 61 ?_; intro gb537 hg w9 hbox hb; replace HB := (bsZ (Zat GE525) hb); replace BK537 := am_ (hbox); replace GW537 := am_ (((Zav GW525) : w.heap.size ≤ gb537)); replace GE537 := am_ ((Nat.le_trans HW0.out ((Zav GW525) : w.heap.size ≤ gb537) : w0.heap.size ≤ gb537)); replace HK := am_ (KeepBut.trans (Zau GW525) (KeepBut.of_below hb g none) (.inl rfl)); replace NB525_537 := am_ ((by rw [hg]; exact Nat.ne_of_lt (blk_lt (g := gb525) (b0Z BK525)) : gb525 ≠ gb537)); replace NB537_525 := am_ ((by rw [hg]; exact Nat.ne_of_gt (blk_lt (g := gb525) (b0Z BK525)) : gb537 ≠ gb525)); replace BK525 := (bkZ BK525 hb); replace NB0_537 := am_ ((by rw [hg]; exact Nat.ne_of_lt (IsS116.lt (show IsS116 w0 _ g s0_0 t535 t536 from (Zas NB0_525))) : g ≠ gb537)); replace NB537_0 := am_ ((by rw [hg]; exact Nat.ne_of_gt (IsS116.lt (show IsS116 w0 _ g s0_0 t535 t536 from (Zas NB0_525))) : gb537 ≠ g)); replace HI0 := am_ (IsS116.below (Zas NB0_525) hb); clear hb hbox hg; have hnb10 := NB537_525.out; have hnc10 := NB525_537.out; have hnb11 := NB537_0.out; have hnc11 := NB0_537.out; refine ci9 BK537 ?_; intros) | ((with_reducible refine gate_callee (f := 62) rfl ?_); refine gZ 10 Try.func62 #[.pointer (some ⟨g, 0, none⟩), .int .i64 60] ?_; (with_reducible refine (spec_l01Next.calls g s0_0 t535 t536 60 t538 t539 t540 w0 _ ?_ ?_ A4.out).mono ?_); exact (Zay NB0_525 NB0_537); exact (Zaz GE525 GE537); rintro e w13 ⟨rfl, hi, hb, hk⟩; refine ⟨_, rfl, ?_⟩; replace BK525 := am_ (KeepBut.blk hk (g' := gb525) (bfZ BK525 NB525_537) NB525_0.out (by simp)); replace BK537 := am_ (KeepBut.blk hk (g' := gb537) (o := .cells #[.string t526, .int .i64 t527, .int .i64 t528, .int .i64 t529, .int .i64 t530, .int .i64 t531, .int .i64 t532, .int .i64 t533, .int .i64 t534] 61 (0, 0)) (bpZ BK537) NB537_0.out (by simp)); replace HK := am_ (KeepBut.trans (Zba GW525 GW537) hk (.inl rfl)); replace HB := am_ (hb); replace HI0 := am_ (hi); clear hb hk hi; refine ?roundEnd))
 case roundEnd =>
  by_cases c5 : t538 = 0
  ·have H := HS_.out
   clear HS_; rw [if_pos c5] at H; have c5b0 := beq_iff_eq.mpr c5; have c5b1 := bne_eq_false_iff_eq.mpr c5; clear c5; obtain ⟨y541, hy541⟩ : ∃ y_ : List Int, y_ = (([19, 20, 300, 301] : List Int)) := ⟨_, rfl⟩
   (first | (rw [← hy541] at H; with_reducible replace H := bindZ H) | rw [← hy541] at H | skip)
   have Ny541 := am_ hy541; clear hy541; replace H := Option.bind_eq_some_iff.mp H; obtain ⟨⟨t544, t545, t546⟩, A60, H⟩ := H
   dsimp only at H
   have A6 := am_ A60; clear A60; simp only [Option.some.injEq, Prod.mk.injEq] at H; obtain ⟨rfl, rfl, rfl, rfl, rfl, rfl, rfl, rfl, rfl, rfl, rfl⟩ := H
   go_wp2_with (first | ((with_reducible refine gate_dst (N := 14) rfl ?_); refine Kd.R_lit (Kd.int .i64) _ 2 ?hg (N := 14) ?hd (xs := ([19, 20, 300, 301] : List Int)) (inner := [.int .i64 19, .int .i64 20, .int .i64 300, .int .i64 301]) (ok := fun _ => True) (okp := fun _ => True) ?hr ?hp (fun _ hk => hk) trivial (Below.refl _ _) (Nat.le_refl _) (by simp) ?_; (case hd => rfl); (case hg => rfl); (case hr => first | (go_simp; done) | (go_simp; rfl)); (case hp => exact (Reps.one (show Kd.M (Kd.int .i64) _ _ _ 19 [.int .i64 19] from rfl) (Reps.one (show Kd.M (Kd.int .i64) _ _ _ 20 [.int .i64 20] from rfl) (Reps.one (show Kd.M (Kd.int .i64) _ _ _ 300 [.int .i64 300] from rfl) (Reps.one (show Kd.M (Kd.int .i64) _ _ _ 301 [.int .i64 301] from rfl) (Reps.none _ _)))))); intro v542 w14 ho15 hb hg_ hnew_; clear hg_ hnew_; (first | rw [← Ny541.out] at ho15 | (simp only [Int.reduceToNat] at ho15; rw [← Ny541.out] at ho15)); replace HO543 := am_ (Kd.R_lower ho15 (keep_size (w := w) (g := g) (row := none) (Zba GW525 GW537))); replace BK525 := (bkZ BK525 hb); replace BK537 := (bkZ BK537 hb); replace HK := am_ (KeepBut.trans (Zba GW525 GW537) (KeepBut.of_below hb g none) (.inl rfl)); replace HB := (bsZ (Zaz GE525 GE537) hb); replace HI0 := am_ (IsS116.below (Zay NB0_525 NB0_537) hb); clear hb ho15; obtain ⟨Ao16, co16, eo16⟩ := Kd.R_slice HO543.out; subst eo16) | ((with_reducible refine gate_callee (f := 79) rfl ?_); refine gZ 15 Try.func79 #[.pointer (some ⟨g, 0, none⟩), .slice Ao16 y541.length co16] ?_; (with_reducible refine (spec_l01Pick.calls g s0_0 t539 t540 _ _ y541 t544 t545 t546 w0 _ ?_ ?_ ?_ ?_ ?_ A6.out).mono ?_); exact (Zay NB0_525 NB0_537); exact (Zaz GE525 GE537); exact (Zaa HO543); exact (Kd.R_reads' HO543.out).2.1; exact far_slice (IsS116.own_ne HI0.out HO543.out (by decide)); rintro e w17 ⟨rfl, hi, hb, hk⟩; refine ⟨_, rfl, ?_⟩; replace BK525 := (kbZ BK525 hk NB525_0); replace BK537 := (kbZ BK537 hk NB537_0); replace HO543 := (hoZ (IsS116.apart (show IsS116 w0 _ g s0_0 t539 t540 from (Zay NB0_525 NB0_537)) (Zr HO543) (by decide)) hk); replace HK := am_ (KeepBut.trans (Zba GW525 GW537) hk (.inl rfl)); replace HB := am_ (hb); replace HI0 := am_ (hi); clear hb hk hi; refine ci9 BK537 ?_; intros; have hnb19 := NB525_0.out; have hnc19 := NB0_525.out; refine ci9 BK525 ?_; intros))
   refine bodyPost_ret (results_cell_row rfl _ _ gb525 61 #[.string t526, .int .i64 t527, .int .i64 t544, .int .i64 t529, .int .i64 t530, .int .i64 t531, .int .i64 t532, .int .i64 t533, .int .i64 t534] (0, 0) _ rfl (bmZ BK525 NB525_537) Try.underlying61 rfl Zm) rfl ?_; exact ⟨Zl, (Zay NB0_525 NB0_537), (Zaz GE525 GE537), (Zba GW525 GW537)⟩
  ·have H := HS_.out
   clear HS_; rw [if_neg c5] at H; have c5b0 := beq_eq_false_iff_ne.mpr c5; have c5b1 := bne_iff_ne.mpr c5; have HS_ := am_ H; clear H
   by_cases c21 : t538 = 1
   ·have H := HS_.out
    clear HS_; rw [if_pos c21] at H; have c21b0 := beq_iff_eq.mpr c21; have c21b1 := bne_eq_false_iff_eq.mpr c21; clear c21; obtain ⟨y547, hy547⟩ : ∃ y_ : List Int, y_ = (([t529, wrap64 (t529 + 1), (-1)] : List Int)) := ⟨_, rfl⟩
    (first | (rw [← hy547] at H; with_reducible replace H := bindZ H) | rw [← hy547] at H | skip)
    have Ny547 := am_ hy547; clear hy547; replace H := Option.bind_eq_some_iff.mp H; obtain ⟨⟨t550, t551, t552⟩, A220, H⟩ := H
    dsimp only at H
    have A22 := am_ A220; clear A220; simp only [Option.some.injEq, Prod.mk.injEq] at H; obtain ⟨rfl, rfl, rfl, rfl, rfl, rfl, rfl, rfl, rfl, rfl, rfl⟩ := H; refine ci9 BK537 ?_; intros
    go_wp2_with (first | ((with_reducible refine gate_dst (N := 25) rfl ?_); refine Kd.R_lit (Kd.int .i64) _ 2 ?hg (N := 25) ?hd (xs := ([t529, wrap64 (t529 + 1), (-1)] : List Int)) (inner := [.int .i64 t529, .int .i64 (wrap64 (t529 + 1)), .int .i64 (-1)]) (ok := fun _ => True) (okp := fun _ => True) ?hr ?hp (fun _ hk => hk) trivial (Below.refl _ _) (Nat.le_refl _) (by simp) ?_; (case hd => rfl); (case hg => rfl); (case hr => first | (go_simp; done) | (go_simp; rfl)); (case hp => exact (Reps.one (show Kd.M (Kd.int .i64) _ _ _ t529 [.int .i64 t529] from rfl) (Reps.one (show Kd.M (Kd.int .i64) _ _ _ (wrap64 (t529 + 1)) [.int .i64 (wrap64 (t529 + 1))] from rfl) (Reps.one (show Kd.M (Kd.int .i64) _ _ _ (-1) [.int .i64 (-1)] from rfl) (Reps.none _ _))))); intro v548 w31 ho32 hb hg_ hnew_; clear hg_ hnew_; (first | rw [← Ny547.out] at ho32 | (simp only [Int.reduceToNat] at ho32; rw [← Ny547.out] at ho32)); replace HO549 := am_ (Kd.R_lower ho32 (keep_size (w := w) (g := g) (row := none) (Zba GW525 GW537))); replace BK525 := (bkZ BK525 hb); replace BK537 := (bkZ BK537 hb); replace HK := am_ (KeepBut.trans (Zba GW525 GW537) (KeepBut.of_below hb g none) (.inl rfl)); replace HB := (bsZ (Zaz GE525 GE537) hb); replace HI0 := am_ (IsS116.below (Zay NB0_525 NB0_537) hb); clear hb ho32; obtain ⟨Ao33, co33, eo33⟩ := Kd.R_slice HO549.out; subst eo33) | ((with_reducible refine gate_callee (f := 79) rfl ?_); refine gZ 26 Try.func79 #[.pointer (some ⟨g, 0, none⟩), .slice Ao33 y547.length co33] ?_; (with_reducible refine (spec_l01Pick.calls g s0_0 t539 t540 _ _ y547 t550 t551 t552 w0 _ ?_ ?_ ?_ ?_ ?_ A22.out).mono ?_); exact (Zay NB0_525 NB0_537); exact (Zaz GE525 GE537); exact (Zaa HO549); exact (Kd.R_reads' HO549.out).2.1; exact far_slice (IsS116.own_ne HI0.out HO549.out (by decide)); rintro e w34 ⟨rfl, hi, hb, hk⟩; refine ⟨_, rfl, ?_⟩; replace BK525 := (kbZ BK525 hk NB525_0); replace BK537 := (kbZ BK537 hk NB537_0); replace HO549 := (hoZ (IsS116.apart (show IsS116 w0 _ g s0_0 t539 t540 from (Zay NB0_525 NB0_537)) (Zr HO549) (by decide)) hk); replace HK := am_ (KeepBut.trans (Zba GW525 GW537) hk (.inl rfl)); replace HB := am_ (hb); replace HI0 := am_ (hi); clear hb hk hi; refine ci9 BK537 ?_; intros; have hnb36 := NB525_0.out; have hnc36 := NB0_525.out; refine ci9 BK525 ?_; intros))
    refine bodyPost_ret (results_cell_row rfl _ _ gb525 61 #[.string t526, .int .i64 t527, .int .i64 t528, .int .i64 t529, .int .i64 t550, .int .i64 t531, .int .i64 t532, .int .i64 t533, .int .i64 t534] (0, 0) _ rfl (bmZ BK525 NB525_537) Try.underlying61 rfl Zm) rfl ?_; exact ⟨Zl, (Zay NB0_525 NB0_537), (Zaz GE525 GE537), (Zba GW525 GW537)⟩
   ·have H := HS_.out
    clear HS_; rw [if_neg c21] at H; have c21b0 := beq_eq_false_iff_ne.mpr c21; have c21b1 := bne_iff_ne.mpr c21; have HS_ := am_ H; clear H
    by_cases c38 : t538 = 2
    ·have H := HS_.out
     clear HS_; rw [if_pos c38] at H; have c38b0 := beq_iff_eq.mpr c38; have c38b1 := bne_eq_false_iff_eq.mpr c38; clear c38; obtain ⟨y553, hy553⟩ : ∃ y_ : List Int, y_ = (([0, 50, 51] : List Int)) := ⟨_, rfl⟩
     (first | (rw [← hy553] at H; with_reducible replace H := bindZ H) | rw [← hy553] at H | skip)
     have Ny553 := am_ hy553; clear hy553; replace H := Option.bind_eq_some_iff.mp H; obtain ⟨⟨t556, t557, t558⟩, A390, H⟩ := H
     dsimp only at H
     have A39 := am_ A390; clear A390; simp only [Option.some.injEq, Prod.mk.injEq] at H; obtain ⟨rfl, rfl, rfl, rfl, rfl, rfl, rfl, rfl, rfl, rfl, rfl⟩ := H
     go_wp2_with (first | ((with_reducible refine gate_dst (N := 31) rfl ?_); refine Kd.R_lit (Kd.int .i64) _ 2 ?hg (N := 31) ?hd (xs := ([0, 50, 51] : List Int)) (inner := [.int .i64 0, .int .i64 50, .int .i64 51]) (ok := fun _ => True) (okp := fun _ => True) ?hr ?hp (fun _ hk => hk) trivial (Below.refl _ _) (Nat.le_refl _) (by simp) ?_; (case hd => rfl); (case hg => rfl); (case hr => first | (go_simp; done) | (go_simp; rfl)); (case hp => exact (Reps.one (show Kd.M (Kd.int .i64) _ _ _ 0 [.int .i64 0] from rfl) (Reps.one (show Kd.M (Kd.int .i64) _ _ _ 50 [.int .i64 50] from rfl) (Reps.one (show Kd.M (Kd.int .i64) _ _ _ 51 [.int .i64 51] from rfl) (Reps.none _ _))))); intro v554 w47 ho48 hb hg_ hnew_; clear hg_ hnew_; (first | rw [← Ny553.out] at ho48 | (simp only [Int.reduceToNat] at ho48; rw [← Ny553.out] at ho48)); replace HO555 := am_ (Kd.R_lower ho48 (keep_size (w := w) (g := g) (row := none) (Zba GW525 GW537))); replace BK525 := (bkZ BK525 hb); replace BK537 := (bkZ BK537 hb); replace HK := am_ (KeepBut.trans (Zba GW525 GW537) (KeepBut.of_below hb g none) (.inl rfl)); replace HB := (bsZ (Zaz GE525 GE537) hb); replace HI0 := am_ (IsS116.below (Zay NB0_525 NB0_537) hb); clear hb ho48; obtain ⟨Ao49, co49, eo49⟩ := Kd.R_slice HO555.out; subst eo49) | ((with_reducible refine gate_callee (f := 79) rfl ?_); refine gZ 32 Try.func79 #[.pointer (some ⟨g, 0, none⟩), .slice Ao49 y553.length co49] ?_; (with_reducible refine (spec_l01Pick.calls g s0_0 t539 t540 _ _ y553 t556 t557 t558 w0 _ ?_ ?_ ?_ ?_ ?_ A39.out).mono ?_); exact (Zay NB0_525 NB0_537); exact (Zaz GE525 GE537); exact (Zaa HO555); exact (Kd.R_reads' HO555.out).2.1; exact far_slice (IsS116.own_ne HI0.out HO555.out (by decide)); rintro e w50 ⟨rfl, hi, hb, hk⟩; refine ⟨_, rfl, ?_⟩; replace BK525 := (kbZ BK525 hk NB525_0); replace BK537 := (kbZ BK537 hk NB537_0); replace HO555 := (hoZ (IsS116.apart (show IsS116 w0 _ g s0_0 t539 t540 from (Zay NB0_525 NB0_537)) (Zr HO555) (by decide)) hk); replace HK := am_ (KeepBut.trans (Zba GW525 GW537) hk (.inl rfl)); replace HB := am_ (hb); replace HI0 := am_ (hi); clear hb hk hi; refine ci9 BK537 ?_; intros; have hnb52 := NB525_0.out; have hnc52 := NB0_525.out; refine ci9 BK525 ?_; intros))
     refine bodyPost_ret (results_cell_row rfl _ _ gb525 61 #[.string t526, .int .i64 t527, .int .i64 t528, .int .i64 t529, .int .i64 t530, .int .i64 t556, .int .i64 t532, .int .i64 t533, .int .i64 t534] (0, 0) _ rfl (bmZ BK525 NB525_537) Try.underlying61 rfl Zm) rfl ?_; exact ⟨Zl, (Zay NB0_525 NB0_537), (Zaz GE525 GE537), (Zba GW525 GW537)⟩
    ·have H := HS_.out
     clear HS_; rw [if_neg c38] at H; have c38b0 := beq_eq_false_iff_ne.mpr c38; have c38b1 := bne_iff_ne.mpr c38; have HS_ := am_ H; clear H
     by_cases c54 : t538 = 3
     ·have H := HS_.out
      clear HS_; rw [if_pos c54] at H; have c54b0 := beq_iff_eq.mpr c54; have c54b1 := bne_eq_false_iff_eq.mpr c54; clear c54; replace H := Option.bind_eq_some_iff.mp H; obtain ⟨⟨t559, t560, t561⟩, A550, H⟩ := H
      dsimp only at H
      have A55 := am_ A550; clear A550; simp only [Option.some.injEq, Prod.mk.injEq] at H; obtain ⟨rfl, rfl, rfl, rfl, rfl, rfl, rfl, rfl, rfl, rfl, rfl⟩ := H
      go_wp2_with (first | ((with_reducible refine gate_callee (f := 116) rfl ?_); refine gZ 37 Try.func116 #[.pointer (some ⟨g, 0, none⟩)] ?_; (with_reducible refine (spec_l01DrawWord.calls g s0_0 t539 t540 t559 t560 t561 w0 _ ?_ ?_ A55.out).mono ?_); exact (Zay NB0_525 NB0_537); exact (Zaz GE525 GE537); rintro e w63 ⟨rfl, hi, hb, hk⟩; refine ⟨_, rfl, ?_⟩; replace BK525 := (kbZ BK525 hk NB525_0); replace BK537 := (kbZ BK537 hk NB537_0); replace HK := am_ (KeepBut.trans (Zba GW525 GW537) hk (.inl rfl)); replace HB := am_ (hb); replace HI0 := am_ (hi); clear hb hk hi; refine ci9 BK537 ?_; intros; have hnb65 := NB525_0.out; have hnc65 := NB0_525.out; refine ci9 BK525 ?_; intros))
      refine bodyPost_ret (results_cell_row rfl _ _ gb525 61 #[.string t559, .int .i64 t527, .int .i64 t528, .int .i64 t529, .int .i64 t530, .int .i64 t531, .int .i64 t532, .int .i64 t533, .int .i64 t534] (0, 0) _ rfl (bmZ BK525 NB525_537) Try.underlying61 rfl Zm) rfl ?_; exact ⟨Zl, (Zay NB0_525 NB0_537), (Zaz GE525 GE537), (Zba GW525 GW537)⟩
     ·have H := HS_.out
      clear HS_; rw [if_neg c54] at H; have c54b0 := beq_eq_false_iff_ne.mpr c54; have c54b1 := bne_iff_ne.mpr c54; have HS_ := am_ H; clear H
      by_cases c67 : t538 = 4
      ·have H := HS_.out
       clear HS_; rw [if_pos c67] at H; have c67b0 := beq_iff_eq.mpr c67; have c67b1 := bne_eq_false_iff_eq.mpr c67; clear c67; obtain ⟨y562, hy562⟩ : ∃ y_ : List Int, y_ = (([0, 100000, 100001] : List Int)) := ⟨_, rfl⟩
       (first | (rw [← hy562] at H; with_reducible replace H := bindZ H) | rw [← hy562] at H | skip)
       have Ny562 := am_ hy562; clear hy562; replace H := Option.bind_eq_some_iff.mp H; obtain ⟨⟨t565, t566, t567⟩, A680, H⟩ := H
       dsimp only at H
       have A68 := am_ A680; clear A680; simp only [Option.some.injEq, Prod.mk.injEq] at H; obtain ⟨rfl, rfl, rfl, rfl, rfl, rfl, rfl, rfl, rfl, rfl, rfl⟩ := H
       go_wp2_with (first | ((with_reducible refine gate_dst (N := 42) rfl ?_); refine Kd.R_lit (Kd.int .i64) _ 2 ?hg (N := 42) ?hd (xs := ([0, 100000, 100001] : List Int)) (inner := [.int .i64 0, .int .i64 100000, .int .i64 100001]) (ok := fun _ => True) (okp := fun _ => True) ?hr ?hp (fun _ hk => hk) trivial (Below.refl _ _) (Nat.le_refl _) (by simp) ?_; (case hd => rfl); (case hg => rfl); (case hr => first | (go_simp; done) | (go_simp; rfl)); (case hp => exact (Reps.one (show Kd.M (Kd.int .i64) _ _ _ 0 [.int .i64 0] from rfl) (Reps.one (show Kd.M (Kd.int .i64) _ _ _ 100000 [.int .i64 100000] from rfl) (Reps.one (show Kd.M (Kd.int .i64) _ _ _ 100001 [.int .i64 100001] from rfl) (Reps.none _ _))))); intro v563 w76 ho77 hb hg_ hnew_; clear hg_ hnew_; (first | rw [← Ny562.out] at ho77 | (simp only [Int.reduceToNat] at ho77; rw [← Ny562.out] at ho77)); replace HO564 := am_ (Kd.R_lower ho77 (keep_size (w := w) (g := g) (row := none) (Zba GW525 GW537))); replace BK525 := (bkZ BK525 hb); replace BK537 := (bkZ BK537 hb); replace HK := am_ (KeepBut.trans (Zba GW525 GW537) (KeepBut.of_below hb g none) (.inl rfl)); replace HB := (bsZ (Zaz GE525 GE537) hb); replace HI0 := am_ (IsS116.below (Zay NB0_525 NB0_537) hb); clear hb ho77; obtain ⟨Ao78, co78, eo78⟩ := Kd.R_slice HO564.out; subst eo78) | ((with_reducible refine gate_callee (f := 79) rfl ?_); refine gZ 43 Try.func79 #[.pointer (some ⟨g, 0, none⟩), .slice Ao78 y562.length co78] ?_; (with_reducible refine (spec_l01Pick.calls g s0_0 t539 t540 _ _ y562 t565 t566 t567 w0 _ ?_ ?_ ?_ ?_ ?_ A68.out).mono ?_); exact (Zay NB0_525 NB0_537); exact (Zaz GE525 GE537); exact (Zaa HO564); exact (Kd.R_reads' HO564.out).2.1; exact far_slice (IsS116.own_ne HI0.out HO564.out (by decide)); rintro e w79 ⟨rfl, hi, hb, hk⟩; refine ⟨_, rfl, ?_⟩; replace BK525 := (kbZ BK525 hk NB525_0); replace BK537 := (kbZ BK537 hk NB537_0); replace HO564 := (hoZ (IsS116.apart (show IsS116 w0 _ g s0_0 t539 t540 from (Zay NB0_525 NB0_537)) (Zr HO564) (by decide)) hk); replace HK := am_ (KeepBut.trans (Zba GW525 GW537) hk (.inl rfl)); replace HB := am_ (hb); replace HI0 := am_ (hi); clear hb hk hi; refine ci9 BK537 ?_; intros; have hnb81 := NB525_0.out; have hnc81 := NB0_525.out; refine ci9 BK525 ?_; intros))
       refine bodyPost_ret (results_cell_row rfl _ _ gb525 61 #[.string t526, .int .i64 t527, .int .i64 t528, .int .i64 t529, .int .i64 t530, .int .i64 t531, .int .i64 t532, .int .i64 t565, .int .i64 t534] (0, 0) _ rfl (bmZ BK525 NB525_537) Try.underlying61 rfl Zm) rfl ?_; exact ⟨Zl, (Zay NB0_525 NB0_537), (Zaz GE525 GE537), (Zba GW525 GW537)⟩
      ·have H := HS_.out
       clear HS_; rw [if_neg c67] at H; have c67b0 := beq_eq_false_iff_ne.mpr c67; have c67b1 := bne_iff_ne.mpr c67; simp only [Option.some.injEq, Prod.mk.injEq] at H; obtain ⟨rfl, rfl, rfl, rfl, rfl, rfl, rfl, rfl, rfl, rfl, rfl⟩ := H; refine ci9 BK537 ?_; intros; have hnb91 := NB525_0.out; have hnc91 := NB0_525.out; refine ci9 BK525 ?_; intros
       go_wp2_with (first | fail)
       refine bodyPost_ret (results_cell_row rfl _ _ gb525 61 #[.string t526, .int .i64 t527, .int .i64 t528, .int .i64 t529, .int .i64 t530, .int .i64 t531, .int .i64 t532, .int .i64 t533, .int .i64 t534] (0, 0) _ rfl (bpZ BK525) Try.underlying61 rfl Zm) rfl ?_; exact ⟨Zl, (Zay NB0_525 NB0_537), (Zaz GE525 GE537), (Zba GW525 GW537)⟩
mutual
def spec_l03List.l0 : Nat → List (S61) → List ByteArray → Int → List Int → Int → Int → Option ((List (S61)) × Int × Int)
 | 0, _, _, _, _, _, _ => none
 | k + 1, x3, x4, x5, x1000, x1001, x1002 => if x5 < (x4.length : Int) then ((spec_l01Next.f x1000 x1001 x1002 3).bind fun bt574 => (if bt574.1 > 0 then (if 0 ≤ x5 then ((spec_l03Draw.f x1000 bt574.2.1 bt574.2.2 (rdOf ByteArray.empty x4 x5)).bind fun bt578 => (if x3.length < 1759218604441 then (spec_l03List.l0 k (x3 ++ [(⟨bt578.1, bt578.2.1, bt578.2.2.1, bt578.2.2.2.1, bt578.2.2.2.2.1, bt578.2.2.2.2.2.1, bt578.2.2.2.2.2.2.1, bt578.2.2.2.2.2.2.2.1, bt578.2.2.2.2.2.2.2.2.1⟩ : S61)]) x4 (wrap64 (x5 + 1)) x1000 bt578.2.2.2.2.2.2.2.2.2.1 bt578.2.2.2.2.2.2.2.2.2.2) else (none))) else (none)) else (spec_l03List.l0 k x3 x4 (wrap64 (x5 + 1)) x1000 bt574.2.1 bt574.2.2))) else ((spec_l01Next.f x1000 x1001 x1002 30).bind fun bt592 => (if bt592.1 = 0 then ((spec_l03Good.f x1000 bt592.2.1 bt592.2.2 (⟨#[97, 115, 116, 101, 114]⟩ : ByteArray)).bind fun bt595 => (if x3.length < 1759218604441 then (some ((x3 ++ [(⟨bt595.1, bt595.2.1, bt595.2.2.1, bt595.2.2.2.1, bt595.2.2.2.2.1, bt595.2.2.2.2.2.1, bt595.2.2.2.2.2.2.1, bt595.2.2.2.2.2.2.2.1, bt595.2.2.2.2.2.2.2.2.1⟩ : S61)]), bt595.2.2.2.2.2.2.2.2.2.1, bt595.2.2.2.2.2.2.2.2.2.2)) else (none))) else (if bt592.1 = 1 then (spec_l03List.l1 k x3 0 x1000 bt592.2.1 bt592.2.2) else (some (x3, bt592.2.1, bt592.2.2)))))
def spec_l03List.l1 : Nat → List (S61) → Int → List Int → Int → Int → Option ((List (S61)) × Int × Int)
 | 0, _, _, _, _, _ => none
 | k + 1, x3, x6, x1000, x1001, x1002 => (spec_l01Next.f x1000 x1001 x1002 2).bind fun bt609 => (if (x3.length : Int) < (wrap64 (12 + bt609.1)) then (if x6 < 14 then (if 0 ≤ x6 then (if x6 ≤ (wrap64 (x6 + 1)) then (if (wrap64 (x6 + 1)) ≤ 14 then (if 1 + ((⟨#[97, 98, 99, 100, 101, 102, 103, 104, 105, 106, 107, 108, 109, 110]⟩ : ByteArray).extract (x6 : Int).toNat ((wrap64 (x6 + 1)) : Int).toNat).size ≤ 9223372036854775807 then ((spec_l03Good.f x1000 bt609.2.1 bt609.2.2 ((⟨#[120]⟩ : ByteArray) ++ ((⟨#[97, 98, 99, 100, 101, 102, 103, 104, 105, 106, 107, 108, 109, 110]⟩ : ByteArray).extract (x6 : Int).toNat ((wrap64 (x6 + 1)) : Int).toNat))).bind fun bt612 => (if x3.length < 1759218604441 then (spec_l03List.l1 k (x3 ++ [(⟨bt612.1, bt612.2.1, bt612.2.2.1, bt612.2.2.2.1, bt612.2.2.2.2.1, bt612.2.2.2.2.2.1, bt612.2.2.2.2.2.2.1, bt612.2.2.2.2.2.2.2.1, bt612.2.2.2.2.2.2.2.2.1⟩ : S61)]) (wrap64 (x6 + 1)) x1000 bt612.2.2.2.2.2.2.2.2.2.1 bt612.2.2.2.2.2.2.2.2.2.2) else (none))) else (none)) else (none)) else (none)) else (none)) else (some (x3, bt609.2.1, bt609.2.2))) else (some (x3, bt609.2.1, bt609.2.2)))
end
def spec_l03List.f (k : Nat) (s0_0 : List Int) (s0_1 : Int) (s0_2 : Int) : Option ((List (S61)) × Int × Int) := (spec_l03Names.f).bind fun t571 => (spec_l03List.l0 k (([] : List (S61))) t571 0 s0_0 s0_1 s0_2)
set_option maxHeartbeats 8000000 in
set_option maxRecDepth 100000 in
theorem spec_l03List.calls (k : Nat) (g : Nat) (s0_0 : List Int) (s0_1 : Int) (s0_2 : Int) (r1 : List (S61)) (r2 : Int) (r3 : Int) (w0 w : World) (hI : IsS116 w0 w g s0_0 s0_1 s0_2) (hB : Below w0.heap.size w0 w) (h : spec_l03List.f k s0_0 s0_1 s0_2 = some (r1, r2, r3)) :
  Calls Try.prog 99 #[.pointer (some ⟨g, 0, none⟩)] w fun e w' => ∃ v0_ : Value, e = .returned (v0_) ∧ Kd.R k61 61 w' w.heap.size (fun _ => True) v0_ r1 ∧ IsS116 w0 w' g s0_0 r2 r3 ∧ Below w0.heap.size w0 w' ∧ KeepBut w w' g none := by
 have HI0 := am_ hI; have HK := am_ (KeepBut.refl w g none); have HL := am_ hB.size; clear hI; have HW0 := am_ hB.size; have HB := am_ hB; clear hB; have H : ((spec_l03Names.f).bind fun t571 => (spec_l03List.l0 k (([] : List (S61))) t571 0 s0_0 s0_1 s0_2)) = some (r1, r2, r3) := h; clear h; obtain ⟨y568, hy568⟩ : ∃ y_ : List (S61), y_ = (([] : List (S61))) := ⟨_, rfl⟩
 replace H : ((spec_l03Names.f).bind fun t571 => (spec_l03List.l0 k y568 t571 0 s0_0 s0_1 s0_2)) = some (r1, r2, r3) := by (try rw [hy568]); first | with_reducible exact H | with_reducible exact (Option.bind_some _ _).symm.trans H | exact H
 have Ny568 := am_ hy568; clear hy568; replace H := Option.bind_eq_some_iff.mp H; obtain ⟨t571, A20, H⟩ := H; have A2 := am_ A20; clear A20; have H' := am_ H; clear H
 go_enter Try.func99, Try.ntmps99
 go_wp2_with (first | ((with_reducible refine gate_dst (N := 7) rfl ?_); refine Kd.R_lit k61 _ 61 ?hg (N := 7) ?hd (xs := ([] : List (S61))) (inner := []) (ok := fun _ => True) (okp := fun _ => True) ?hr ?hp (fun _ hk => hk) trivial (Below.refl _ _) (Nat.le_refl _) (by simp) ?_; (case hd => rfl); (case hg => rfl); (case hr => first | (go_simp; done) | (go_simp; rfl)); (case hp => exact (Reps.none _ _)); intro v569 w3 ho4 hb hg_ hnew_; clear hg_ hnew_; (first | rw [← Ny568.out] at ho4 | (simp only [Int.reduceToNat] at ho4; rw [← Ny568.out] at ho4)); replace HO570 := am_ (Kd.R_lower ho4 (keep_size (w := w) (g := g) (row := none) Zam)); replace HK := am_ (KeepBut.trans Zam (KeepBut.of_below hb g none) (.inl rfl)); replace HB := (bsZ Zal hb); replace HI0 := am_ (IsS116.below Zak hb); clear hb ho4) | ((with_reducible refine gate_callee (f := 109) rfl ?_); refine gZ 8 Try.func109 #[] ?_; (with_reducible refine (spec_l03Names.calls  t571 _ A2.out).mono ?_); rintro e w5 ⟨v572, rfl, ho0, hb⟩; refine ⟨_, rfl, ?_⟩; replace HO570 := (hbZ HO570 hb); replace HO573 := am_ (Kd.R_lower ho0 (keep_size (w := w) (g := g) (row := none) Zam)); replace HK := am_ (KeepBut.trans Zam (KeepBut.of_below hb g none) (.inl rfl)); replace HB := (bsZ Zal hb); replace HI0 := am_ (IsS116.below Zak hb); clear hb ho0))
 go_loopg [3, 5] k (fun kq v3 v5 w' => ∃ (x3_1 : List (S61)) (x5_1 : Int) (x1001_1 : Int) (x1002_1 : Int), v5 = .int .i64 x5_1 ∧ Aside0 (spec_l03List.l0 kq x3_1 t571 x5_1 s0_0 x1001_1 x1002_1 = some (r1, r2, r3)) ∧ Aside0 (kq ≤ k) ∧ Aside0 (Kd.R k61 61 w' w.heap.size (fun _ => True) v3 x3_1) ∧ Aside0 (Kd.R Kd.string 9 w' w.heap.size (fun _ => True) v572 t571) ∧ Aside0 (IsS116 w0 w' g s0_0 x1001_1 x1002_1) ∧ Aside0 (KeepBut w w' g none) ∧ Aside0 (Below w0.heap.size w0 w'))
 case atStart => exact ⟨(y568), (0), (s0_1), (s0_2), Za, H', ⟨Nat.le_refl _⟩, ⟨(Zr HO570)⟩, ⟨(Zr HO573)⟩, ⟨Zak⟩, ⟨Zam⟩, ⟨Zal⟩⟩
 case round =>
  clear H'
  try clear c1
  try clear p2
  obtain ⟨x3_1, x5_1, x1001_1, x1002_1, rfl, HA, HK1, HO_3, HO_4, HI0, HK, HB⟩ := hrel
  cases gk with
  | zero => exact absurd HA.out (by simp [spec_l03List.l0])
  | succ k1 =>
   have H := HA.out; clear HA; simp only [spec_l03List.l0] at H
   by_cases c6 : x5_1 < (t571.length : Int)
   ·rw [if_pos c6] at H
    have c6b0 := decide_eq_true c6; clear c6; replace H := Option.bind_eq_some_iff.mp H; obtain ⟨⟨t574, t575, t576⟩, A70, H⟩ := H
    dsimp only at H
    have A7 := am_ A70; clear A70; have HS_ := am_ H; clear H; obtain ⟨Ao12, co12, eo12⟩ := Kd.R_slice HO_4.out; subst eo12
    go_wp2_with (first | ((with_reducible refine gate_callee (f := 62) rfl ?_); refine gZ 16 Try.func62 #[.pointer (some ⟨g, 0, none⟩), .int .i64 3] ?_; (with_reducible refine (spec_l01Next.calls g s0_0 x1001_1 x1002_1 3 t574 t575 t576 w0 _ ?_ ?_ A7.out).mono ?_); exact Zak; exact Zal; rintro e w13 ⟨rfl, hi, hb, hk⟩; refine ⟨_, rfl, ?_⟩; replace HO_3 := (hoZ (IsS116.apart (show IsS116 w0 _ g s0_0 x1001_1 x1002_1 from Zak) (Zr HO_3) (by decide)) hk); replace HO_4 := (hoZ (IsS116.apart (show IsS116 w0 _ g s0_0 x1001_1 x1002_1 from Zak) (Zr HO_4) (by decide)) hk); replace HK := am_ (KeepBut.trans Zam hk (.inl rfl)); replace HB := am_ (hb); replace HI0 := am_ (hi); clear hb hk hi; refine ?roundEnd))
    case roundEnd =>
     by_cases c8 : t574 > 0
     ·have H := HS_.out
      clear HS_; rw [if_pos c8] at H; have c8b0 : decide (0 < t574) = true := decide_eq_true c8; clear c8
      by_cases c9 : 0 ≤ x5_1
      ·rw [if_pos c9] at H
       have c9b0 := decide_eq_true c9; clear c9; replace H := Option.bind_eq_some_iff.mp H; obtain ⟨⟨t578, t579, t580, t581, t582, t583, t584, t585, t586, t587, t588⟩, A100, H⟩ := H
       dsimp only at H
       have A10 := am_ A100; clear A100
       by_cases c11 : x3_1.length < 1759218604441
       ·rw [if_pos c11] at H
        have LMc11 := am_ c11; clear c11; obtain ⟨y589, hy589⟩ : ∃ y_ : List (S61), y_ = (x3_1 ++ [(⟨t578, t579, t580, t581, t582, t583, t584, t585, t586⟩ : S61)]) := ⟨_, rfl⟩
        (first | (rw [← hy589] at H; with_reducible replace H := bindZ H) | rw [← hy589] at H | skip)
        have Ny589 := am_ hy589; clear hy589; have H' := am_ H; clear H; have p577 : 0 ≤ (x5_1 : Int) := of_decide_eq_true Zc; have q577 : x5_1 < (t571.length : Int) := of_decide_eq_true Zc; obtain ⟨ad577, e577, hx577_0⟩ := Kd.at_string (Kd.R_reads' HO_4.out).2.2 x5_1 p577 q577
        cases e577
        replace p577 := eq_true p577; replace q577 := eq_true q577
        go_wp2_with (first | ((with_reducible refine gate_callee (f := 112) rfl ?_); refine gZ 24 Try.func112 #[.pointer (some ⟨g, 0, none⟩), .string (rdOf ByteArray.empty t571 x5_1)] ?_; (with_reducible refine (spec_l03Draw.calls g s0_0 t575 t576 (rdOf ByteArray.empty t571 x5_1) t578 t579 t580 t581 t582 t583 t584 t585 t586 t587 t588 w0 _ ?_ ?_ A10.out).mono ?_); exact Zak; exact Zal; rintro e w14 ⟨rfl, hi, hb, hk⟩; refine ⟨_, rfl, ?_⟩; replace HO_3 := (hoZ (IsS116.apart (show IsS116 w0 _ g s0_0 t575 t576 from Zak) (Zr HO_3) (by decide)) hk); replace HO_4 := (hoZ (IsS116.apart (show IsS116 w0 _ g s0_0 t575 t576 from Zak) (Zr HO_4) (by decide)) hk); replace HK := am_ (KeepBut.trans Zam hk (.inl rfl)); replace HB := am_ (hb); replace HI0 := am_ (hi); clear hb hk hi) | ((with_reducible refine gate_builtin (b := .append) (xs := #[.tmp 18, .tmp 25]) rfl ?_); at_builtin; refine Kd.R_append k61 w.heap.size rfl (.tmp 18) (.tmp 25) 32 61 (.agg #[(.string ⟨#[]⟩), (.int .i64 0), (.int .i64 0), (.int .i64 0), (.int .i64 0), (.int .i64 0), (.int .i64 0), (.int .i64 0), (.int .i64 0)]) 80 rfl Try.underlying32 info61 rfl (by decide) (by omega) u3 x3_1 (⟨t578, t579, t580, t581, t582, t583, t584, t585, t586⟩ : S61) [.string t578, .int .i64 t579, .int .i64 t580, .int .i64 t581, .int .i64 t582, .int .i64 t583, .int .i64 t584, .int .i64 t585, .int .i64 t586] (fun _ => True) (fun _ => False) rfl rfl ?aP (fun _ hk => hk.elim) ?aF ?aO (Below.refl _ _) ?aS ?aL ?_; (case aP => exact k61_mkM _ _ _ (⟨t578, t579, t580, t581, t582, t583, t584, t585, t586⟩ : S61)); (case aF => exact (fun _ _ => trivial)); (case aO => exact (Zr HO_3)); (case aS => exact (keep_size (w := w) (g := g) (row := none) Zam)); (case aL => have := LMc11.out; omega); intro v590 w15 ho hb hg hat; rw [← Ny589.out] at ho; replace HO_4 := am_ (Kd.R_over' (Zr HO_4) (Kd.R_typed (Zr HO_3)) (by decide) hg); replace HB := am_ (below_weaken Zal HL.out hb); replace HI0 := am_ (IsS116.grown Zak hg (IsS116.own_ne HI0.out HO_3.out (by decide))); replace HK := am_ (KeepBut.trans Zam (KeepBut.of_grown hg g) (Kd.R_base2 HO_3.out)); replace HO591 := am_ (ho); clear HO_3; clear ho hb hg hat))
        go_roundg k1
        case measure => have := HK1.out; omega
        case rel => exact ⟨(y589), (wrap64 (x5_1 + 1)), (t587), (t588), Za, H', ⟨Zd⟩, ⟨(Zr HO591)⟩, ⟨(Zr HO_4)⟩, ⟨Zak⟩, ⟨Zam⟩, ⟨Zal⟩⟩
       ·rw [if_neg c11] at H
        exact absurd H (by simp)
      ·rw [if_neg c9] at H
       exact absurd H (by simp)
     ·have H := HS_.out
      clear HS_; rw [if_neg c8] at H; have c8b0 : decide (0 < t574) = false := decide_eq_false c8; clear c8; have H' := am_ H; clear H
      go_wp2_with (first | fail)
      go_roundg k1
      case measure => have := HK1.out; omega
      case rel => exact ⟨(x3_1), (wrap64 (x5_1 + 1)), (t575), (t576), Za, H', ⟨Zd⟩, ⟨(Zr HO_3)⟩, ⟨(Zr HO_4)⟩, ⟨Zak⟩, ⟨Zam⟩, ⟨Zal⟩⟩
   ·rw [if_neg c6] at H
    have c6b0 := decide_eq_false c6; clear c6; replace H := Option.bind_eq_some_iff.mp H; obtain ⟨⟨t592, t593, t594⟩, A180, H⟩ := H
    dsimp only at H
    have A18 := am_ A180; clear A180; have HS_ := am_ H; clear H; obtain ⟨Ao22, co22, eo22⟩ := Kd.R_slice HO_4.out; subst eo22
    go_wp2_with (first | ((with_reducible refine gate_callee (f := 62) rfl ?_); refine gZ 28 Try.func62 #[.pointer (some ⟨g, 0, none⟩), .int .i64 30] ?_; (with_reducible refine (spec_l01Next.calls g s0_0 x1001_1 x1002_1 30 t592 t593 t594 w0 _ ?_ ?_ A18.out).mono ?_); exact Zak; exact Zal; rintro e w23 ⟨rfl, hi, hb, hk⟩; refine ⟨_, rfl, ?_⟩; replace HO_3 := (hoZ (IsS116.apart (show IsS116 w0 _ g s0_0 x1001_1 x1002_1 from Zak) (Zr HO_3) (by decide)) hk); replace HO_4 := (hoZ (IsS116.apart (show IsS116 w0 _ g s0_0 x1001_1 x1002_1 from Zak) (Zr HO_4) (by decide)) hk); replace HK := am_ (KeepBut.trans Zam hk (.inl rfl)); replace HB := am_ (hb); replace HI0 := am_ (hi); clear hb hk hi; refine ?roundEnd))
    case roundEnd =>
     by_cases c19 : t592 = 0
     ·have H := HS_.out
      clear HS_; rw [if_pos c19] at H; have c19b0 := beq_iff_eq.mpr c19; have c19b1 := bne_eq_false_iff_eq.mpr c19; clear c19; replace H := Option.bind_eq_some_iff.mp H; obtain ⟨⟨t595, t596, t597, t598, t599, t600, t601, t602, t603, t604, t605⟩, A200, H⟩ := H
      dsimp only at H
      have A20 := am_ A200; clear A200
      by_cases c21 : x3_1.length < 1759218604441
      ·rw [if_pos c21] at H
       have LMc21 := am_ c21; clear c21; obtain ⟨y606, hy606⟩ : ∃ y_ : List (S61), y_ = (x3_1 ++ [(⟨t595, t596, t597, t598, t599, t600, t601, t602, t603⟩ : S61)]) := ⟨_, rfl⟩
       (first | (rw [← hy606] at H; with_reducible replace H := bindZ H) | rw [← hy606] at H | skip)
       have Ny606 := am_ hy606; clear hy606; simp only [Option.some.injEq, Prod.mk.injEq] at H; obtain ⟨rfl, rfl, rfl⟩ := H
       go_wp2_with (first | ((with_reducible refine gate_callee (f := 110) rfl ?_); refine gZ 33 Try.func110 #[.pointer (some ⟨g, 0, none⟩), .string (⟨#[97, 115, 116, 101, 114]⟩ : ByteArray)] ?_; (with_reducible refine (spec_l03Good.calls g s0_0 t593 t594 (⟨#[97, 115, 116, 101, 114]⟩ : ByteArray) t595 t596 t597 t598 t599 t600 t601 t602 t603 t604 t605 w0 _ ?_ ?_ A20.out).mono ?_); exact Zak; exact Zal; rintro e w24 ⟨rfl, hi, hb, hk⟩; refine ⟨_, rfl, ?_⟩; replace HO_3 := (hoZ (IsS116.apart (show IsS116 w0 _ g s0_0 t593 t594 from Zak) (Zr HO_3) (by decide)) hk); replace HO_4 := (hoZ (IsS116.apart (show IsS116 w0 _ g s0_0 t593 t594 from Zak) (Zr HO_4) (by decide)) hk); replace HK := am_ (KeepBut.trans Zam hk (.inl rfl)); replace HB := am_ (hb); replace HI0 := am_ (hi); clear hb hk hi) | ((with_reducible refine gate_builtin (b := .append) (xs := #[.tmp 31, .tmp 34]) rfl ?_); at_builtin; refine Kd.R_append k61 w.heap.size rfl (.tmp 31) (.tmp 34) 32 61 (.agg #[(.string ⟨#[]⟩), (.int .i64 0), (.int .i64 0), (.int .i64 0), (.int .i64 0), (.int .i64 0), (.int .i64 0), (.int .i64 0), (.int .i64 0)]) 80 rfl Try.underlying32 info61 rfl (by decide) (by omega) u3 x3_1 (⟨t595, t596, t597, t598, t599, t600, t601, t602, t603⟩ : S61) [.string t595, .int .i64 t596, .int .i64 t597, .int .i64 t598, .int .i64 t599, .int .i64 t600, .int .i64 t601, .int .i64 t602, .int .i64 t603] (fun _ => True) (fun _ => False) rfl rfl ?aP (fun _ hk => hk.elim) ?aF ?aO (Below.refl _ _) ?aS ?aL ?_; (case aP => exact k61_mkM _ _ _ (⟨t595, t596, t597, t598, t599, t600, t601, t602, t603⟩ : S61)); (case aF => exact (fun _ _ => trivial)); (case aO => exact (Zr HO_3)); (case aS => exact (keep_size (w := w) (g := g) (row := none) Zam)); (case aL => have := LMc21.out; omega); intro v607 w25 ho hb hg hat; rw [← Ny606.out] at ho; replace HO_4 := am_ (Kd.R_over' (Zr HO_4) (Kd.R_typed (Zr HO_3)) (by decide) hg); replace HB := am_ (below_weaken Zal HL.out hb); replace HI0 := am_ (IsS116.grown Zak hg (IsS116.own_ne HI0.out HO_3.out (by decide))); replace HK := am_ (KeepBut.trans Zam (KeepBut.of_grown hg g) (Kd.R_base2 HO_3.out)); replace HO608 := am_ (ho); clear HO_3; clear ho hb hg hat))
       go_ret
       exact ⟨_, Zl, (Zr HO608), Zak, Zal, Zam⟩
      ·rw [if_neg c21] at H
       exact absurd H (by simp)
     ·have H := HS_.out
      clear HS_; rw [if_neg c19] at H; have c19b0 := beq_eq_false_iff_ne.mpr c19; have c19b1 := bne_iff_ne.mpr c19; have HS_ := am_ H; clear H
      by_cases c26 : t592 = 1
      ·have H := HS_.out
       clear HS_; rw [if_pos c26] at H; have c26b0 := beq_iff_eq.mpr c26; have c26b1 := bne_eq_false_iff_eq.mpr c26; clear c26; have H' := am_ H; clear H
       go_wp2_with (first | fail)
       go_loopg [3, 6] k1 (fun kq v3 v6 w' => ∃ (x3_2 : List (S61)) (x6_2 : Int) (x1001_2 : Int) (x1002_2 : Int), v6 = .int .i64 x6_2 ∧ Aside0 (spec_l03List.l1 kq x3_2 x6_2 s0_0 x1001_2 x1002_2 = some (r1, r2, r3)) ∧ Aside0 (kq ≤ k1) ∧ Aside0 (Kd.R k61 61 w' w.heap.size (fun _ => True) v3 x3_2) ∧ Aside0 (IsS116 w0 w' g s0_0 x1001_2 x1002_2) ∧ Aside0 (KeepBut w w' g none) ∧ Aside0 (Below w0.heap.size w0 w'))
       case atStart => exact ⟨(x3_1), (0), (t593), (t594), Za, H', ⟨Nat.le_refl _⟩, ⟨(Zr HO_3)⟩, ⟨Zak⟩, ⟨Zam⟩, ⟨Zal⟩⟩
       case round =>
        clear H'
        try clear c1
        try clear c2
        try clear p2
        try clear p5
        try clear q5
        try clear hx5
        try clear c6
        try clear c6b0
        try clear p6
        try clear c8
        try clear c8b0
        try clear c9
        try clear c9b0
        try clear c10
        try clear c11
        try clear c19
        try clear c19b0
        try clear c19b1
        try clear c21
        try clear c26
        try clear c26b0
        try clear c26b1
        try clear hx577_0
        try clear p2
        try clear p577
        try clear q577
        obtain ⟨x3_2, x6_2, x1001_2, x1002_2, rfl, HA, HK2, HO_3, HI0, HK, HB⟩ := hrel
        cases gk with
        | zero => exact absurd HA.out (by simp [spec_l03List.l1])
        | succ k2 =>
         have H := HA.out; clear HA; simp only [spec_l03List.l1] at H; replace H := Option.bind_eq_some_iff.mp H; obtain ⟨⟨t609, t610, t611⟩, A290, H⟩ := H
         dsimp only at H
         have A29 := am_ A290; clear A290; have HS_ := am_ H; clear H; obtain ⟨Ao38, co38, eo38⟩ := Kd.R_slice HO_3.out; subst eo38
         go_wp2_with (first | ((with_reducible refine gate_callee (f := 62) rfl ?_); refine gZ 41 Try.func62 #[.pointer (some ⟨g, 0, none⟩), .int .i64 2] ?_; (with_reducible refine (spec_l01Next.calls g s0_0 x1001_2 x1002_2 2 t609 t610 t611 w0 _ ?_ ?_ A29.out).mono ?_); exact Zak; exact Zal; rintro e w39 ⟨rfl, hi, hb, hk⟩; refine ⟨_, rfl, ?_⟩; replace HO_3 := (hoZ (IsS116.apart (show IsS116 w0 _ g s0_0 x1001_2 x1002_2 from Zak) (Zr HO_3) (by decide)) hk); replace HK := am_ (KeepBut.trans Zam hk (.inl rfl)); replace HB := am_ (hb); replace HI0 := am_ (hi); clear hb hk hi; refine ?roundEnd))
         case roundEnd =>
          by_cases c30 : (x3_2.length : Int) < (wrap64 (12 + t609))
          ·have H := HS_.out
           clear HS_; rw [if_pos c30] at H; have c30b0 := decide_eq_true c30; clear c30; have HS_ := am_ H; clear H
           by_cases c31 : x6_2 < 14
           ·have H := HS_.out
            clear HS_; rw [if_pos c31] at H; have c31b0 := decide_eq_true c31; clear c31
            by_cases c32 : 0 ≤ x6_2
            ·rw [if_pos c32] at H
             have c32b0 := eq_true c32; have c32b1 := decide_eq_true c32; clear c32
             by_cases c33 : x6_2 ≤ (wrap64 (x6_2 + 1))
             ·rw [if_pos c33] at H
              have c33b0 := eq_true c33; have c33b1 := decide_eq_true c33
              by_cases c34 : (wrap64 (x6_2 + 1)) ≤ 14
              ·rw [if_pos c34] at H
               have c34b0 := eq_true c34; have c34b1 := decide_eq_true c34
               by_cases c35 : 1 + ((⟨#[97, 98, 99, 100, 101, 102, 103, 104, 105, 106, 107, 108, 109, 110]⟩ : ByteArray).extract (x6_2 : Int).toNat ((wrap64 (x6_2 + 1)) : Int).toNat).size ≤ 9223372036854775807
               ·rw [if_pos c35] at H
                have c35b0 := eq_true c35; have c35b1 := decide_eq_true c35
                try have c35b2 : (9223372036854775807 < 1 + ((⟨#[97, 98, 99, 100, 101, 102, 103, 104, 105, 106, 107, 108, 109, 110]⟩ : ByteArray).extract (x6_2 : Int).toNat ((wrap64 (x6_2 + 1)) : Int).toNat).size) = False := eq_false (Nat.not_lt.2 c35)
                replace H := Option.bind_eq_some_iff.mp H; obtain ⟨⟨t612, t613, t614, t615, t616, t617, t618, t619, t620, t621, t622⟩, A360, H⟩ := H
                dsimp only at H
                have A36 := am_ A360; clear A360
                by_cases c37 : x3_2.length < 1759218604441
                ·rw [if_pos c37] at H
                 have LMc37 := am_ c37; clear c37; obtain ⟨y623, hy623⟩ : ∃ y_ : List (S61), y_ = (x3_2 ++ [(⟨t612, t613, t614, t615, t616, t617, t618, t619, t620⟩ : S61)]) := ⟨_, rfl⟩
                 (first | (rw [← hy623] at H; with_reducible replace H := bindZ H) | rw [← hy623] at H | skip)
                 have Ny623 := am_ hy623; clear hy623; have H' := am_ H; clear H
                 go_wp2_with (first | ((with_reducible refine gate_callee (f := 110) rfl ?_); refine gZ 57 Try.func110 #[.pointer (some ⟨g, 0, none⟩), .string ((⟨#[120]⟩ : ByteArray) ++ ((⟨#[97, 98, 99, 100, 101, 102, 103, 104, 105, 106, 107, 108, 109, 110]⟩ : ByteArray).extract (x6_2 : Int).toNat ((wrap64 (x6_2 + 1)) : Int).toNat))] ?_; (with_reducible refine (spec_l03Good.calls g s0_0 t610 t611 ((⟨#[120]⟩ : ByteArray) ++ ((⟨#[97, 98, 99, 100, 101, 102, 103, 104, 105, 106, 107, 108, 109, 110]⟩ : ByteArray).extract (x6_2 : Int).toNat ((wrap64 (x6_2 + 1)) : Int).toNat)) t612 t613 t614 t615 t616 t617 t618 t619 t620 t621 t622 w0 _ ?_ ?_ A36.out).mono ?_); exact Zak; exact Zal; rintro e w40 ⟨rfl, hi, hb, hk⟩; refine ⟨_, rfl, ?_⟩; replace HO_3 := (hoZ (IsS116.apart (show IsS116 w0 _ g s0_0 t610 t611 from Zak) (Zr HO_3) (by decide)) hk); replace HK := am_ (KeepBut.trans Zam hk (.inl rfl)); replace HB := am_ (hb); replace HI0 := am_ (hi); clear hb hk hi) | ((with_reducible refine gate_builtin (b := .append) (xs := #[.tmp 50, .tmp 58]) rfl ?_); at_builtin; refine Kd.R_append k61 w.heap.size rfl (.tmp 50) (.tmp 58) 32 61 (.agg #[(.string ⟨#[]⟩), (.int .i64 0), (.int .i64 0), (.int .i64 0), (.int .i64 0), (.int .i64 0), (.int .i64 0), (.int .i64 0), (.int .i64 0)]) 80 rfl Try.underlying32 info61 rfl (by decide) (by omega) (.slice Ao38 x3_2.length co38) x3_2 (⟨t612, t613, t614, t615, t616, t617, t618, t619, t620⟩ : S61) [.string t612, .int .i64 t613, .int .i64 t614, .int .i64 t615, .int .i64 t616, .int .i64 t617, .int .i64 t618, .int .i64 t619, .int .i64 t620] (fun _ => True) (fun _ => False) rfl rfl ?aP (fun _ hk => hk.elim) ?aF ?aO (Below.refl _ _) ?aS ?aL ?_; (case aP => exact k61_mkM _ _ _ (⟨t612, t613, t614, t615, t616, t617, t618, t619, t620⟩ : S61)); (case aF => exact (fun _ _ => trivial)); (case aO => exact (Zr HO_3)); (case aS => exact (keep_size (w := w) (g := g) (row := none) Zam)); (case aL => have := LMc37.out; omega); intro v624 w41 ho hb hg hat; rw [← Ny623.out] at ho; replace HB := am_ (below_weaken Zal HL.out hb); replace HI0 := am_ (IsS116.grown Zak hg (IsS116.own_ne HI0.out HO_3.out (by decide))); replace HK := am_ (KeepBut.trans Zam (KeepBut.of_grown hg g) (Kd.R_base2 HO_3.out)); replace HO625 := am_ (ho); clear HO_3; clear ho hb hg hat))
                 go_roundg k2
                 case measure => have := HK1.out; have := HK2.out; omega
                 case rel => exact ⟨(y623), (wrap64 (x6_2 + 1)), (t621), (t622), Za, H', ⟨Zs⟩, ⟨(Zr HO625)⟩, ⟨Zak⟩, ⟨Zam⟩, ⟨Zal⟩⟩
                ·rw [if_neg c37] at H
                 exact absurd H (by simp)
               ·rw [if_neg c35] at H
                exact absurd H (by simp)
              ·rw [if_neg c34] at H
               exact absurd H (by simp)
             ·rw [if_neg c33] at H
              exact absurd H (by simp)
            ·rw [if_neg c32] at H
             exact absurd H (by simp)
           ·have H := HS_.out
            clear HS_; rw [if_neg c31] at H; have c31b0 := decide_eq_false c31; clear c31; simp only [Option.some.injEq, Prod.mk.injEq] at H; obtain ⟨rfl, rfl, rfl⟩ := H
            go_wp2_with (first | fail)
            go_ret
            exact ⟨_, Zl, (Zr HO_3), Zak, Zal, Zam⟩
          ·have H := HS_.out
           clear HS_; rw [if_neg c30] at H; have c30b0 := decide_eq_false c30; clear c30; simp only [Option.some.injEq, Prod.mk.injEq] at H; obtain ⟨rfl, rfl, rfl⟩ := H
           go_wp2_with (first | fail)
           go_ret
           exact ⟨_, Zl, (Zr HO_3), Zak, Zal, Zam⟩
      ·have H := HS_.out
       clear HS_; rw [if_neg c26] at H; have c26b0 := beq_eq_false_iff_ne.mpr c26; have c26b1 := bne_iff_ne.mpr c26; simp only [Option.some.injEq, Prod.mk.injEq] at H; obtain ⟨rfl, rfl, rfl⟩ := H
       go_wp2_with (first | fail)
       go_ret
       exact ⟨_, Zl, (Zr HO_3), Zak, Zal, Zam⟩
def spec_l08Draw.l0 : Nat → List Int → Int → Int → List (S104) → List (S61) → List (S58) → Int → Int → ByteArray → Int → Option ((List (S104)) × (List (S61)) × (List (S58)) × Int × Int)
 | 0, _, _, _, _, _, _, _, _, _, _ => none
 | k + 1, x1000, x1001, x1002, x639000, x639001, x639002, x666000, x666001, x666002, x666003 => (spec_l01Next.f x1000 x1001 x1002 2).bind fun bt666 => (if (x639002.length : Int) < (wrap64 (20 + bt666.1)) then (if x639002.length < 3518437208883 then (spec_l08Draw.l0 k x1000 bt666.2.1 bt666.2.2 x639000 x639001 (x639002 ++ [(⟨x666000, x666001, x666002, x666003⟩ : S58)]) x666000 x666001 x666002 x666003) else (none)) else (some (x639000, x639001, x639002, bt666.2.1, bt666.2.2)))
def spec_l08Draw.f (k : Nat) (s0_0 : List Int) (s0_1 : Int) (s0_2 : Int) : Option ((List (S104)) × (List (S61)) × (List (S58)) × Int × Int) := (spec_l08Good.f k s0_0 s0_1 s0_2).bind fun bt627 => ((spec_l01Next.f s0_0 bt627.2.2.2.1 bt627.2.2.2.2 40).bind fun bt639 => (if bt639.1 = 0 then ((spec_l07Draw.f k s0_0 bt639.2.1 bt639.2.2).bind fun bt642 => (some (bt642.1, bt627.2.1, bt627.2.2.1, bt642.2.1, bt642.2.2))) else (if bt639.1 = 1 then ((spec_l03List.f k s0_0 bt639.2.1 bt639.2.2).bind fun bt647 => (some (bt627.1, bt647.1, bt627.2.2.1, bt647.2.1, bt647.2.2))) else (if bt639.1 = 2 then ((spec_l01Next.f s0_0 bt639.2.1 bt639.2.2 8).bind fun bt652 => ((spec_l01Next.f s0_0 bt652.2.1 bt652.2.2 5).bind fun bt655 => ((spec_l01Next.f s0_0 bt655.2.1 bt655.2.2 14).bind fun bt658 => (if bt627.2.2.1.length < 3518437208883 then (some (bt627.1, bt627.2.1, (bt627.2.2.1 ++ [(⟨wrap64 (bt652.1 - 1), bt655.1, (⟨#[112, 101, 111, 110, 121]⟩ : ByteArray), wrap64 (bt658.1 - 1)⟩ : S58)]), bt658.2.1, bt658.2.2)) else (none))))) else (if bt639.1 = 3 then (if (bt627.2.2.1.length : Int) > 0 then (if 0 < (bt627.2.2.1.length : Int) then (spec_l08Draw.l0 k s0_0 bt639.2.1 bt639.2.2 bt627.1 bt627.2.1 bt627.2.2.1 ((rd_T58 bt627.2.2.1 0).f0) ((rd_T58 bt627.2.2.1 0).f1) ((rd_T58 bt627.2.2.1 0).f2) ((rd_T58 bt627.2.2.1 0).f3)) else (none)) else (some (bt627.1, bt627.2.1, bt627.2.2.1, bt639.2.1, bt639.2.2))) else (some (bt627.1, bt627.2.1, bt627.2.2.1, bt639.2.1, bt639.2.2)))))))
def spec_l08Draw.T8 : Bool × List (List Nat × List Nat) := (true, [([], []), ([0], [0]), ([], []), ([2], [2]), ([3], [3]), ([], []), ([5, 3], [5]), ([], []), ([7, 6], [7]), ([8], [8]), ([4, 6, 9], [4, 6, 9]), ([10], [10]), ([1, 11, 8], [1, 11]), ([0, 1, 2, 3, 4, 5, 6, 7, 8, 9, 10, 11, 12], []), ([13, 12, 12, 0, 1, 2, 3, 4, 5, 6, 7, 8, 9, 10, 11, 12], [12, 13])])
def spec_l08Draw.B8 : List Nat := [0, 1, 0, 4, 12, 0, 44, 0, 236, 492, 1020, 2044, 4095, 8191, 16383]
theorem spec_l08Draw.tab8 : rtab .any (opsOf Try.f61 8) = spec_l08Draw.T8 := by kernel_rfl
theorem spec_l08Draw.bits8 : waitsOk spec_l08Draw.T8.2 spec_l08Draw.B8 = true := by kernel_rfl
set_option maxHeartbeats 8000000 in
set_option maxRecDepth 100000 in
theorem spec_l08Draw.calls (k : Nat) (g : Nat) (s0_0 : List Int) (s0_1 : Int) (s0_2 : Int) (r1 : List (S104)) (r2 : List (S61)) (r3 : List (S58)) (r4 : Int) (r5 : Int) (w0 w : World) (hI : IsS116 w0 w g s0_0 s0_1 s0_2) (hB : Below w0.heap.size w0 w) (h : spec_l08Draw.f k s0_0 s0_1 s0_2 = some (r1, r2, r3, r4, r5)) :
  Calls Try.prog 61 #[.pointer (some ⟨g, 0, none⟩)] w fun e w' => ∃ v0_ v1_ v2_ : Value, e = .returned (.agg #[v0_, v1_, v2_]) ∧ Kd.R k104 104 w' w.heap.size (fun _ => True) v0_ r1 ∧ Kd.R k61 61 w' w.heap.size (fun _ => True) v1_ r2 ∧ Kd.R k58 58 w' w.heap.size (fun _ => True) v2_ r3 ∧ IsS116 w0 w' g s0_0 r4 r5 ∧ Below w0.heap.size w0 w' ∧ KeepBut w w' g none := by
 have hu35 := Try.underlying35; have hu58 := Try.underlying58; have HI0 := am_ hI; have HK := am_ (KeepBut.refl w g none); have HL := am_ hB.size; clear hI; have HW0 := am_ hB.size; have HB := am_ hB; clear hB; have H : ((spec_l08Good.f k s0_0 s0_1 s0_2).bind fun bt627 => ((spec_l01Next.f s0_0 bt627.2.2.2.1 bt627.2.2.2.2 40).bind fun bt639 => (if bt639.1 = 0 then ((spec_l07Draw.f k s0_0 bt639.2.1 bt639.2.2).bind fun bt642 => (some (bt642.1, bt627.2.1, bt627.2.2.1, bt642.2.1, bt642.2.2))) else (if bt639.1 = 1 then ((spec_l03List.f k s0_0 bt639.2.1 bt639.2.2).bind fun bt647 => (some (bt627.1, bt647.1, bt627.2.2.1, bt647.2.1, bt647.2.2))) else (if bt639.1 = 2 then ((spec_l01Next.f s0_0 bt639.2.1 bt639.2.2 8).bind fun bt652 => ((spec_l01Next.f s0_0 bt652.2.1 bt652.2.2 5).bind fun bt655 => ((spec_l01Next.f s0_0 bt655.2.1 bt655.2.2 14).bind fun bt658 => (if bt627.2.2.1.length < 3518437208883 then (some (bt627.1, bt627.2.1, (bt627.2.2.1 ++ [(⟨wrap64 (bt652.1 - 1), bt655.1, (⟨#[112, 101, 111, 110, 121]⟩ : ByteArray), wrap64 (bt658.1 - 1)⟩ : S58)]), bt658.2.1, bt658.2.2)) else (none))))) else (if bt639.1 = 3 then (if (bt627.2.2.1.length : Int) > 0 then (if 0 < (bt627.2.2.1.length : Int) then (spec_l08Draw.l0 k s0_0 bt639.2.1 bt639.2.2 bt627.1 bt627.2.1 bt627.2.2.1 ((rd_T58 bt627.2.2.1 0).f0) ((rd_T58 bt627.2.2.1 0).f1) ((rd_T58 bt627.2.2.1 0).f2) ((rd_T58 bt627.2.2.1 0).f3)) else (none)) else (some (bt627.1, bt627.2.1, bt627.2.2.1, bt639.2.1, bt639.2.2))) else (some (bt627.1, bt627.2.1, bt627.2.2.1, bt639.2.1, bt639.2.2)))))))) = some (r1, r2, r3, r4, r5) := h; clear h; replace H := Option.bind_eq_some_iff.mp H; obtain ⟨⟨t627, t630, t633, t636, t637⟩, A20, H⟩ := H
 dsimp only at H
 have A2 := am_ A20; clear A20; replace H := Option.bind_eq_some_iff.mp H; obtain ⟨⟨t639, t640, t641⟩, A30, H⟩ := H
 dsimp only at H
 have A3 := am_ A30; clear A30; have HS_ := am_ H; clear H
 go_enter Try.func61, Try.ntmps61
 go_wp2_with (first | ((with_reducible refine gate_dst (N := 2) rfl ?_); refine boxZ 2 #[.slice none 0 0, .slice none 0 0, .slice none 0 0] 35 ?_; intro gb626 hg w6 hbox hb; replace HB := (bsZ Zal hb); replace BK626 := am_ (hbox); replace GW626 := am_ ((Zap : w.heap.size ≤ gb626)); replace GE626 := am_ ((Nat.le_trans HW0.out (Zap : w.heap.size ≤ gb626) : w0.heap.size ≤ gb626)); replace HK := am_ (KeepBut.trans Zam (KeepBut.of_below hb g none) (.inl rfl)); replace NB0_626 := am_ ((Zaq : g ≠ gb626)); replace NB626_0 := am_ ((Zar : gb626 ≠ g)); replace HI0 := am_ (IsS116.below Zak hb); clear hb hbox hg) | ((with_reducible refine gate_callee (f := 97) rfl ?_); refine gZ 6 Try.func97 #[.pointer (some ⟨g, 0, none⟩)] ?_; (with_reducible refine (spec_l08Good.calls k g s0_0 s0_1 s0_2 t627 t630 t633 t636 t637 w0 _ ?_ ?_ A2.out).mono ?_); exact (Zas NB0_626); exact (Zat GE626); rintro e w7 ⟨v628, v631, v634, rfl, ho0, ho1, ho2, hi, hb, hk⟩; refine ⟨_, rfl, ?_⟩; replace BK626 := (kbZ BK626 hk NB626_0); replace HO629 := am_ (Kd.R_lower ho0 (keep_size (w := w) (g := g) (row := none) (Zau GW626))); replace HO632 := am_ (Kd.R_lower ho1 (keep_size (w := w) (g := g) (row := none) (Zau GW626))); replace HO635 := am_ (Kd.R_lower ho2 (keep_size (w := w) (g := g) (row := none) (Zau GW626))); replace HK := am_ (KeepBut.trans (Zau GW626) hk (.inl rfl)); replace HB := am_ (hb); replace HI0 := am_ (hi); clear hb hk hi ho0 ho1 ho2) | ((with_reducible refine gate_dst (N := 3) rfl ?_); refine boxZ 3 #[.slice none 0 0, .slice none 0 0, .slice none 0 0] 35 ?_; intro gb638 hg w8 hbox hb; replace HO629 := (hbZ HO629 hb); replace HO632 := (hbZ HO632 hb); replace HO635 := (hbZ HO635 hb); replace HB := (bsZ (Zat GE626) hb); replace BK638 := am_ (hbox); replace GW638 := am_ (((Zav GW626) : w.heap.size ≤ gb638)); replace GE638 := am_ ((Nat.le_trans HW0.out ((Zav GW626) : w.heap.size ≤ gb638) : w0.heap.size ≤ gb638)); replace HK := am_ (KeepBut.trans (Zau GW626) (KeepBut.of_below hb g none) (.inl rfl)); replace NB626_638 := am_ ((by rw [hg]; exact Nat.ne_of_lt (blk_lt (g := gb626) (b0Z BK626)) : gb626 ≠ gb638)); replace NB638_626 := am_ ((by rw [hg]; exact Nat.ne_of_gt (blk_lt (g := gb626) (b0Z BK626)) : gb638 ≠ gb626)); replace BK626 := (bkZ BK626 hb); replace NB0_638 := am_ ((by rw [hg]; exact Nat.ne_of_lt (IsS116.lt (show IsS116 w0 _ g s0_0 t636 t637 from (Zas NB0_626))) : g ≠ gb638)); replace NB638_0 := am_ ((by rw [hg]; exact Nat.ne_of_gt (IsS116.lt (show IsS116 w0 _ g s0_0 t636 t637 from (Zas NB0_626))) : gb638 ≠ g)); replace HI0 := am_ (IsS116.below (Zas NB0_626) hb); clear hb hbox hg; obtain ⟨Ao9, co9, eo9⟩ := Kd.R_slice HO629.out; subst eo9; have hnb10 := NB638_626.out; have hnc10 := NB626_638.out; have hnb11 := NB638_0.out; have hnc11 := NB0_638.out; refine ci3 BK638 ?_; intros; obtain ⟨Ao13, co13, eo13⟩ := Kd.R_slice HO632.out; subst eo13; obtain ⟨Ao14, co14, eo14⟩ := Kd.R_slice HO635.out; subst eo14) | ((with_reducible refine gate_callee (f := 62) rfl ?_); refine gZ 8 Try.func62 #[.pointer (some ⟨g, 0, none⟩), .int .i64 40] ?_; (with_reducible refine (spec_l01Next.calls g s0_0 t636 t637 40 t639 t640 t641 w0 _ ?_ ?_ A3.out).mono ?_); exact (Zay NB0_626 NB0_638); exact (Zaz GE626 GE638); rintro e w15 ⟨rfl, hi, hb, hk⟩; refine ⟨_, rfl, ?_⟩; replace BK626 := am_ (KeepBut.blk hk (g' := gb626) (bfZ BK626 NB626_638) NB626_0.out (by simp)); replace HO629 := (hoZ (IsS116.apart (show IsS116 w0 _ g s0_0 t636 t637 from (Zay NB0_626 NB0_638)) (Zaf HO629 BK638) (by decide)) hk); replace HO632 := (hoZ (IsS116.apart (show IsS116 w0 _ g s0_0 t636 t637 from (Zay NB0_626 NB0_638)) (Zaf HO632 BK638) (by decide)) hk); replace HO635 := (hoZ (IsS116.apart (show IsS116 w0 _ g s0_0 t636 t637 from (Zay NB0_626 NB0_638)) (Zaf HO635 BK638) (by decide)) hk); replace BK638 := am_ (KeepBut.blk hk (g' := gb638) (o := .cells #[.slice Ao9 t627.length co9, .slice Ao13 t630.length co13, .slice Ao14 t633.length co14] 35 (0, 0)) (bpZ BK638) NB638_0.out (by simp)); replace HK := am_ (KeepBut.trans (Zba GW626 GW638) hk (.inl rfl)); replace HB := am_ (hb); replace HI0 := am_ (hi); clear hb hk hi; refine ?roundEnd))
 case roundEnd =>
  by_cases c4 : t639 = 0
  ·have H := HS_.out
   clear HS_; rw [if_pos c4] at H; have c4b0 := beq_iff_eq.mpr c4; have c4b1 := bne_eq_false_iff_eq.mpr c4; clear c4; replace H := Option.bind_eq_some_iff.mp H; obtain ⟨⟨t642, t645, t646⟩, A50, H⟩ := H
   dsimp only at H
   have A5 := am_ A50; clear A50; simp only [Option.some.injEq, Prod.mk.injEq] at H; obtain ⟨rfl, rfl, rfl, rfl, rfl⟩ := H
   go_wp2_with (first | ((with_reducible refine gate_callee (f := 98) rfl ?_); refine gZ 12 Try.func98 #[.pointer (some ⟨g, 0, none⟩)] ?_; (with_reducible refine (spec_l07Draw.calls k g s0_0 t640 t641 t642 t645 t646 w0 _ ?_ ?_ A5.out).mono ?_); exact (Zay NB0_626 NB0_638); exact (Zaz GE626 GE638); rintro e w16 ⟨v643, rfl, ho0, hi, hb, hk⟩; refine ⟨_, rfl, ?_⟩; replace BK626 := (kbZ BK626 hk NB626_0); replace HO632 := (hoZ (IsS116.apart (show IsS116 w0 _ g s0_0 t640 t641 from (Zay NB0_626 NB0_638)) (Zr HO632) (by decide)) hk); replace HO635 := (hoZ (IsS116.apart (show IsS116 w0 _ g s0_0 t640 t641 from (Zay NB0_626 NB0_638)) (Zr HO635) (by decide)) hk); replace BK638 := (kbZ BK638 hk NB638_0); replace HO644 := am_ (Kd.R_lower (Kd.R_new' ho0 (Kd.R_lt (Zr HO629))) (keep_size (w := w) (g := g) (row := none) (Zba GW626 GW638))); replace HO629 := am_ (Kd.R_mono (Kd.R_told (Kd.R_oldK (IsS116.apart (show IsS116 w0 _ g s0_0 t640 t641 from (Zay NB0_626 NB0_638)) (Zr HO629) (by decide)) hk) (Kd.R_base ho0)) (fun _ h_ => h_.1)); replace HK := am_ (KeepBut.trans (Zba GW626 GW638) hk (.inl rfl)); replace HB := am_ (hb); replace HI0 := am_ (hi); clear hb hk hi ho0; obtain ⟨Ao17, co17, eo17⟩ := Kd.R_slice HO644.out; subst eo17; refine ci3 BK638 ?_; intros; have hnb19 := NB626_0.out; have hnc19 := NB0_626.out; refine ci3 BK626 ?_; intros))
   refine bodyPost_ret (results_cell_row rfl _ _ gb626 35 #[.slice Ao17 t642.length co17, .slice Ao13 t630.length co13, .slice Ao14 t633.length co14] (0, 0) _ rfl (bmZ BK626 NB626_638) Try.underlying35 rfl Zm) rfl ?_; exact ⟨_, _, _, Zl, (Zcm HO644 BK638 BK626), (Zcm HO632 BK638 BK626), (Zcm HO635 BK638 BK626), (Zay NB0_626 NB0_638), (Zaz GE626 GE638), (Zba GW626 GW638)⟩
  ·have H := HS_.out
   clear HS_; rw [if_neg c4] at H; have c4b0 := beq_eq_false_iff_ne.mpr c4; have c4b1 := bne_iff_ne.mpr c4; have HS_ := am_ H; clear H
   by_cases c21 : t639 = 1
   ·have H := HS_.out
    clear HS_; rw [if_pos c21] at H; have c21b0 := beq_iff_eq.mpr c21; have c21b1 := bne_eq_false_iff_eq.mpr c21; clear c21; replace H := Option.bind_eq_some_iff.mp H; obtain ⟨⟨t647, t650, t651⟩, A220, H⟩ := H
    dsimp only at H
    have A22 := am_ A220; clear A220; simp only [Option.some.injEq, Prod.mk.injEq] at H; obtain ⟨rfl, rfl, rfl, rfl, rfl⟩ := H
    go_wp2_with (first | ((with_reducible refine gate_callee (f := 99) rfl ?_); refine gZ 17 Try.func99 #[.pointer (some ⟨g, 0, none⟩)] ?_; (with_reducible refine (spec_l03List.calls k g s0_0 t640 t641 t647 t650 t651 w0 _ ?_ ?_ A22.out).mono ?_); exact (Zay NB0_626 NB0_638); exact (Zaz GE626 GE638); rintro e w33 ⟨v648, rfl, ho0, hi, hb, hk⟩; refine ⟨_, rfl, ?_⟩; replace BK626 := (kbZ BK626 hk NB626_0); replace HO629 := (hoZ (IsS116.apart (show IsS116 w0 _ g s0_0 t640 t641 from (Zay NB0_626 NB0_638)) (Zr HO629) (by decide)) hk); replace HO635 := (hoZ (IsS116.apart (show IsS116 w0 _ g s0_0 t640 t641 from (Zay NB0_626 NB0_638)) (Zr HO635) (by decide)) hk); replace BK638 := (kbZ BK638 hk NB638_0); replace HO649 := am_ (Kd.R_lower (Kd.R_new' ho0 (Kd.R_lt (Zr HO632))) (keep_size (w := w) (g := g) (row := none) (Zba GW626 GW638))); replace HO632 := am_ (Kd.R_mono (Kd.R_told (Kd.R_oldK (IsS116.apart (show IsS116 w0 _ g s0_0 t640 t641 from (Zay NB0_626 NB0_638)) (Zr HO632) (by decide)) hk) (Kd.R_base ho0)) (fun _ h_ => h_.1)); replace HK := am_ (KeepBut.trans (Zba GW626 GW638) hk (.inl rfl)); replace HB := am_ (hb); replace HI0 := am_ (hi); clear hb hk hi ho0; obtain ⟨Ao34, co34, eo34⟩ := Kd.R_slice HO649.out; subst eo34; refine ci3 BK638 ?_; intros; have hnb36 := NB626_0.out; have hnc36 := NB0_626.out; refine ci3 BK626 ?_; intros))
    refine bodyPost_ret (results_cell_row rfl _ _ gb626 35 #[.slice Ao9 t627.length co9, .slice Ao34 t647.length co34, .slice Ao14 t633.length co14] (0, 0) _ rfl (bmZ BK626 NB626_638) Try.underlying35 rfl Zm) rfl ?_; exact ⟨_, _, _, Zl, (Zcn HO629 BK638 BK626), (Zcn HO649 BK638 BK626), (Zcn HO635 BK638 BK626), (Zay NB0_626 NB0_638), (Zaz GE626 GE638), (Zba GW626 GW638)⟩
   ·have H := HS_.out
    clear HS_; rw [if_neg c21] at H; have c21b0 := beq_eq_false_iff_ne.mpr c21; have c21b1 := bne_iff_ne.mpr c21; have HS_ := am_ H; clear H
    by_cases c38 : t639 = 2
    ·have H := HS_.out
     clear HS_; rw [if_pos c38] at H; have c38b0 := beq_iff_eq.mpr c38; have c38b1 := bne_eq_false_iff_eq.mpr c38; clear c38; replace H := Option.bind_eq_some_iff.mp H; obtain ⟨⟨t652, t653, t654⟩, A390, H⟩ := H
     dsimp only at H
     have A39 := am_ A390; clear A390; replace H := Option.bind_eq_some_iff.mp H; obtain ⟨⟨t655, t656, t657⟩, A400, H⟩ := H
     dsimp only at H
     have A40 := am_ A400; clear A400; replace H := Option.bind_eq_some_iff.mp H; obtain ⟨⟨t658, t659, t660⟩, A410, H⟩ := H
     dsimp only at H
     have A41 := am_ A410; clear A410
     by_cases c42 : t633.length < 3518437208883
     ·rw [if_pos c42] at H
      have LMc42 := am_ c42; clear c42; obtain ⟨y661, hy661⟩ : ∃ y_ : List (S58), y_ = (t633 ++ [(⟨wrap64 (t652 - 1), t655, (⟨#[112, 101, 111, 110, 121]⟩ : ByteArray), wrap64 (t658 - 1)⟩ : S58)]) := ⟨_, rfl⟩
      (first | (rw [← hy661] at H; with_reducible replace H := bindZ H) | rw [← hy661] at H | skip)
      have Ny661 := am_ hy661; clear hy661; simp only [Option.some.injEq, Prod.mk.injEq] at H; obtain ⟨rfl, rfl, rfl, rfl, rfl⟩ := H
      try go_wp2_with (first | fail)
      replace HO629 := am_ (Kd.R_drew HO629.out); replace HO632 := am_ (Kd.R_drew HO632.out); replace HO635 := am_ (Kd.R_drew HO635.out); replace BK626 := am_ (blk_drew BK626.out); replace BK638 := am_ (blk_drew BK638.out); replace HI0 := am_ (IsS116.drew HI0.out); replace HK := am_ (keep_drew HK.out); replace HB := am_ (below_drew1 HB.out); refine start_ (n := 15) (S := fun w' => w'.cell? ⟨gb638, 0, none⟩ = some (.slice Ao9 t627.length co9) ∧ w'.cell? ⟨gb638, 1, none⟩ = some (.slice Ao13 t630.length co13) ∧ w'.cell? ⟨gb638, 2, none⟩ = some (.slice Ao14 t633.length co14)) (ds := [14]) (bT 15 0) Zm rfl rfl ⟨(blk_cell BK638.out 0).trans rfl, (blk_cell BK638.out 1).trans rfl, (blk_cell BK638.out 2).trans rfl⟩ (fun hHeld => ?_); refine with_tabW spec_l08Draw.tab8 spec_l08Draw.bits8 (fun HT_ HW_ => ?_); generalize w15.drew = w53 at HO629 HO632 HO635 BK626 BK638 HI0 HK HB hHeld ⊢; refine pureZ HT_ 0 (some 21) (bT 15 1) ?_; refine pureZ HT_ 2 (some 23) (bB 15 5) ?_; refine pureZ HT_ 5 (some 26) (bB 15 37) ?_; refine pureZ HT_ 7 (some 28) (bB 15 165) ?_; refine takeZ3 HT_ HW_ 1 (some 22) (bB 15 167) hHeld ?_; refine one_ (i := 3) (N := some 24) (bB 15 175) rfl rfl (one_of HT_.out Zm) (by decide) (fun K hK => ?_); refine goes_ Try.func62 Zm rfl #[.pointer (some ⟨g, 0, none⟩), .int .i64 8] (by rfl) rfl rfl Zn ?_
      with_reducible refine (spec_l01Next.calls g s0_0 t640 t641 8 t652 t653 t654 w0 _ ?side1 ?side2 A39.out).mono ?_
      (case side1 => exact (Zay NB0_626 NB0_638))
      (case side2 => exact (Zaz GE626 GE638))
      rintro e w54 ⟨rfl, hi, hb, hk⟩; refine ⟨_, rfl, ?_⟩; replace BK626 := (kbZ BK626 hk NB626_0); replace HO629 := (hoZ (IsS116.apart (show IsS116 w0 _ g s0_0 t640 t641 from (Zay NB0_626 NB0_638)) (Zr HO629) (by decide)) hk); replace HO632 := (hoZ (IsS116.apart (show IsS116 w0 _ g s0_0 t640 t641 from (Zay NB0_626 NB0_638)) (Zr HO632) (by decide)) hk); replace HO635 := (hoZ (IsS116.apart (show IsS116 w0 _ g s0_0 t640 t641 from (Zay NB0_626 NB0_638)) (Zr HO635) (by decide)) hk); replace BK638 := (kbZ BK638 hk NB638_0); replace HK := am_ (KeepBut.trans (Zba GW626 GW638) hk (.inl rfl)); replace HB := am_ (hb); replace HI0 := am_ (hi)
      (try clear hb)
      (try clear hb2)
      (try clear hk)
      (try clear hi)
      refine hK.out _ _ (Zbc BK638) (fun hHeld => ?_); clear hK K; refine normZ 24 ?_; refine pureZ HT_ 4 (some 25) (bB 15 191) ?_; refine one_ (i := 6) (N := some 27) (bT 15 8) rfl rfl (one_of HT_.out Zm) (by decide) (fun K hK => ?_); refine goes_ Try.func62 Zm rfl #[.pointer (some ⟨g, 0, none⟩), .int .i64 5] (by rfl) rfl rfl Zn ?_
      with_reducible refine (spec_l01Next.calls g s0_0 t653 t654 5 t655 t656 t657 w0 _ ?side1 ?side2 A40.out).mono ?_
      (case side1 => exact (Zay NB0_626 NB0_638))
      (case side2 => exact (Zaz GE626 GE638))
      rintro e w55 ⟨rfl, hi, hb, hk⟩; refine ⟨_, rfl, ?_⟩; replace BK626 := (kbZ BK626 hk NB626_0); replace HO629 := (hoZ (IsS116.apart (show IsS116 w0 _ g s0_0 t653 t654 from (Zay NB0_626 NB0_638)) (Zr HO629) (by decide)) hk); replace HO632 := (hoZ (IsS116.apart (show IsS116 w0 _ g s0_0 t653 t654 from (Zay NB0_626 NB0_638)) (Zr HO632) (by decide)) hk); replace HO635 := (hoZ (IsS116.apart (show IsS116 w0 _ g s0_0 t653 t654 from (Zay NB0_626 NB0_638)) (Zr HO635) (by decide)) hk); replace BK638 := (kbZ BK638 hk NB638_0); replace HK := am_ (KeepBut.trans (Zba GW626 GW638) hk (.inl rfl)); replace HB := am_ (hb); replace HI0 := am_ (hi)
      (try clear hb)
      (try clear hb2)
      (try clear hk)
      (try clear hi)
      refine hK.out _ _ (Zbc BK638) (fun hHeld => ?_); clear hK K; refine normZ 27 ?_; refine one_ (i := 8) (N := some 29) (bT 15 9) rfl rfl (one_of HT_.out Zm) (by decide) (fun K hK => ?_); refine goes_ Try.func62 Zm rfl #[.pointer (some ⟨g, 0, none⟩), .int .i64 14] (by rfl) rfl rfl Zn ?_
      with_reducible refine (spec_l01Next.calls g s0_0 t656 t657 14 t658 t659 t660 w0 _ ?side1 ?side2 A41.out).mono ?_
      (case side1 => exact (Zay NB0_626 NB0_638))
      (case side2 => exact (Zaz GE626 GE638))
      rintro e w56 ⟨rfl, hi, hb, hk⟩; refine ⟨_, rfl, ?_⟩; replace BK626 := (kbZ BK626 hk NB626_0); replace HO629 := (hoZ (IsS116.apart (show IsS116 w0 _ g s0_0 t656 t657 from (Zay NB0_626 NB0_638)) (Zr HO629) (by decide)) hk); replace HO632 := (hoZ (IsS116.apart (show IsS116 w0 _ g s0_0 t656 t657 from (Zay NB0_626 NB0_638)) (Zr HO632) (by decide)) hk); replace HO635 := (hoZ (IsS116.apart (show IsS116 w0 _ g s0_0 t656 t657 from (Zay NB0_626 NB0_638)) (Zr HO635) (by decide)) hk); replace BK638 := (kbZ BK638 hk NB638_0); replace HK := am_ (KeepBut.trans (Zba GW626 GW638) hk (.inl rfl)); replace HB := am_ (hb); replace HI0 := am_ (hi)
      (try clear hb)
      (try clear hb2)
      (try clear hk)
      (try clear hi)
      refine hK.out _ _ (Zbc BK638) (fun hHeld => ?_); clear hK K; refine normZ 29 ?_; refine pureZ HT_ 9 (some 30) (bT 15 10) ?_; refine pureZ HT_ 10 (some 31) (bT 15 11) ?_; refine one_ (i := 11) (N := some 32) (bT 15 12) rfl rfl (one_of HT_.out Zm) (by decide) (fun K hK => ?_); refine value_ (w1 := ?_) (v := ?_) (by rfl) rfl ?_ ?_; rotate_left 2
      ·go_simp
       constructor
       ·rfl
       ·rfl
      refine hK.out _ _ ⟨(blk_cell (blk_alloc BK638.out _) 0).trans rfl, (blk_cell (blk_alloc BK638.out _) 1).trans rfl, (blk_cell (blk_alloc BK638.out _) 2).trans rfl⟩ (fun hHeld => ?_); clear hK K; refine normZ 32 ?_; refine one_ (i := 12) (N := some 33) (bT 15 13) rfl rfl (one_of HT_.out Zm) (by decide) (fun K hK => ?_); refine Kd.R_append_step k58 w.heap.size (by rfl) (.tmp 22) (.tmp 32) 33 58 (.agg #[(.int .i64 0), (.int .i64 0), (.string ⟨#[]⟩), (.int .i64 0)]) 40 rfl Try.underlying33 info58 rfl (by decide) (by omega) (.slice Ao14 t633.length co14) t633 (⟨wrap64 (t652 - 1), t655, (⟨#[112, 101, 111, 110, 121]⟩ : ByteArray), wrap64 (t658 - 1)⟩ : S58) [.int .i64 (wrap64 (t652 - 1)), .int .i64 t655, .string (⟨#[112, 101, 111, 110, 121]⟩ : ByteArray), .int .i64 (wrap64 (t658 - 1))] (fun _ => True) (fun _ => False) rfl rfl ?aP (fun _ hk => hk.elim) ?aF ?aO (Below.refl _ _) ?aS ?aL ?_
      (case aP => exact k58_mkM _ _ _ (⟨wrap64 (t652 - 1), t655, (⟨#[112, 101, 111, 110, 121]⟩ : ByteArray), wrap64 (t658 - 1)⟩ : S58))
      (case aF => exact (fun _ _ => trivial))
      (case aO => exact (Zr HO635))
      (case aS => exact (keep_size (w := w) (g := g) (row := none) (Zba GW626 GW638)))
      (case aL => have := LMc42.out; omega)
      intro v662 w57 ho hb hg hat; rw [← Ny661.out] at ho; replace BK626 := am_ (blk_grown (g := gb626) (b0Z BK626) hg (Kd.R_ne HO635.out BK626.out (by decide))); replace HO629 := am_ (Kd.R_over' (Zr HO629) (Kd.R_typed (Zr HO635)) (by decide) hg); replace HO632 := am_ (Kd.R_over' (Zr HO632) (Kd.R_typed (Zr HO635)) (by decide) hg); replace BK638 := am_ (blk_grown (g := gb638) (b0Z BK638) hg (Kd.R_ne HO635.out BK638.out (by decide))); replace HB := am_ (below_weaken (Zaz GE626 GE638) HL.out hb); replace HI0 := am_ (IsS116.grown (Zay NB0_626 NB0_638) hg (IsS116.own_ne HI0.out HO635.out (by decide))); replace HK := am_ (KeepBut.trans (Zba GW626 GW638) (KeepBut.of_grown hg g) (Kd.R_base2 HO635.out)); replace HO663 := am_ (ho); clear HO635; clear ho hb hg hat; obtain ⟨Ao58, co58, eo58⟩ := Kd.R_slice HO663.out
      (first | subst eo58 | (injection eo58 with f1_ f2_ f3_; have f4_ := f1_.symm; have f5_ := f3_.symm; clear f1_ f2_ f3_; subst f4_; subst f5_))
      refine hK.out _ _ (Zbc BK638) (fun hHeld => ?_); clear hK K; refine normZ 33 ?_; refine pureZ HT_ 13 (some 34) (bT 15 14) ?_; refine last_ (i := 14) (N := none) (bT 15 15) rfl rfl (one_of HT_.out Zm) (by decide) (fun K hK => ?_); have hs59 : w57.cell? ⟨gb638, 2, none⟩ = some (.slice Ao14 t633.length co14) := (blk_cell BK638.out 2).trans rfl; have hfs59 := blk_frozen BK638.out 2; have hns59_0 := NB626_638.out; have hms59_0 := NB638_626.out; refine skip_ (w1 := ?_) (by rfl) rfl ?_ ?_; rotate_left
      ·go_simp
       rfl
      refine hK.out _ _ ?_; clear hK K; refine done_ (done_of HT_.out Zm) ?_; refine ci3 BK638 ?_; intros; have hnb61 := NB626_0.out; have hnc61 := NB0_626.out; refine ci3 BK626 ?_; intros
      try go_wp2
      refine bodyPost_ret (results_cell_row rfl _ _ gb626 35 #[.slice Ao9 t627.length co9, .slice Ao13 t630.length co13, .slice Ao58 y661.length co58] (0, 0) _ rfl (bmZ BK626 NB626_638) Try.underlying35 rfl Zm) rfl ?_; exact ⟨_, _, _, Zl, (Zco HO629 BK638 BK626), (Zco HO632 BK638 BK626), (Zco HO663 BK638 BK626), (Zay NB0_626 NB0_638), (Zaz GE626 GE638), (Zba GW626 GW638)⟩
     ·rw [if_neg c42] at H
      exact absurd H (by simp)
    ·have H := HS_.out
     clear HS_; rw [if_neg c38] at H; have c38b0 := beq_eq_false_iff_ne.mpr c38; have c38b1 := bne_iff_ne.mpr c38; have HS_ := am_ H; clear H; refine ci3 BK638 ?_; intros
     by_cases c63 : t639 = 3
     ·have H := HS_.out
      clear HS_; rw [if_pos c63] at H; have c63b0 := beq_iff_eq.mpr c63; have c63b1 := bne_eq_false_iff_eq.mpr c63; clear c63; have HS_ := am_ H; clear H
      by_cases c64 : (t633.length : Int) > 0
      ·have H := HS_.out
       clear HS_; rw [if_pos c64] at H; have c64b0 : decide (0 < (t633.length : Int)) = true := decide_eq_true c64; have c64b1 : decide (0 < t633.length) = true := decide_eq_true (by omega); clear c64
       by_cases c65 : 0 < (t633.length : Int)
       ·rw [if_pos c65] at H
        have c65b0 := decide_eq_true c65; have c65b1 : decide (0 < t633.length) = true := decide_eq_true (by omega); clear c65; have H' := am_ H; clear H; have p664 : 0 ≤ (0 : Int) := (by omega); have q664 : 0 < (t633.length : Int) := of_decide_eq_true Zc; obtain ⟨ad664, e664, hx664_0, hx664_1, hx664_2, hx664_3⟩ := at_T58 (Kd.R_reads' HO635.out).2.2 0 p664 q664
        cases e664
        have qi664 : (0 < t633.length) = True := eq_true (by omega)
        (try rw [show ((0 : Int)).toNat = 0 from rfl] at hx664_0)
        (try rw [show 0 * 4 = 0 from rfl] at hx664_0)
        (try rw [Addr.add_zero'] at hx664_0)
        (try rw [show ((0 : Int)).toNat = 0 from rfl] at hx664_1)
        (try rw [show 0 * 4 = 0 from rfl] at hx664_1)
        (try rw [Addr.add_zero'] at hx664_1)
        (try rw [show ((0 : Int)).toNat = 0 from rfl] at hx664_2)
        (try rw [show 0 * 4 = 0 from rfl] at hx664_2)
        (try rw [Addr.add_zero'] at hx664_2)
        (try rw [show ((0 : Int)).toNat = 0 from rfl] at hx664_3)
        (try rw [show 0 * 4 = 0 from rfl] at hx664_3)
        (try rw [Addr.add_zero'] at hx664_3)
        replace p664 := eq_true p664; replace q664 := eq_true q664
        go_wp2_with (first | ((with_reducible refine gate_dst (N := 4) rfl ?_); refine boxZ 4 #[.int .i64 0, .int .i64 0, .string (⟨#[]⟩ : ByteArray), .int .i64 0] 58 ?_; intro gb665 hg w77 hbox hb; replace HO629 := (hbZ HO629 hb); replace HO632 := (hbZ HO632 hb); replace HO635 := am_ (Kd.R_below (Kd.R_elderB (Zr HO635) gb665 (Nat.le_of_eq hg.symm)) hb); replace HB := (bsZ (Zaz GE626 GE638) hb); replace BK665 := am_ (hbox); replace GW665 := am_ (((Zbs GW626 GW638) : w.heap.size ≤ gb665)); replace GE665 := am_ ((Nat.le_trans HW0.out ((Zbs GW626 GW638) : w.heap.size ≤ gb665) : w0.heap.size ≤ gb665)); replace HK := am_ (KeepBut.trans (Zba GW626 GW638) (KeepBut.of_below hb g none) (.inl rfl)); replace NB626_665 := am_ ((by rw [hg]; exact Nat.ne_of_lt (blk_lt (g := gb626) (b0Z BK626)) : gb626 ≠ gb665)); replace NB665_626 := am_ ((by rw [hg]; exact Nat.ne_of_gt (blk_lt (g := gb626) (b0Z BK626)) : gb665 ≠ gb626)); replace BK626 := (bkZ BK626 hb); replace NB638_665 := am_ ((by rw [hg]; exact Nat.ne_of_lt (blk_lt (g := gb638) (b0Z BK638)) : gb638 ≠ gb665)); replace NB665_638 := am_ ((by rw [hg]; exact Nat.ne_of_gt (blk_lt (g := gb638) (b0Z BK638)) : gb665 ≠ gb638)); replace BK638 := (bkZ BK638 hb); replace NB0_665 := am_ ((by rw [hg]; exact Nat.ne_of_lt (IsS116.lt (show IsS116 w0 _ g s0_0 t640 t641 from (Zay NB0_626 NB0_638))) : g ≠ gb665)); replace NB665_0 := am_ ((by rw [hg]; exact Nat.ne_of_gt (IsS116.lt (show IsS116 w0 _ g s0_0 t640 t641 from (Zay NB0_626 NB0_638))) : gb665 ≠ g)); replace HI0 := am_ (IsS116.below (Zay NB0_626 NB0_638) hb); clear hb hbox hg; have hnb78 := NB665_626.out; have hnc78 := NB626_665.out; have hnb79 := NB665_638.out; have hnc79 := NB638_665.out; have hnb80 := NB665_0.out; have hnc80 := NB0_665.out; refine ci4 BK665 ?_; intros))
        go_loopg [] k (fun kq w' => ∃ (x1001_1 : Int) (x1002_1 : Int) (x639002_1 : List (S58)) (u639002 : Value), Aside0 (spec_l08Draw.l0 kq s0_0 x1001_1 x1002_1 t627 t630 x639002_1 ((rd_T58 t633 0).f0) ((rd_T58 t633 0).f1) ((rd_T58 t633 0).f2) ((rd_T58 t633 0).f3) = some (r1, r2, r3, r4, r5)) ∧ Aside0 (kq ≤ k) ∧ Aside0 (Kd.R k104 104 w' w.heap.size (fun _ => True) (.slice Ao9 t627.length co9) t627) ∧ Aside0 (Kd.R k61 61 w' w.heap.size (fun _ => True) (.slice Ao13 t630.length co13) t630) ∧ Aside0 (Kd.R k58 58 w' w.heap.size (fun k_ => k_ ≠ gb665) u639002 x639002_1) ∧ Aside0 (w'.heap[gb626]? = some (.cells #[(.slice none 0 0), (.slice none 0 0), (.slice none 0 0)] 35 (0, 0))) ∧ Aside0 (w'.heap[gb638]? = some (.cells #[(.slice Ao9 t627.length co9), (.slice Ao13 t630.length co13), u639002] 35 (0, 0))) ∧ Aside0 (w'.heap[gb665]? = some (.cells #[.int .i64 ((rd_T58 t633 0).f0), .int .i64 ((rd_T58 t633 0).f1), .string ((rd_T58 t633 0).f2), .int .i64 ((rd_T58 t633 0).f3)] 58 (0, 0))) ∧ Aside0 (IsS116 w0 w' g s0_0 x1001_1 x1002_1) ∧ Aside0 (KeepBut w w' g none) ∧ Aside0 (Below w0.heap.size w0 w'))
        case atStart => exact ⟨(t640), (t641), (t633), (.slice (some ad664) t633.length co14), H', ⟨Nat.le_refl _⟩, ⟨(Zbe HO629 BK665)⟩, ⟨(Zbe HO632 BK665)⟩, ⟨by (with_reducible repeat (first | apply Kd.R_alloc | apply Kd.R_drewN | apply Kd.R_drew)); exact Kd.R_mono (rfZ (Kd.R_mono HO635.out (fun k_ hk => (⟨hk, hk.2⟩ : _ ∧ k_ ≠ gb665)))) (fun _ hk => hk.1.2)⟩, ⟨(Zcp NB626_665 BK626)⟩, ⟨(Zcp NB638_665 BK638)⟩, ⟨by (with_reducible repeat (first | refine blk_drewN ?_ _ | refine blk_drew ?_ | refine blk_alloc ?_ _)); refine blk_put (cs := #[.int .i64 ((rd_T58 t633 0).f0), .int .i64 ((rd_T58 t633 0).f1), .string ((rd_T58 t633 0).f2), .int .i64 0]) ?_ 3 _ rfl; refine blk_put (cs := #[.int .i64 ((rd_T58 t633 0).f0), .int .i64 ((rd_T58 t633 0).f1), .string (⟨#[]⟩ : ByteArray), .int .i64 0]) ?_ 2 _ rfl; refine blk_put (cs := #[.int .i64 ((rd_T58 t633 0).f0), .int .i64 0, .string (⟨#[]⟩ : ByteArray), .int .i64 0]) ?_ 1 _ rfl; refine blk_put (cs := #[.int .i64 0, .int .i64 0, .string (⟨#[]⟩ : ByteArray), .int .i64 0]) ?_ 0 _ rfl; (with_reducible repeat (first | refine blk_drewN ?_ _ | refine blk_drew ?_ | refine blk_alloc ?_ _)); exact BK665.out⟩, ⟨(Zby NB0_626 NB0_638 NB0_665)⟩, ⟨(Zbv GW626 GW638 GW665)⟩, ⟨(Zbx GE626 GE638 GE665)⟩⟩
        case round =>
         clear H'
         try clear c1
         try clear c2
         try clear p2
         try clear c3
         try clear c4
         try clear c4b0
         try clear c4b1
         try clear c6
         try clear p6
         try clear q6
         try clear hx6
         try clear qi6
         try clear c7
         try clear c8
         try clear c9
         try clear c10
         try clear c11
         try clear c19
         try clear c21
         try clear c21b0
         try clear c21b1
         try clear c27
         try clear c28
         try clear c36
         try clear c38
         try clear c38b0
         try clear c38b1
         try clear c42
         try clear c47
         try clear c48
         try clear c61
         try clear c62
         try clear c63
         try clear c63b0
         try clear c63b1
         try clear c64
         try clear c64b0
         try clear c64b1
         try clear p64
         try clear c65
         try clear c65b0
         try clear c65b1
         try clear p66
         try clear q66
         try clear hx66
         try clear qi66
         try clear c70
         try clear c71
         try clear c78
         try clear c79
         try clear c80
         try clear hx664_0
         try clear hx664_1
         try clear hx664_2
         try clear hx664_3
         try clear p664
         try clear q664
         obtain ⟨x1001_1, x1002_1, x639002_1, u639002, HA, HK1, HO_639000, HO_639001, HO_639002, BK626, BK638, BK665, HI0, HK, HB⟩ := hrel
         cases gk with
         | zero => exact absurd HA.out (by simp [spec_l08Draw.l0])
         | succ k1 =>
          have H := HA.out; clear HA; simp only [spec_l08Draw.l0] at H; replace H := Option.bind_eq_some_iff.mp H; obtain ⟨⟨t666, t667, t668⟩, A820, H⟩ := H
          dsimp only at H
          have A82 := am_ A820; clear A820; have HS_ := am_ H; clear H
          try go_wp2
          replace HO_639000 := am_ (Kd.R_drew HO_639000.out); replace HO_639001 := am_ (Kd.R_drew HO_639001.out); replace HO_639002 := am_ (Kd.R_drew HO_639002.out); replace BK626 := am_ (blk_drew BK626.out); replace BK638 := am_ (blk_drew BK638.out); replace BK665 := am_ (blk_drew BK665.out); replace HI0 := am_ (IsS116.drew HI0.out); replace HK := am_ (keep_drew HK.out); replace HB := am_ (below_drew1 HB.out); obtain ⟨Ao86, co86, eo86⟩ := Kd.R_slice HO_639002.out
          (first | subst eo86 | (injection eo86 with f1_ f2_ f3_; have f4_ := f1_.symm; have f5_ := f3_.symm; clear f1_ f2_ f3_; subst f4_; subst f5_))
          refine start_ (n := 7) (S := fun w' => w'.cell? ⟨gb638, 0, none⟩ = some (.slice Ao9 t627.length co9) ∧ w'.cell? ⟨gb638, 1, none⟩ = some (.slice Ao13 t630.length co13) ∧ w'.cell? ⟨gb638, 2, none⟩ = some (.slice Ao86 x639002_1.length co86)) (ds := []) (bT 7 0) Zm rfl rfl ⟨(blk_cell BK638.out 0).trans rfl, (blk_cell BK638.out 1).trans rfl, (blk_cell BK638.out 2).trans rfl⟩ (fun hHeld => ?_); generalize wr.drew = w85 at HO_639000 HO_639001 HO_639002 BK626 BK638 BK665 HI0 HK HB hHeld ⊢; refine pure_ (i := 0) (N := some 45) (v := ?_) (a' := ?_) (bT 7 1) rfl rfl Zm (fun _ _ _ h => h) (Or.inl ⟨by rfl, ?_⟩) ?_ ?_; rotate_left
          ·intro w'
           go_simp
           with_reducible rfl
          rotate_left
          ·exact Zput
          refine pure_ (i := 3) (N := some 48) (v := ?_) (a' := ?_) (bB 7 9) rfl rfl Zm (fun _ _ _ h => h) (Or.inl ⟨by rfl, ?_⟩) ?_ ?_; rotate_left
          ·intro w'
           go_simp
           with_reducible rfl
          rotate_left
          ·exact Zput
          refine take_ (i := 1) (N := some 46) (v := ?_) (a' := ?_) (bB 7 11) rfl rfl Zm (fun _ _ _ h => h) (Or.inl ⟨by rfl, ?_⟩) hHeld ?_ ?_; rotate_left
          ·rintro w' ⟨s0, s1, s2⟩
           go_simp
           with_reducible rfl
          rotate_left
          ·exact Zput
          refine pure_ (i := 2) (N := some 47) (v := ?_) (a' := ?_) (bT 7 4) rfl rfl Zm (fun _ _ _ h => h) (Or.inl ⟨by rfl, ?_⟩) ?_ ?_; rotate_left
          ·intro w'
           go_simp
           with_reducible rfl
          rotate_left
          ·exact Zput
          refine one_ (i := 4) (N := some 49) (bT 7 5) rfl rfl Zm (by decide) (fun K hK => ?_); refine goes_ Try.func62 Zm rfl #[.pointer (some ⟨g, 0, none⟩), .int .i64 2] (by rfl) rfl rfl Zn ?_
          with_reducible refine (spec_l01Next.calls g s0_0 x1001_1 x1002_1 2 t666 t667 t668 w0 _ ?side1 ?side2 A82.out).mono ?_
          (case side1 => exact (Zby NB0_626 NB0_638 NB0_665))
          (case side2 => exact (Zbx GE626 GE638 GE665))
          rintro e w87 ⟨rfl, hi, hb, hk⟩; refine ⟨_, rfl, ?_⟩; replace HO_639000 := (hoZ (IsS116.apart (show IsS116 w0 _ g s0_0 x1001_1 x1002_1 from (Zby NB0_626 NB0_638 NB0_665)) (Zr HO_639000) (by decide)) hk); replace HO_639001 := (hoZ (IsS116.apart (show IsS116 w0 _ g s0_0 x1001_1 x1002_1 from (Zby NB0_626 NB0_638 NB0_665)) (Zr HO_639001) (by decide)) hk); replace HO_639002 := (hoZ (IsS116.apart (show IsS116 w0 _ g s0_0 x1001_1 x1002_1 from (Zby NB0_626 NB0_638 NB0_665)) (Zr HO_639002) (by decide)) hk); replace BK626 := (kbZ BK626 hk NB626_0); replace BK638 := (kbZ BK638 hk NB638_0); replace BK665 := (kbZ BK665 hk NB665_0); replace HK := am_ (KeepBut.trans (Zbv GW626 GW638 GW665) hk (.inl rfl)); replace HB := am_ (hb); replace HI0 := am_ (hi)
          (try clear hb)
          (try clear hb2)
          (try clear hk)
          (try clear hi)
          refine hK.out _ _ (Zbc BK638) (fun hHeld => ?_); clear hK K; refine normZ 49 ?_; refine pure_ (i := 5) (N := some 50) (v := ?_) (a' := ?_) (bT 7 6) rfl rfl Zm (fun _ _ _ h => h) (Or.inl ⟨by rfl, ?_⟩) ?_ ?_; rotate_left
          ·intro w'
           go_simp
           with_reducible rfl
          rotate_left
          ·exact Zput
          refine pure_ (i := 6) (N := some 51) (v := ?_) (a' := ?_) (bT 7 7) rfl rfl Zm (fun _ _ _ h => h) (Or.inl ⟨by rfl, ?_⟩) ?_ ?_; rotate_left
          ·intro w'
           go_simp
           with_reducible rfl
          rotate_left
          ·exact Zput
          refine done_ Zm ?_; have hnb88 := NB638_626.out; have hnc88 := NB626_638.out; have hnb89 := NB638_665.out; have hnc89 := NB665_638.out; have hnb90 := NB638_0.out; have hnc90 := NB0_638.out; refine ci3 BK638 ?_; intros; have hnb92 := NB665_626.out; have hnc92 := NB626_665.out
          by_cases c83 : (x639002_1.length : Int) < (wrap64 (20 + t666))
          ·have H := HS_.out
           clear HS_; rw [if_pos c83] at H; have c83b0 := decide_eq_true c83; clear c83
           by_cases c84 : x639002_1.length < 3518437208883
           ·rw [if_pos c84] at H
            have LMc84 := am_ c84; clear c84; obtain ⟨y669, hy669⟩ : ∃ y_ : List (S58), y_ = (x639002_1 ++ [(⟨((rd_T58 t633 0).f0), ((rd_T58 t633 0).f1), ((rd_T58 t633 0).f2), ((rd_T58 t633 0).f3)⟩ : S58)]) := ⟨_, rfl⟩
            (first | (rw [← hy669] at H; with_reducible replace H := bindZ H) | rw [← hy669] at H | skip)
            have Ny669 := am_ hy669; clear hy669; have H' := am_ H; clear H
            (try simp only [c83b0, Bool.not_true, Bool.not_false])
            have hnb93 := NB665_0.out; have hnc93 := NB0_665.out; refine ci4 BK665 ?_; intros
            try go_wp2_with (first | ((with_reducible refine gate_builtin (b := .append) (xs := #[.tmp 53, .tmp 55]) rfl ?_); at_builtin; refine Kd.R_append k58 w.heap.size rfl (.tmp 53) (.tmp 55) 33 58 (.agg #[(.int .i64 0), (.int .i64 0), (.string ⟨#[]⟩), (.int .i64 0)]) 40 rfl Try.underlying33 info58 rfl (by decide) (by omega) (.slice Ao86 x639002_1.length co86) x639002_1 (⟨((rd_T58 t633 0).f0), ((rd_T58 t633 0).f1), ((rd_T58 t633 0).f2), ((rd_T58 t633 0).f3)⟩ : S58) [.int .i64 ((rd_T58 t633 0).f0), .int .i64 ((rd_T58 t633 0).f1), .string ((rd_T58 t633 0).f2), .int .i64 ((rd_T58 t633 0).f3)] (fun k_ => k_ ≠ gb665) (fun _ => False) rfl rfl ?aP (fun _ hk => hk.elim) ?aF ?aO (Below.refl _ _) ?aS ?aL ?_; (case aP => exact k58_mkM _ _ _ (⟨((rd_T58 t633 0).f0), ((rd_T58 t633 0).f1), ((rd_T58 t633 0).f2), ((rd_T58 t633 0).f3)⟩ : S58)); (case aF => exact (fun k_ hk => Kd.freshB (g := gb665) (b0Z BK665) k_ hk)); (case aO => exact (Zr HO_639002)); (case aS => exact (keep_size (w := w) (g := g) (row := none) (Zbv GW626 GW638 GW665))); (case aL => have := LMc84.out; omega); intro v670 w95 ho hb hg hat; rw [← Ny669.out] at ho; replace HO_639000 := am_ (Kd.R_over' (Zr HO_639000) (Kd.R_typed (Zr HO_639002)) (by decide) hg); replace HO_639001 := am_ (Kd.R_over' (Zr HO_639001) (Kd.R_typed (Zr HO_639002)) (by decide) hg); replace BK626 := am_ (blk_grown (g := gb626) (b0Z BK626) hg (Kd.R_ne HO_639002.out BK626.out (by decide))); replace BK638 := am_ (blk_grown (g := gb638) (b0Z BK638) hg (Kd.R_ne HO_639002.out BK638.out (by decide))); replace BK665 := am_ (blk_grown (g := gb665) (b0Z BK665) hg (Kd.R_away HO_639002.out (fun _ hk => hk))); replace HB := am_ (below_weaken (Zbx GE626 GE638 GE665) HL.out hb); replace HI0 := am_ (IsS116.grown (Zby NB0_626 NB0_638 NB0_665) hg (IsS116.own_ne HI0.out HO_639002.out (by decide))); replace HK := am_ (KeepBut.trans (Zbv GW626 GW638 GW665) (KeepBut.of_grown hg g) (Kd.R_base2 HO_639002.out)); replace HO671 := am_ (ho); clear HO_639002; clear ho hb hg hat; obtain ⟨Ao96, co96, eo96⟩ := Kd.R_slice HO671.out; subst eo96; refine ci3 BK638 ?_; intros))
            go_roundg k1
            case measure => have := HK1.out; omega
            case rel => exact ⟨(t667), (t668), (y669), (.slice Ao96 y669.length co96), H', ⟨Zd⟩, ⟨(Zbe HO_639000 BK638)⟩, ⟨(Zbe HO_639001 BK638)⟩, ⟨by (with_reducible repeat (first | apply Kd.R_alloc | apply Kd.R_drewN | apply Kd.R_drew)); exact Kd.R_mono (rfZ (Kd.R_types HO671.out BK638.out (by decide))) (fun _ hk => hk.1)⟩, ⟨(Zbz NB626_638 BK626)⟩, ⟨by (with_reducible repeat (first | refine blk_drewN ?_ _ | refine blk_drew ?_ | refine blk_alloc ?_ _)); refine blk_put (cs := #[.slice Ao9 t627.length co9, .slice Ao13 t630.length co13, .slice Ao86 x639002_1.length co86]) ?_ 2 _ rfl; (with_reducible repeat (first | refine blk_drewN ?_ _ | refine blk_drew ?_ | refine blk_alloc ?_ _)); exact BK638.out⟩, ⟨(Zbz NB665_638 BK665)⟩, ⟨(Zby NB0_626 NB0_638 NB0_665)⟩, ⟨(Zbv GW626 GW638 GW665)⟩, ⟨(Zbx GE626 GE638 GE665)⟩⟩
           ·rw [if_neg c84] at H
            exact absurd H (by simp)
          ·have H := HS_.out
           clear HS_; rw [if_neg c83] at H; have c83b0 := decide_eq_false c83; clear c83; simp only [Option.some.injEq, Prod.mk.injEq] at H; obtain ⟨rfl, rfl, rfl, rfl, rfl⟩ := H
           (try simp only [c83b0, Bool.not_true, Bool.not_false])
           have hnb106 := NB626_0.out; have hnc106 := NB0_626.out; refine ci3 BK626 ?_; intros
           try go_wp2
           refine bodyPost_ret (results_cell_row rfl _ _ gb626 35 #[.slice Ao9 t627.length co9, .slice Ao13 t630.length co13, .slice Ao86 x639002_1.length co86] (0, 0) _ rfl (bpZ BK626) Try.underlying35 rfl Zm) rfl ?_; exact ⟨_, _, _, Zl, (Zbe HO_639000 BK626), (Zbe HO_639001 BK626), (Zbe HO_639002 BK626), (Zby NB0_626 NB0_638 NB0_665), (Zbx GE626 GE638 GE665), (Zbv GW626 GW638 GW665)⟩
       ·rw [if_neg c65] at H
        exact absurd H (by simp)
      ·have H := HS_.out
       clear HS_; rw [if_neg c64] at H; have c64b0 : decide (0 < (t633.length : Int)) = false := decide_eq_false c64; have c64b1 : decide (0 < t633.length) = false := decide_eq_false (by omega); clear c64; simp only [Option.some.injEq, Prod.mk.injEq] at H; obtain ⟨rfl, rfl, rfl, rfl, rfl⟩ := H; have hnb119 := NB626_0.out; have hnc119 := NB0_626.out; refine ci3 BK626 ?_; intros
       go_wp2_with (first | fail)
       refine bodyPost_ret (results_cell_row rfl _ _ gb626 35 #[.slice Ao9 t627.length co9, .slice Ao13 t630.length co13, .slice Ao14 t633.length co14] (0, 0) _ rfl (bpZ BK626) Try.underlying35 rfl Zm) rfl ?_; exact ⟨_, _, _, Zl, (Zbe HO629 BK626), (Zbe HO632 BK626), (Zbe HO635 BK626), (Zay NB0_626 NB0_638), (Zaz GE626 GE638), (Zba GW626 GW638)⟩
     ·have H := HS_.out
      clear HS_; rw [if_neg c63] at H; have c63b0 := beq_eq_false_iff_ne.mpr c63; have c63b1 := bne_iff_ne.mpr c63; simp only [Option.some.injEq, Prod.mk.injEq] at H; obtain ⟨rfl, rfl, rfl, rfl, rfl⟩ := H; have hnb132 := NB626_0.out; have hnc132 := NB0_626.out; refine ci3 BK626 ?_; intros
      go_wp2_with (first | fail)
      refine bodyPost_ret (results_cell_row rfl _ _ gb626 35 #[.slice Ao9 t627.length co9, .slice Ao13 t630.length co13, .slice Ao14 t633.length co14] (0, 0) _ rfl (bpZ BK626) Try.underlying35 rfl Zm) rfl ?_; exact ⟨_, _, _, Zl, (Zbe HO629 BK626), (Zbe HO632 BK626), (Zbe HO635 BK626), (Zay NB0_626 NB0_638), (Zaz GE626 GE638), (Zba GW626 GW638)⟩
def spec_l01DrawTime.f (s0_0 : List Int) (s0_1 : Int) (s0_2 : Int) : Option (Int × Int × Int) := (spec_l01Next.f s0_0 s0_1 s0_2 16).bind fun bt672 => (if bt672.1 = 0 then ((spec_l01Pick.f s0_0 bt672.2.1 bt672.2.2 (([0, 10000000, 10000001, (-1)] : List Int))).bind fun bt678 => (some (bt678.1, bt678.2.1, bt678.2.2))) else ((spec_l01Next.f s0_0 bt672.2.1 bt672.2.2 1000000).bind fun bt681 => ((spec_l01Next.f s0_0 bt681.2.1 bt681.2.2 60000).bind fun bt684 => ((spec_l01Next.f s0_0 bt684.2.1 bt684.2.2 10000001).bind fun bt687 => ((spec_l01Pick.f s0_0 bt687.2.1 bt687.2.2 (([bt681.1, bt684.1, bt687.1] : List Int))).bind fun bt693 => (some (bt693.1, bt693.2.1, bt693.2.2)))))))
set_option maxHeartbeats 8000000 in
set_option maxRecDepth 100000 in
theorem spec_l01DrawTime.calls (g : Nat) (s0_0 : List Int) (s0_1 : Int) (s0_2 : Int) (r1 : Int) (r2 : Int) (r3 : Int) (w0 w : World) (hI : IsS116 w0 w g s0_0 s0_1 s0_2) (hB : Below w0.heap.size w0 w) (h : spec_l01DrawTime.f s0_0 s0_1 s0_2 = some (r1, r2, r3)) :
  Calls Try.prog 63 #[.pointer (some ⟨g, 0, none⟩)] w fun e w' => e = .returned (.int .i64 r1) ∧ IsS116 w0 w' g s0_0 r2 r3 ∧ Below w0.heap.size w0 w' ∧ KeepBut w w' g none := by
 have HI0 := am_ hI; have HK := am_ (KeepBut.refl w g none); have HL := am_ hB.size; clear hI; have HW0 := am_ hB.size; have HB := am_ hB; clear hB; have H : ((spec_l01Next.f s0_0 s0_1 s0_2 16).bind fun bt672 => (if bt672.1 = 0 then ((spec_l01Pick.f s0_0 bt672.2.1 bt672.2.2 (([0, 10000000, 10000001, (-1)] : List Int))).bind fun bt678 => (some (bt678.1, bt678.2.1, bt678.2.2))) else ((spec_l01Next.f s0_0 bt672.2.1 bt672.2.2 1000000).bind fun bt681 => ((spec_l01Next.f s0_0 bt681.2.1 bt681.2.2 60000).bind fun bt684 => ((spec_l01Next.f s0_0 bt684.2.1 bt684.2.2 10000001).bind fun bt687 => ((spec_l01Pick.f s0_0 bt687.2.1 bt687.2.2 (([bt681.1, bt684.1, bt687.1] : List Int))).bind fun bt693 => (some (bt693.1, bt693.2.1, bt693.2.2)))))))) = some (r1, r2, r3) := h; clear h; replace H := Option.bind_eq_some_iff.mp H; obtain ⟨⟨t672, t673, t674⟩, A20, H⟩ := H
 dsimp only at H
 have A2 := am_ A20; clear A20; have HS_ := am_ H; clear H
 go_enter Try.func63, Try.ntmps63
 go_wp2_with (first | ((with_reducible refine gate_callee (f := 62) rfl ?_); refine gZ 4 Try.func62 #[.pointer (some ⟨g, 0, none⟩), .int .i64 16] ?_; (with_reducible refine (spec_l01Next.calls g s0_0 s0_1 s0_2 16 t672 t673 t674 w0 _ ?_ ?_ A2.out).mono ?_); exact Zak; exact Zal; rintro e w5 ⟨rfl, hi, hb, hk⟩; refine ⟨_, rfl, ?_⟩; replace HK := am_ (KeepBut.trans Zam hk (.inl rfl)); replace HB := am_ (hb); replace HI0 := am_ (hi); clear hb hk hi; refine ?roundEnd))
 case roundEnd =>
  by_cases c3 : t672 = 0
  ·have H := HS_.out
   clear HS_; rw [if_pos c3] at H; have c3b0 := beq_iff_eq.mpr c3; have c3b1 := bne_eq_false_iff_eq.mpr c3; clear c3; obtain ⟨y675, hy675⟩ : ∃ y_ : List Int, y_ = (([0, 10000000, 10000001, (-1)] : List Int)) := ⟨_, rfl⟩
   (first | (rw [← hy675] at H; with_reducible replace H := bindZ H) | rw [← hy675] at H | skip)
   have Ny675 := am_ hy675; clear hy675; replace H := Option.bind_eq_some_iff.mp H; obtain ⟨⟨t678, t679, t680⟩, A40, H⟩ := H
   dsimp only at H
   have A4 := am_ A40; clear A40; simp only [Option.some.injEq, Prod.mk.injEq] at H; obtain ⟨rfl, rfl, rfl⟩ := H
   go_wp2_with (first | ((with_reducible refine gate_dst (N := 7) rfl ?_); refine Kd.R_lit (Kd.int .i64) _ 2 ?hg (N := 7) ?hd (xs := ([0, 10000000, 10000001, (-1)] : List Int)) (inner := [.int .i64 0, .int .i64 10000000, .int .i64 10000001, .int .i64 (-1)]) (ok := fun _ => True) (okp := fun _ => True) ?hr ?hp (fun _ hk => hk) trivial (Below.refl _ _) (Nat.le_refl _) (by simp) ?_; (case hd => rfl); (case hg => rfl); (case hr => first | (go_simp; done) | (go_simp; rfl)); (case hp => exact (Reps.one (show Kd.M (Kd.int .i64) _ _ _ 0 [.int .i64 0] from rfl) (Reps.one (show Kd.M (Kd.int .i64) _ _ _ 10000000 [.int .i64 10000000] from rfl) (Reps.one (show Kd.M (Kd.int .i64) _ _ _ 10000001 [.int .i64 10000001] from rfl) (Reps.one (show Kd.M (Kd.int .i64) _ _ _ (-1) [.int .i64 (-1)] from rfl) (Reps.none _ _)))))); intro v676 w6 ho7 hb hg_ hnew_; clear hg_ hnew_; (first | rw [← Ny675.out] at ho7 | (simp only [Int.reduceToNat] at ho7; rw [← Ny675.out] at ho7)); replace HO677 := am_ (Kd.R_lower ho7 (keep_size (w := w) (g := g) (row := none) Zam)); replace HK := am_ (KeepBut.trans Zam (KeepBut.of_below hb g none) (.inl rfl)); replace HB := (bsZ Zal hb); replace HI0 := am_ (IsS116.below Zak hb); clear hb ho7; obtain ⟨Ao8, co8, eo8⟩ := Kd.R_slice HO677.out; subst eo8) | ((with_reducible refine gate_callee (f := 79) rfl ?_); refine gZ 8 Try.func79 #[.pointer (some ⟨g, 0, none⟩), .slice Ao8 y675.length co8] ?_; (with_reducible refine (spec_l01Pick.calls g s0_0 t673 t674 _ _ y675 t678 t679 t680 w0 _ ?_ ?_ ?_ ?_ ?_ A4.out).mono ?_); exact Zak; exact Zal; exact (Zaa HO677); exact (Kd.R_reads' HO677.out).2.1; exact far_slice (IsS116.own_ne HI0.out HO677.out (by decide)); rintro e w9 ⟨rfl, hi, hb, hk⟩; refine ⟨_, rfl, ?_⟩; replace HO677 := (hoZ (IsS116.apart (show IsS116 w0 _ g s0_0 t673 t674 from Zak) (Zr HO677) (by decide)) hk); replace HK := am_ (KeepBut.trans Zam hk (.inl rfl)); replace HB := am_ (hb); replace HI0 := am_ (hi); clear hb hk hi))
   go_ret
   exact ⟨Zl, Zak, Zal, Zam⟩
  ·have H := HS_.out
   clear HS_; rw [if_neg c3] at H; have c3b0 := beq_eq_false_iff_ne.mpr c3; have c3b1 := bne_iff_ne.mpr c3; replace H := Option.bind_eq_some_iff.mp H; obtain ⟨⟨t681, t682, t683⟩, A100, H⟩ := H
   dsimp only at H
   have A10 := am_ A100; clear A100; replace H := Option.bind_eq_some_iff.mp H; obtain ⟨⟨t684, t685, t686⟩, A110, H⟩ := H
   dsimp only at H
   have A11 := am_ A110; clear A110; replace H := Option.bind_eq_some_iff.mp H; obtain ⟨⟨t687, t688, t689⟩, A120, H⟩ := H
   dsimp only at H
   have A12 := am_ A120; clear A120; obtain ⟨y690, hy690⟩ : ∃ y_ : List Int, y_ = (([t681, t684, t687] : List Int)) := ⟨_, rfl⟩
   (first | (rw [← hy690] at H; with_reducible replace H := bindZ H) | rw [← hy690] at H | skip)
   have Ny690 := am_ hy690; clear hy690; replace H := Option.bind_eq_some_iff.mp H; obtain ⟨⟨t693, t694, t695⟩, A130, H⟩ := H
   dsimp only at H
   have A13 := am_ A130; clear A130; simp only [Option.some.injEq, Prod.mk.injEq] at H; obtain ⟨rfl, rfl, rfl⟩ := H
   go_wp2_with (first | ((with_reducible refine gate_callee (f := 62) rfl ?_); refine gZ 11 Try.func62 #[.pointer (some ⟨g, 0, none⟩), .int .i64 1000000] ?_; (with_reducible refine (spec_l01Next.calls g s0_0 t673 t674 1000000 t681 t682 t683 w0 _ ?_ ?_ A10.out).mono ?_); exact Zak; exact Zal; rintro e w15 ⟨rfl, hi, hb, hk⟩; refine ⟨_, rfl, ?_⟩; replace HK := am_ (KeepBut.trans Zam hk (.inl rfl)); replace HB := am_ (hb); replace HI0 := am_ (hi); clear hb hk hi) | ((with_reducible refine gate_callee (f := 62) rfl ?_); refine gZ 13 Try.func62 #[.pointer (some ⟨g, 0, none⟩), .int .i64 60000] ?_; (with_reducible refine (spec_l01Next.calls g s0_0 t682 t683 60000 t684 t685 t686 w0 _ ?_ ?_ A11.out).mono ?_); exact Zak; exact Zal; rintro e w16 ⟨rfl, hi, hb, hk⟩; refine ⟨_, rfl, ?_⟩; replace HK := am_ (KeepBut.trans Zam hk (.inl rfl)); replace HB := am_ (hb); replace HI0 := am_ (hi); clear hb hk hi) | ((with_reducible refine gate_callee (f := 62) rfl ?_); refine gZ 15 Try.func62 #[.pointer (some ⟨g, 0, none⟩), .int .i64 10000001] ?_; (with_reducible refine (spec_l01Next.calls g s0_0 t685 t686 10000001 t687 t688 t689 w0 _ ?_ ?_ A12.out).mono ?_); exact Zak; exact Zal; rintro e w17 ⟨rfl, hi, hb, hk⟩; refine ⟨_, rfl, ?_⟩; replace HK := am_ (KeepBut.trans Zam hk (.inl rfl)); replace HB := am_ (hb); replace HI0 := am_ (hi); clear hb hk hi) | ((with_reducible refine gate_dst (N := 16) rfl ?_); refine Kd.R_lit (Kd.int .i64) _ 2 ?hg (N := 16) ?hd (xs := ([t681, t684, t687] : List Int)) (inner := [.int .i64 t681, .int .i64 t684, .int .i64 t687]) (ok := fun _ => True) (okp := fun _ => True) ?hr ?hp (fun _ hk => hk) trivial (Below.refl _ _) (Nat.le_refl _) (by simp) ?_; (case hd => rfl); (case hg => rfl); (case hr => first | (go_simp; done) | (go_simp; rfl)); (case hp => exact (Reps.one (show Kd.M (Kd.int .i64) _ _ _ t681 [.int .i64 t681] from rfl) (Reps.one (show Kd.M (Kd.int .i64) _ _ _ t684 [.int .i64 t684] from rfl) (Reps.one (show Kd.M (Kd.int .i64) _ _ _ t687 [.int .i64 t687] from rfl) (Reps.none _ _))))); intro v691 w18 ho19 hb hg_ hnew_; clear hg_ hnew_; (first | rw [← Ny690.out] at ho19 | (simp only [Int.reduceToNat] at ho19; rw [← Ny690.out] at ho19)); replace HO692 := am_ (Kd.R_lower ho19 (keep_size (w := w) (g := g) (row := none) Zam)); replace HK := am_ (KeepBut.trans Zam (KeepBut.of_below hb g none) (.inl rfl)); replace HB := (bsZ Zal hb); replace HI0 := am_ (IsS116.below Zak hb); clear hb ho19; obtain ⟨Ao20, co20, eo20⟩ := Kd.R_slice HO692.out; subst eo20) | ((with_reducible refine gate_callee (f := 79) rfl ?_); refine gZ 17 Try.func79 #[.pointer (some ⟨g, 0, none⟩), .slice Ao20 y690.length co20] ?_; (with_reducible refine (spec_l01Pick.calls g s0_0 t688 t689 _ _ y690 t693 t694 t695 w0 _ ?_ ?_ ?_ ?_ ?_ A13.out).mono ?_); exact Zak; exact Zal; exact (Zaa HO692); exact (Kd.R_reads' HO692.out).2.1; exact far_slice (IsS116.own_ne HI0.out HO692.out (by decide)); rintro e w21 ⟨rfl, hi, hb, hk⟩; refine ⟨_, rfl, ?_⟩; replace HO692 := (hoZ (IsS116.apart (show IsS116 w0 _ g s0_0 t688 t689 from Zak) (Zr HO692) (by decide)) hk); replace HK := am_ (KeepBut.trans Zam hk (.inl rfl)); replace HB := am_ (hb); replace HI0 := am_ (hi); clear hb hk hi))
   go_ret
   exact ⟨Zl, Zak, Zal, Zam⟩
def spec_DrawFiredAt.j0 : Nat → List Int → Bool → List Int → Int → Int → List (S104) → List (S61) → List (S58) → Option ((List (S104)) × (List (S61)) × (List (S58)) × Int)
 | 0, _, _, _, _, _, _, _, _ => none
 | k + 1, x6, x28, x701000, x701001, x701002, x713000, x713001, x713002 => if x28 = true then ((spec_l01Next.f x701000 x701001 x701002 (x6.length : Int)).bind fun bt720 => (if 0 ≤ bt720.1 then (if bt720.1 < (x6.length : Int) then (some (x713000, x713001, x713002, rd x6 bt720.1)) else (none)) else (none))) else ((spec_l01DrawTime.f x701000 x701001 x701002).bind fun bt724 => (some (x713000, x713001, x713002, bt724.1)))
def spec_DrawFiredAt.f (k : Nat) (l0 : List Int) : Option ((List (S104)) × (List (S61)) × (List (S58)) × Int) := (spec_l01From.f k l0).bind fun bt697 => ((spec_l08Draw.f k bt697.1 bt697.2.1 bt697.2.2).bind fun bt701 => ((spec_FireTimes.f k bt701.1 bt701.2.1 bt701.2.2.1).bind fun bt713 => (if bt713.2 = 0 then (if (bt713.1.length : Int) > 0 then ((spec_l01Next.f bt697.1 bt701.2.2.2.1 bt701.2.2.2.2 3).bind fun bt717 => (spec_DrawFiredAt.j0 k bt713.1 (decide (bt717.1 > 0)) bt697.1 bt717.2.1 bt717.2.2 bt701.1 bt701.2.1 bt701.2.2.1)) else (spec_DrawFiredAt.j0 k bt713.1 false bt697.1 bt701.2.2.2.1 bt701.2.2.2.2 bt701.1 bt701.2.1 bt701.2.2.1)) else (spec_DrawFiredAt.j0 k bt713.1 false bt697.1 bt701.2.2.2.1 bt701.2.2.2.2 bt701.1 bt701.2.1 bt701.2.2.1))))
def spec_DrawFiredAt.T5 : Bool × List (List Nat × List Nat) := (true, [([], []), ([], []), ([], []), ([], []), ([3], [3]), ([2, 4], [2, 4]), ([1, 5], [1, 5]), ([6], [6]), ([0, 5, 0], [0]), ([7, 8, 0, 1, 2, 3, 4, 5, 6, 7, 8], [7])])
def spec_DrawFiredAt.B5 : List Nat := [0, 0, 0, 0, 8, 28, 62, 126, 61, 511]
theorem spec_DrawFiredAt.tab5 : rtab .any (opsOf Try.f22 5) = spec_DrawFiredAt.T5 := by kernel_rfl
theorem spec_DrawFiredAt.bits5 : waitsOk spec_DrawFiredAt.T5.2 spec_DrawFiredAt.B5 = true := by kernel_rfl
set_option maxHeartbeats 8000000 in
set_option maxRecDepth 100000 in
theorem spec_DrawFiredAt.calls (k : Nat) (A0 : Option Addr) (c0 : Nat) (l0 : List Int) (r1 : List (S104)) (r2 : List (S61)) (r3 : List (S58)) (r4 : Int) (w : World) (hr0 : Kd.C (Kd.int .u8) w A0 l0.length l0) (hc0 : l0.length ≤ c0) (h : spec_DrawFiredAt.f k l0 = some (r1, r2, r3, r4)) :
  Calls Try.prog 22 #[.slice A0 l0.length c0] w fun e w' => ∃ v0_ v1_ v2_ : Value, e = .returned (.tuple #[.agg #[v0_, v1_, v2_], .int .i64 r4]) ∧ Kd.R k104 104 w' w.heap.size (fun _ => True) v0_ r1 ∧ Kd.R k61 61 w' w.heap.size (fun _ => True) v1_ r2 ∧ Kd.R k58 58 w' w.heap.size (fun _ => True) v2_ r3 ∧ Below w.heap.size w w' := by
 have hu35 := Try.underlying35; have HR0 := am_ hr0; have HC0 := am_ hc0; clear hr0 hc0; have HB := am_ (Below.refl w.heap.size w); have H : ((spec_l01From.f k l0).bind fun bt697 => ((spec_l08Draw.f k bt697.1 bt697.2.1 bt697.2.2).bind fun bt701 => ((spec_FireTimes.f k bt701.1 bt701.2.1 bt701.2.2.1).bind fun bt713 => (if bt713.2 = 0 then (if (bt713.1.length : Int) > 0 then ((spec_l01Next.f bt697.1 bt701.2.2.2.1 bt701.2.2.2.2 3).bind fun bt717 => (spec_DrawFiredAt.j0 k bt713.1 (decide (bt717.1 > 0)) bt697.1 bt717.2.1 bt717.2.2 bt701.1 bt701.2.1 bt701.2.2.1)) else (spec_DrawFiredAt.j0 k bt713.1 false bt697.1 bt701.2.2.2.1 bt701.2.2.2.2 bt701.1 bt701.2.1 bt701.2.2.1)) else (spec_DrawFiredAt.j0 k bt713.1 false bt697.1 bt701.2.2.2.1 bt701.2.2.2.2 bt701.1 bt701.2.1 bt701.2.2.1))))) = some (r1, r2, r3, r4) := h; clear h; replace H := Option.bind_eq_some_iff.mp H; obtain ⟨⟨t697, t698, t699⟩, A20, H⟩ := H
 dsimp only at H
 have A2 := am_ A20; clear A20; replace H := Option.bind_eq_some_iff.mp H; obtain ⟨⟨t701, t704, t707, t710, t711⟩, A30, H⟩ := H
 dsimp only at H
 have A3 := am_ A30; clear A30; replace H := Option.bind_eq_some_iff.mp H; obtain ⟨⟨t713, t716⟩, A40, H⟩ := H
 dsimp only at H
 have A4 := am_ A40; clear A40; have HC5 := am_ H; clear H
 go_enter Try.func22, Try.ntmps22
 go_upto_region 4 with (first | ((with_reducible refine gate_dst (N := 2) rfl ?_); (try (refine gate_guard (by rfl) ?_; dsimp only)); refine boxZ 2 #[.slice none 0 0, .slice none 0 0, .slice none 0 0] 35 ?_; intro gb696 hg w6 hbox hb; replace BK696 := am_ (hbox); replace GW696 := am_ ((Ze : w.heap.size ≤ gb696)); replace GE696 := GW696; replace HB := (bsZ Zf hb); clear hb hbox hg) | ((with_reducible refine gate_callee (f := 60) rfl ?_); refine gZ 9 Try.func60 #[.slice A0 l0.length c0] ?_; (with_reducible refine (spec_l01From.calls k _ _ l0 t697 t698 t699 w _ ?_ ?_ ?_ A2.out).mono ?_); exact (Zh GE696); exact HR0.out; exact HC0.out; rintro e w7 ⟨g700, rfl, hi, hb, hb2⟩; refine ⟨_, rfl, ?_⟩; replace HB := am_ (hb); replace HI700 := am_ (hi); replace NB700_696 := am_ (IsS116.ne_blk hi (blk_below (g := gb696) (b0Z BK696) hb2) (by decide)); replace NB696_700 := am_ (Ne.symm (IsS116.ne_blk hi (blk_below (g := gb696) (b0Z BK696) hb2) (by decide))); replace BK696 := am_ (blk_below (g := gb696) (b0Z BK696) hb2); clear hb hb2 hi) | ((with_reducible refine gate_callee (f := 61) rfl ?_); refine gZ 11 Try.func61 #[.pointer (some ⟨g700, 0, none⟩)] ?_; (with_reducible refine (spec_l08Draw.calls k g700 t697 t698 t699 t701 t704 t707 t710 t711 w _ ?_ ?_ A3.out).mono ?_); exact (Zcq NB700_696); exact (Zcr GE696); rintro e w8 ⟨v702, v705, v708, rfl, ho0, ho1, ho2, hi, hb, hk⟩; refine ⟨_, rfl, ?_⟩; replace BK696 := (kbZ BK696 hk NB696_700); replace HO703 := am_ (Kd.R_lower ho0 (below_size (Zcr GE696))); replace HO706 := am_ (Kd.R_lower ho1 (below_size (Zcr GE696))); replace HO709 := am_ (Kd.R_lower ho2 (below_size (Zcr GE696))); replace HB := am_ (hb); replace HI700 := am_ (hi); clear hb hk hi ho0 ho1 ho2) | ((with_reducible refine gate_dst (N := 5) rfl ?_); (try (refine gate_guard (by rfl) ?_; dsimp only)); refine boxZ 5 #[.slice none 0 0, .slice none 0 0, .slice none 0 0] 35 ?_; intro gb712 hg w9 hbox hb; replace HO703 := (hbZ HO703 hb); replace HO706 := (hbZ HO706 hb); replace HO709 := (hbZ HO709 hb); replace BK712 := am_ (hbox); replace GW712 := am_ ((by rw [hg]; exact (below_size (Zcr GE696)) : w.heap.size ≤ gb712)); replace GE712 := GW712; replace HB := (bsZ (Zcr GE696) hb); replace NB696_712 := am_ ((by rw [hg]; exact Nat.ne_of_lt (blk_lt (g := gb696) (b0Z BK696)) : gb696 ≠ gb712)); replace NB712_696 := am_ ((by rw [hg]; exact Nat.ne_of_gt (blk_lt (g := gb696) (b0Z BK696)) : gb712 ≠ gb696)); replace BK696 := (bkZ BK696 hb); replace NB700_712 := am_ ((by rw [hg]; exact Nat.ne_of_lt (IsS116.lt (show IsS116 w _ g700 t697 t710 t711 from (Zcq NB700_696))) : g700 ≠ gb712)); replace NB712_700 := am_ ((by rw [hg]; exact Nat.ne_of_gt (IsS116.lt (show IsS116 w _ g700 t697 t710 t711 from (Zcq NB700_696))) : gb712 ≠ g700)); replace HI700 := am_ (IsS116.below (Zcq NB700_696) hb); clear hb hbox hg; obtain ⟨Ao10, co10, eo10⟩ := Kd.R_slice HO703.out; subst eo10; have hnb11 := NB712_696.out; have hnc11 := NB696_712.out; have hnb12 := NB712_700.out; have hnc12 := NB700_712.out; refine ci3 BK712 ?_; intros; obtain ⟨Ao14, co14, eo14⟩ := Kd.R_slice HO706.out; subst eo14; obtain ⟨Ao15, co15, eo15⟩ := Kd.R_slice HO709.out; subst eo15) | ((with_reducible refine gate_callee (f := 26) rfl ?_); refine gZ 14 Try.func26 #[.agg #[.slice Ao10 t701.length co10, .slice Ao14 t704.length co14, .slice Ao15 t707.length co15]] ?_; (with_reducible refine (spec_FireTimes.calls k _ _ t701 _ _ t704 _ _ t707 t713 t716 _ ?_ ?_ ?_ ?_ ?_ ?_ A4.out).mono ?_); refine (Kd.R_reads' (e := 104) (base := w.heap.size) (ok := fun k_ => True) (n := t701.length) (c := co10) ?_).2.2; exact (Zaf HO703 BK712); exact (Kd.R_reads' HO703.out).2.1; refine (Kd.R_reads' (e := 61) (base := w.heap.size) (ok := fun k_ => True) (n := t704.length) (c := co14) ?_).2.2; exact (Zaf HO706 BK712); exact (Kd.R_reads' HO706.out).2.1; refine (Kd.R_reads' (e := 58) (base := w.heap.size) (ok := fun k_ => True) (n := t707.length) (c := co15) ?_).2.2; exact (Zaf HO709 BK712); exact (Kd.R_reads' HO709.out).2.1; rintro e w16 ⟨v714, rfl, ho0, hb⟩; refine ⟨_, rfl, ?_⟩; replace HO703 := am_ (Kd.R_below (Zaf HO703 BK712) hb); replace HO706 := am_ (Kd.R_below (Zaf HO706 BK712) hb); replace HO709 := am_ (Kd.R_below (Zaf HO709 BK712) hb); replace HO715 := am_ (Kd.R_lower ho0 (below_size (Zcs GE696 GE712))); replace BK696 := am_ (blk_below (g := gb696) (bfZ BK696 NB696_712) hb); replace BK712 := am_ (blk_below (g := gb712) (o := .cells #[.slice Ao10 t701.length co10, .slice Ao14 t704.length co14, .slice Ao15 t707.length co15] 35 (0, 0)) (bpZ BK712) hb); replace HB := (bsZ (Zcs GE696 GE712) hb); replace HI700 := am_ (IsS116.below (show IsS116 w (((w9.setCell ⟨gb712, 0, none⟩ (.slice Ao10 t701.length co10)).setCell ⟨gb712, 1, none⟩ (.slice Ao14 t704.length co14)).setCell ⟨gb712, 2, none⟩ (.slice Ao15 t707.length co15)) g700 t697 t710 t711 from (Zct NB700_696 NB700_712)) hb); clear hb ho0))
 (try simp only [Act.put, List.setIfInBounds_toArray, List.set_cons_zero, List.set_cons_succ])
 go_cut [28] (fun v28 wc => ∃ (kq : Nat) (x28_4 : Bool) (x701001_4 : Int) (x701002_4 : Int), v28 = .bool x28_4 ∧ Aside0 (spec_DrawFiredAt.j0 kq t713 x28_4 t697 x701001_4 x701002_4 t701 t704 t707 = some (r1, r2, r3, r4)) ∧ Aside0 (kq ≤ k) ∧ Aside0 (Kd.R (Kd.int .i64) 2 wc w.heap.size (fun _ => True) v714 t713) ∧ Aside0 (Kd.R k104 104 wc w.heap.size (fun _ => True) (.slice Ao10 t701.length co10) t701) ∧ Aside0 (Kd.R k61 61 wc w.heap.size (fun _ => True) (.slice Ao14 t704.length co14) t704) ∧ Aside0 (Kd.R k58 58 wc w.heap.size (fun _ => True) (.slice Ao15 t707.length co15) t707) ∧ Aside0 (wc.heap[gb696]? = some (.cells #[(.slice none 0 0), (.slice none 0 0), (.slice none 0 0)] 35 (0, 0))) ∧ Aside0 (wc.heap[gb712]? = some (.cells #[(.slice Ao10 t701.length co10), (.slice Ao14 t704.length co14), (.slice Ao15 t707.length co15)] 35 (0, 0))) ∧ Aside0 (IsS116 w wc g700 t697 x701001_4 x701002_4) ∧ Aside0 (Below w.heap.size w wc))
 case first =>
  have H := HC5.out; clear HC5
  by_cases c17 : t716 = 0
  ·rw [if_pos c17] at H
   have c17b0 := beq_iff_eq.mpr c17; have c17b1 := bne_eq_false_iff_eq.mpr c17; clear c17
   (first | rw [c17b0] | (simp only [i64_w, i32_w]; rw [c17b0]) | skip)
   by_cases c18 : (t713.length : Int) > 0
   ·rw [if_pos c18] at H
    have c18b0 : decide (0 < (t713.length : Int)) = true := decide_eq_true c18; have c18b1 : decide (0 < t713.length) = true := decide_eq_true (by omega); clear c18; replace H := Option.bind_eq_some_iff.mp H; obtain ⟨⟨t717, t718, t719⟩, A190, H⟩ := H
    dsimp only at H
    have A19 := am_ A190; clear A190; have H' := am_ H; clear H; obtain ⟨Ao20, co20, eo20⟩ := Kd.R_slice HO715.out; subst eo20
    go_wp2_with (first | (go_at_call 62; (with_reducible refine (spec_l01Next.calls g700 t697 t710 t711 3 t717 t718 t719 w _ ?_ ?_ A19.out).mono ?_); exact (Zct NB700_696 NB700_712); exact (Zcs GE696 GE712); rintro e w21 ⟨rfl, hi, hb, hk⟩; replace BK696 := (kbZ BK696 hk NB696_700); replace HO703 := (hoZ (IsS116.apart (show IsS116 w _ g700 t697 t710 t711 from (Zct NB700_696 NB700_712)) (Zr HO703) (by decide)) hk); replace HO706 := (hoZ (IsS116.apart (show IsS116 w _ g700 t697 t710 t711 from (Zct NB700_696 NB700_712)) (Zr HO706) (by decide)) hk); replace HO709 := (hoZ (IsS116.apart (show IsS116 w _ g700 t697 t710 t711 from (Zct NB700_696 NB700_712)) (Zr HO709) (by decide)) hk); replace BK712 := (kbZ BK712 hk NB712_700); replace HO715 := (hoZ (IsS116.apart (show IsS116 w _ g700 t697 t710 t711 from (Zct NB700_696 NB700_712)) (Zr HO715) (by decide)) hk); replace HB := am_ (hb); replace HI700 := am_ (hi); clear hb hk hi))
    go_meet
    case rel => exact ⟨_, (decide (t717 > 0)), (t718), (t719), Za, H', ⟨Zp⟩, ⟨(Zr HO715)⟩, ⟨(Zr HO703)⟩, ⟨(Zr HO706)⟩, ⟨(Zr HO709)⟩, ⟨(Zq BK696)⟩, ⟨(Zq BK712)⟩, ⟨(Zct NB700_696 NB700_712)⟩, ⟨(Zcs GE696 GE712)⟩⟩
   ·rw [if_neg c18] at H
    have c18b0 : decide (0 < (t713.length : Int)) = false := decide_eq_false c18; have c18b1 : decide (0 < t713.length) = false := decide_eq_false (by omega); clear c18; have H' := am_ H; clear H; obtain ⟨Ao22, co22, eo22⟩ := Kd.R_slice HO715.out; subst eo22
    go_wp2
    go_meet
    case rel => exact ⟨_, (false), (t710), (t711), Za, H', ⟨Zp⟩, ⟨(Zr HO715)⟩, ⟨(Zr HO703)⟩, ⟨(Zr HO706)⟩, ⟨(Zr HO709)⟩, ⟨(Zq BK696)⟩, ⟨(Zq BK712)⟩, ⟨(Zct NB700_696 NB700_712)⟩, ⟨(Zcs GE696 GE712)⟩⟩
  ·rw [if_neg c17] at H
   have c17b0 := beq_eq_false_iff_ne.mpr c17; have c17b1 := bne_iff_ne.mpr c17
   (first | rw [c17b0] | (simp only [i64_w, i32_w]; rw [c17b0]) | skip)
   have H' := am_ H; clear H
   go_wp2
   go_meet
   case rel => exact ⟨_, (false), (t710), (t711), Za, H', ⟨Zp⟩, ⟨(Zr HO715)⟩, ⟨(Zr HO703)⟩, ⟨(Zr HO706)⟩, ⟨(Zr HO709)⟩, ⟨(Zq BK696)⟩, ⟨(Zq BK712)⟩, ⟨(Zct NB700_696 NB700_712)⟩, ⟨(Zcs GE696 GE712)⟩⟩
 case rest =>
  clear HC5
  try clear c1
  try clear c2
  try clear p2
  try clear c6
  try clear c11
  try clear c12
  try clear c17
  try clear c17b0
  try clear c17b1
  try clear c18
  try clear c18b0
  try clear c18b1
  try clear c22
  obtain ⟨kq, x28_4, x701001_4, x701002_4, rfl, HA, HJ4, HO_6, HO_713000, HO_713001, HO_713002, BK696, BK712, HI700, HB⟩ := hcut
  cases kq with
  | zero => exact absurd HA.out (by simp [spec_DrawFiredAt.j0])
  | succ kj4 =>
   have H := HA.out; clear HA; simp only [spec_DrawFiredAt.j0] at H
   by_cases c23 : x28_4 = true
   ·subst c23
    rw [if_pos rfl] at H; replace H := Option.bind_eq_some_iff.mp H; obtain ⟨⟨t720, t721, t722⟩, A240, H⟩ := H
    dsimp only at H
    have A24 := am_ A240; clear A240
    by_cases c25 : 0 ≤ t720
    ·rw [if_pos c25] at H
     have c25b0 := decide_eq_true c25; clear c25
     by_cases c26 : t720 < (t713.length : Int)
     ·rw [if_pos c26] at H
      have c26b0 := decide_eq_true c26; clear c26; simp only [Option.some.injEq, Prod.mk.injEq] at H; obtain ⟨rfl, rfl, rfl, rfl⟩ := H
      try go_wp2
      replace HO_6 := am_ (Kd.R_drew HO_6.out); replace HO_713000 := am_ (Kd.R_drew HO_713000.out); replace HO_713001 := am_ (Kd.R_drew HO_713001.out); replace HO_713002 := am_ (Kd.R_drew HO_713002.out); replace BK696 := am_ (blk_drew BK696.out); replace BK712 := am_ (blk_drew BK712.out); replace HI700 := am_ (IsS116.drew HI700.out); replace HB := am_ (below_drew1 HB.out); obtain ⟨Ao28, co28, eo28⟩ := Kd.R_slice HO_6.out
      (first | subst eo28 | (injection eo28 with f1_ f2_ f3_; have f4_ := f1_.symm; have f5_ := f3_.symm; clear f1_ f2_ f3_; subst f4_; subst f5_))
      have p723 : 0 ≤ (t720 : Int) := of_decide_eq_true Zc; have q723 : t720 < (t713.length : Int) := of_decide_eq_true Zc; obtain ⟨ad723, e723, hx723_0⟩ := Kd.at_int (Kd.R_reads' HO_6.out).2.2 t720 p723 q723
      cases e723
      replace p723 := eq_true p723; replace q723 := eq_true q723; refine start_ (n := 10) (S := fun w' => w'.cell? ⟨gb712, 0, none⟩ = some (.slice Ao10 t701.length co10) ∧ w'.cell? ⟨gb712, 1, none⟩ = some (.slice Ao14 t704.length co14) ∧ w'.cell? ⟨gb712, 2, none⟩ = some (.slice Ao15 t707.length co15) ∧ w'.cell? (ad723.add (t720).toNat) = some (.int .i64 (rd t713 t720))) (ds := []) (bT 10 0) Zm rfl rfl ⟨(blk_cell BK712.out 0).trans rfl, (blk_cell BK712.out 1).trans rfl, (blk_cell BK712.out 2).trans rfl, hx723_0⟩ (fun hHeld => ?_); refine with_tabW spec_DrawFiredAt.tab5 spec_DrawFiredAt.bits5 (fun HT_ HW_ => ?_); generalize wc.drew = w27 at HO_6 HO_713000 HO_713001 HO_713002 BK696 BK712 HI700 HB hx723_0 hHeld ⊢; refine pureZ HT_ 1 (some 30) (bB 10 2) ?_; refine pureZ HT_ 2 (some 31) (bB 10 6) ?_; refine pureZ HT_ 3 (some 32) (bB 10 14) ?_; refine pureZ HT_ 4 (some 33) (bB 10 30) ?_; refine takeZ4 HT_ HW_ 0 (some 29) (bT 10 5) hHeld ?_; refine one_ (i := 5) (N := some 34) (bT 10 6) rfl rfl (one_of HT_.out Zm) (by decide) (fun K hK => ?_); refine goes_ Try.func62 Zm rfl #[.pointer (some ⟨g700, 0, none⟩), .int .i64 (t713.length : Int)] (by rfl) rfl rfl Zn ?_
      with_reducible refine (spec_l01Next.calls g700 t697 x701001_4 x701002_4 (t713.length : Int) t720 t721 t722 w _ ?side1 ?side2 A24.out).mono ?_
      (case side1 => exact (Zct NB700_696 NB700_712))
      (case side2 => exact (Zcs GE696 GE712))
      rintro e w29 ⟨rfl, hi, hb, hk⟩; have HS3_ := keep_cell hk (hHeld.2.2.2) (by first | (rw [add_block]; exact Kd.own_blk (IsS116.own_ne HI700.out HO_6.out (by decide))) | (show (Addr.add _ _).block ≠ _; rw [add_block]; exact Kd.own_blk (IsS116.own_ne HI700.out HO_6.out (by decide))) | exact Kd.own_blk (IsS116.own_ne HI700.out HO_6.out (by decide))); refine ⟨_, rfl, ?_⟩; replace HO_6 := (hoZ (IsS116.apart (show IsS116 w _ g700 t697 x701001_4 x701002_4 from (Zct NB700_696 NB700_712)) (Zr HO_6) (by decide)) hk); replace HO_713000 := (hoZ (IsS116.apart (show IsS116 w _ g700 t697 x701001_4 x701002_4 from (Zct NB700_696 NB700_712)) (Zr HO_713000) (by decide)) hk); replace HO_713001 := (hoZ (IsS116.apart (show IsS116 w _ g700 t697 x701001_4 x701002_4 from (Zct NB700_696 NB700_712)) (Zr HO_713001) (by decide)) hk); replace HO_713002 := (hoZ (IsS116.apart (show IsS116 w _ g700 t697 x701001_4 x701002_4 from (Zct NB700_696 NB700_712)) (Zr HO_713002) (by decide)) hk); replace BK696 := (kbZ BK696 hk NB696_700); replace BK712 := (kbZ BK712 hk NB712_700); replace HB := am_ (hb); replace HI700 := am_ (hi)
      (try clear hb)
      (try clear hb2)
      (try clear hk)
      (try clear hi)
      refine hK.out _ _ (by exact ⟨(blk_cell BK712.out 0).trans rfl, (blk_cell BK712.out 1).trans rfl, (blk_cell BK712.out 2).trans rfl, HS3_⟩) (fun hHeld => ?_); clear hK K; refine normZ 34 ?_; refine pureZ HT_ 6 (some 35) (bT 10 7) ?_; refine takeZ4 HT_ HW_ 7 (some 36) (bT 10 8) hHeld ?_; refine one_ (i := 8) (N := none) (bT 10 9) rfl rfl (one_of HT_.out Zm) (by decide) (fun K hK => ?_); have hs30 : w29.cell? ⟨gb696, 0, none⟩ = some (.slice none 0 0) := (blk_cell BK696.out 0).trans rfl; have hfs30 := blk_frozen BK696.out 0; have hns30_1 := NB712_696.out; have hms30_1 := NB696_712.out; have hs31 : w29.cell? ⟨gb696, 1, none⟩ = some (.slice none 0 0) := (blk_cell BK696.out 1).trans rfl; have hfs31 := blk_frozen BK696.out 1; have hns31_1 := NB712_696.out; have hms31_1 := NB696_712.out; have hs32 : w29.cell? ⟨gb696, 2, none⟩ = some (.slice none 0 0) := (blk_cell BK696.out 2).trans rfl; have hfs32 := blk_frozen BK696.out 2; have hns32_1 := NB712_696.out; have hms32_1 := NB696_712.out; refine skip_ (w1 := ?_) (by rfl) rfl ?_ ?_; rotate_left
      ·go_simp
       rfl
      refine hK.out _ _ ⟨(cg1 (hHeld.1) NB712_696), (cg1 (hHeld.2.1) NB712_696), (cg1 (hHeld.2.2.1) NB712_696), (cfZ gb696 (hHeld.2.2.2) (Zcc HO_6 BK696))⟩ (fun hHeld => ?_); clear hK K; refine pureZ HT_ 9 (some 3) (bT 10 10) ?_; refine done_ (done_of HT_.out Zm) ?_
      try go_wp2
      refine bodyPost_ret (results_ct rfl _ _ gb696 35 #[.slice Ao10 t701.length co10, .slice Ao14 t704.length co14, .slice Ao15 t707.length co15] (0, 0) _ rfl (bpZ BK696) Try.underlying35 rfl Zm) rfl ?_; exact ⟨_, _, _, Zl, (Zbe HO_713000 BK696), (Zbe HO_713001 BK696), (Zbe HO_713002 BK696), (Zcs GE696 GE712)⟩
     ·rw [if_neg c26] at H
      exact absurd H (by simp)
    ·rw [if_neg c25] at H
     exact absurd H (by simp)
   ·replace c23 := Bool.eq_false_iff.mpr c23
    subst c23; rw [if_neg (show ¬ (false = true) by decide)] at H; replace H := Option.bind_eq_some_iff.mp H; obtain ⟨⟨t724, t725, t726⟩, A330, H⟩ := H
    dsimp only at H
    have A33 := am_ A330; clear A330; simp only [Option.some.injEq, Prod.mk.injEq] at H; obtain ⟨rfl, rfl, rfl, rfl⟩ := H
    try go_wp2
    replace HO_6 := am_ (Kd.R_drew HO_6.out); replace HO_713000 := am_ (Kd.R_drew HO_713000.out); replace HO_713001 := am_ (Kd.R_drew HO_713001.out); replace HO_713002 := am_ (Kd.R_drew HO_713002.out); replace BK696 := am_ (blk_drew BK696.out); replace BK712 := am_ (blk_drew BK712.out); replace HI700 := am_ (IsS116.drew HI700.out); replace HB := am_ (below_drew1 HB.out); refine start_ (n := 5) (S := fun w' => w'.cell? ⟨gb712, 0, none⟩ = some (.slice Ao10 t701.length co10) ∧ w'.cell? ⟨gb712, 1, none⟩ = some (.slice Ao14 t704.length co14) ∧ w'.cell? ⟨gb712, 2, none⟩ = some (.slice Ao15 t707.length co15)) (ds := []) (bT 5 0) Zm rfl rfl ⟨(blk_cell BK712.out 0).trans rfl, (blk_cell BK712.out 1).trans rfl, (blk_cell BK712.out 2).trans rfl⟩ (fun hHeld => ?_); generalize wc.drew = w34 at HO_6 HO_713000 HO_713001 HO_713002 BK696 BK712 HI700 HB hHeld ⊢; refine pure_ (i := 1) (N := some 38) (v := ?_) (a' := ?_) #[false, true, false, false, false] rfl rfl Zm (fun _ _ _ h => h) (Or.inl ⟨by rfl, ?_⟩) ?_ ?_; rotate_left
    ·intro w'
     go_simp
     with_reducible rfl
    rotate_left
    ·exact Zput
    refine take_ (i := 0) (N := some 37) (v := ?_) (a' := ?_) (bT 5 2) rfl rfl Zm (fun _ _ _ h => h) (Or.inl ⟨by rfl, ?_⟩) hHeld ?_ ?_; rotate_left
    ·rintro w' ⟨s0, s1, s2⟩
     go_simp
     with_reducible rfl
    rotate_left
    ·exact Zput
    refine one_ (i := 2) (N := some 39) (bT 5 3) rfl rfl Zm (by decide) (fun K hK => ?_); refine goes_ Try.func63 Zm rfl #[.pointer (some ⟨g700, 0, none⟩)] (by rfl) rfl rfl Zn ?_
    with_reducible refine (spec_l01DrawTime.calls g700 t697 x701001_4 x701002_4 t724 t725 t726 w _ ?side1 ?side2 A33.out).mono ?_
    (case side1 => exact (Zct NB700_696 NB700_712))
    (case side2 => exact (Zcs GE696 GE712))
    rintro e w35 ⟨rfl, hi, hb, hk⟩; refine ⟨_, rfl, ?_⟩; replace HO_6 := (hoZ (IsS116.apart (show IsS116 w _ g700 t697 x701001_4 x701002_4 from (Zct NB700_696 NB700_712)) (Zr HO_6) (by decide)) hk); replace HO_713000 := (hoZ (IsS116.apart (show IsS116 w _ g700 t697 x701001_4 x701002_4 from (Zct NB700_696 NB700_712)) (Zr HO_713000) (by decide)) hk); replace HO_713001 := (hoZ (IsS116.apart (show IsS116 w _ g700 t697 x701001_4 x701002_4 from (Zct NB700_696 NB700_712)) (Zr HO_713001) (by decide)) hk); replace HO_713002 := (hoZ (IsS116.apart (show IsS116 w _ g700 t697 x701001_4 x701002_4 from (Zct NB700_696 NB700_712)) (Zr HO_713002) (by decide)) hk); replace BK696 := (kbZ BK696 hk NB696_700); replace BK712 := (kbZ BK712 hk NB712_700); replace HB := am_ (hb); replace HI700 := am_ (hi)
    (try clear hb)
    (try clear hb2)
    (try clear hk)
    (try clear hi)
    refine hK.out _ _ (Zbc BK712) (fun hHeld => ?_); clear hK K; refine normZ 39 ?_; refine one_ (i := 3) (N := none) (bT 5 4) rfl rfl Zm (by decide) (fun K hK => ?_); have hs36 : w35.cell? ⟨gb696, 0, none⟩ = some (.slice none 0 0) := (blk_cell BK696.out 0).trans rfl; have hfs36 := blk_frozen BK696.out 0; have hns36_1 := NB712_696.out; have hms36_1 := NB696_712.out; have hs37 : w35.cell? ⟨gb696, 1, none⟩ = some (.slice none 0 0) := (blk_cell BK696.out 1).trans rfl; have hfs37 := blk_frozen BK696.out 1; have hns37_1 := NB712_696.out; have hms37_1 := NB696_712.out; have hs38 : w35.cell? ⟨gb696, 2, none⟩ = some (.slice none 0 0) := (blk_cell BK696.out 2).trans rfl; have hfs38 := blk_frozen BK696.out 2; have hns38_1 := NB712_696.out; have hms38_1 := NB696_712.out; refine skip_ (w1 := ?_) (by rfl) rfl ?_ ?_; rotate_left
    ·go_simp
     rfl
    refine hK.out _ _ ⟨(cg1 (hHeld.1) NB712_696), (cg1 (hHeld.2.1) NB712_696), (cg1 (hHeld.2.2) NB712_696)⟩ (fun hHeld => ?_); clear hK K; refine pure_ (i := 4) (N := some 3) (v := ?_) (a' := ?_) (bT 5 5) rfl rfl Zm (fun _ _ _ h => h) (Or.inl ⟨by rfl, ?_⟩) ?_ ?_; rotate_left
    ·intro w'
     go_simp
     with_reducible rfl
    rotate_left
    ·exact Zput
    refine done_ Zm ?_
    try go_wp2
    refine bodyPost_ret (results_ct rfl _ _ gb696 35 #[.slice Ao10 t701.length co10, .slice Ao14 t704.length co14, .slice Ao15 t707.length co15] (0, 0) _ rfl (bpZ BK696) Try.underlying35 rfl Zm) rfl ?_; exact ⟨_, _, _, Zl, (Zbe HO_713000 BK696), (Zbe HO_713001 BK696), (Zbe HO_713002 BK696), (Zcs GE696 GE712)⟩
def impl_isTime.f (a0 : Int) : Option (Bool) := (impl_within.f a0 0 10000000).bind fun t727 => (some t727)
set_option maxHeartbeats 8000000 in
set_option maxRecDepth 100000 in
theorem impl_isTime.calls (a0 : Int) (r : Bool) (w : World) (h : impl_isTime.f a0 = some r) :
  Calls Try.prog 64 #[.int .i64 a0] w fun e w' => e = .returned (.bool r) ∧ Drawn0 w w' := by
 have H : ((impl_within.f a0 0 10000000).bind fun t727 => (some t727)) = some r := h; clear h; replace H := Option.bind_eq_some_iff.mp H; obtain ⟨t727, A20, H⟩ := H; have A2 := am_ A20; clear A20; obtain rfl := Option.some.inj H
 go_enter Try.func64, Try.ntmps64
 go_wp2_with (first | ((with_reducible refine gate_callee (f := 58) rfl ?_); refine gZ 4 Try.func58 #[.int .i64 a0, .int .i64 0, .int .i64 10000000] ?_; (with_reducible refine (impl_within.calls a0 0 10000000 t727 _ A2.out).mono ?_); rintro e w' ⟨rfl, ⟨nd, rfl⟩⟩; refine ⟨_, rfl, ?_⟩))
 go_ret
 exact ⟨Za, Zb⟩
def impl_FiredAt.l0 : Nat → Int → List Int → List Int → Int → Int → Option (List Int × Int)
 | 0, _, _, _, _, _ => none
 | k + 1, x1, x6, x16, x17, x18 => if x18 < x17 then (if 0 ≤ x18 then (if x18 < (x16.length : Int) then (if (rd x16 x18) = x1 then (if x6.length < 17592186044416 then (impl_FiredAt.l0 k x1 (x6 ++ [x18]) x16 x17 (wrap64 (x18 + 1))) else (none)) else (impl_FiredAt.l0 k x1 x6 x16 x17 (wrap64 (x18 + 1)))) else (none)) else (none)) else (some (x6, 0))
def impl_FiredAt.f (k : Nat) (l0_0 : List (S104)) (l0_1 : List (S61)) (l0_2 : List (S58)) (a1 : Int) : Option (List Int × Int) := (impl_IsShow.f k l0_0 l0_1 l0_2).bind fun t729 => (if t729 = true then ((impl_isTime.f a1).bind fun t730 => (if t730 = true then ((impl_fireTimes.f k l0_0 l0_1 l0_2).bind fun t731 => (impl_FiredAt.l0 k a1 ([] : List Int) t731 (t731.length : Int) 0)) else (some (([] : List Int), 2)))) else (some (([] : List Int), 1)))
set_option maxHeartbeats 8000000 in
set_option maxRecDepth 100000 in
theorem impl_FiredAt.calls (k : Nat) (A0_0 : Option Addr) (c0_0 : Nat) (l0_0 : List (S104)) (A0_1 : Option Addr) (c0_1 : Nat) (l0_1 : List (S61)) (A0_2 : Option Addr) (c0_2 : Nat) (l0_2 : List (S58)) (a1 : Int) (r1 : List Int) (r2 : Int) (w : World) (hr0_0 : Kd.C k104 w A0_0 l0_0.length l0_0) (hc0_0 : l0_0.length ≤ c0_0) (hr0_1 : Kd.C k61 w A0_1 l0_1.length l0_1) (hc0_1 : l0_1.length ≤ c0_1) (hr0_2 : Kd.C k58 w A0_2 l0_2.length l0_2) (hc0_2 : l0_2.length ≤ c0_2) (h : impl_FiredAt.f k l0_0 l0_1 l0_2 a1 = some (r1, r2)) :
  Calls Try.prog 23 #[.agg #[.slice A0_0 l0_0.length c0_0, .slice A0_1 l0_1.length c0_1, .slice A0_2 l0_2.length c0_2], .int .i64 a1] w fun e w' => ∃ v0_ : Value, e = .returned (.tuple #[v0_, .int .i64 r2]) ∧ Kd.R (Kd.int .i64) 2 w' w.heap.size (fun _ => True) v0_ r1 ∧ Below w.heap.size w w' := by
 have hu35 := Try.underlying35; have HR0_0 := am_ hr0_0; have HC0_0 := am_ hc0_0; clear hr0_0 hc0_0; have HR0_1 := am_ hr0_1; have HC0_1 := am_ hc0_1; clear hr0_1 hc0_1; have HR0_2 := am_ hr0_2; have HC0_2 := am_ hc0_2; clear hr0_2 hc0_2; have HB := am_ (Below.refl w.heap.size w); have H : ((impl_IsShow.f k l0_0 l0_1 l0_2).bind fun t729 => (if t729 = true then ((impl_isTime.f a1).bind fun t730 => (if t730 = true then ((impl_fireTimes.f k l0_0 l0_1 l0_2).bind fun t731 => (impl_FiredAt.l0 k a1 ([] : List Int) t731 (t731.length : Int) 0)) else (some (([] : List Int), 2)))) else (some (([] : List Int), 1)))) = some (r1, r2) := h; clear h; replace H := Option.bind_eq_some_iff.mp H; obtain ⟨t729, A30, H⟩ := H; have A3 := am_ A30; clear A30; have HS_ := am_ H; clear H
 go_enter Try.func23, Try.ntmps23
 go_wp2_with (first | ((with_reducible refine gate_dst (N := 2) rfl ?_); refine boxZ 2 #[.slice A0_0 l0_0.length c0_0, .slice A0_1 l0_1.length c0_1, .slice A0_2 l0_2.length c0_2] 35 ?_; intro gb728 hg w8 hbox hb; replace BK728 := am_ (hbox); replace GW728 := am_ ((Ze : w.heap.size ≤ gb728)); replace GE728 := GW728; replace HB := (bsZ Zf hb); clear hb hbox hg; refine ci3 BK728 ?_; intros) | ((with_reducible refine gate_callee (f := 30) rfl ?_); refine gZ 10 Try.func30 #[.agg #[.slice A0_0 l0_0.length c0_0, .slice A0_1 l0_1.length c0_1, .slice A0_2 l0_2.length c0_2]] ?_; (with_reducible refine (impl_IsShow.calls k _ _ l0_0 _ _ l0_1 _ _ l0_2 t729 _ ?_ ?_ ?_ ?_ ?_ ?_ A3.out).mono ?_); exact (Zi HR0_0); exact HC0_0.out; exact (Zi HR0_1); exact HC0_1.out; exact (Zi HR0_2); exact HC0_2.out; rintro e w10 ⟨rfl, hb⟩; refine ⟨_, rfl, ?_⟩; replace BK728 := (bkZ BK728 hb); replace HB := (bsZ (Zh GE728) hb); clear hb; refine ?roundEnd))
 case roundEnd =>
  by_cases c4 : t729 = true
  ·have H := HS_.out
   clear HS_; subst c4; rw [if_pos rfl] at H; replace H := Option.bind_eq_some_iff.mp H; obtain ⟨t730, A50, H⟩ := H; have A5 := am_ A50; clear A50; have HS_ := am_ H; clear H
   by_cases c6 : t730 = true
   ·have H := HS_.out
    clear HS_; subst c6; rw [if_pos rfl] at H; replace H := Option.bind_eq_some_iff.mp H; obtain ⟨t731, A70, H⟩ := H; have A7 := am_ A70; clear A70; have H' := am_ H; clear H
    go_wp2_with (first | ((with_reducible refine gate_callee (f := 64) rfl ?_); refine gZ 13 Try.func64 #[.int .i64 a1] ?_; (with_reducible refine (impl_isTime.calls a1 true _ A5.out).mono ?_); rintro e w' ⟨rfl, ⟨nd, rfl⟩⟩; refine ⟨_, rfl, ?_⟩; refine ci3 BK728 ?_; intros) | ((with_reducible refine gate_callee (f := 49) rfl ?_); refine gZ 16 Try.func49 #[.agg #[.slice A0_0 l0_0.length c0_0, .slice A0_1 l0_1.length c0_1, .slice A0_2 l0_2.length c0_2]] ?_; (with_reducible refine (impl_fireTimes.calls k _ _ l0_0 _ _ l0_1 _ _ l0_2 t731 _ ?_ ?_ ?_ ?_ ?_ ?_ A7.out).mono ?_); exact (Zo HR0_0 GE728); exact HC0_0.out; exact (Zo HR0_1 GE728); exact HC0_1.out; exact (Zo HR0_2 GE728); exact HC0_2.out; rintro e w12 ⟨v732, rfl, ho0, hb⟩; refine ⟨_, rfl, ?_⟩; replace HO733 := am_ (Kd.R_lower ho0 (below_size (Zh GE728))); replace BK728 := (bkZ BK728 hb); replace HB := (bsZ (Zh GE728) hb); clear hb ho0; obtain ⟨Ao13, co13, eo13⟩ := Kd.R_slice HO733.out; subst eo13))
    go_loopg [6, 18] k (fun kq v6 v18 w' => ∃ (x6_1 : List Int) (x18_1 : Int), v18 = .int .i64 x18_1 ∧ Aside0 (impl_FiredAt.l0 kq a1 x6_1 t731 (t731.length : Int) x18_1 = some (r1, r2)) ∧ Aside0 (kq ≤ k) ∧ Aside0 (Kd.R (Kd.int .i64) 2 w' w.heap.size (fun k_ => some k_ ≠ ((.slice Ao13 t731.length co13) : Value).ownBlock) v6 x6_1) ∧ Aside0 (Kd.R (Kd.int .i64) 2 w' w.heap.size (fun k_ => some k_ ≠ (v6 : Value).ownBlock) (.slice Ao13 t731.length co13) t731) ∧ Aside0 (w'.heap[gb728]? = some (.cells #[(.slice A0_0 l0_0.length c0_0), (.slice A0_1 l0_1.length c0_1), (.slice A0_2 l0_2.length c0_2)] 35 (0, 0))) ∧ Aside0 (Below w.heap.size w w'))
    case atStart => exact ⟨(([] : List Int)), (0), Za, H', ⟨Nat.le_refl _⟩, ⟨Zab⟩, ⟨by (with_reducible repeat (first | apply Kd.R_alloc | apply Kd.R_drewN | apply Kd.R_drew)); exact Kd.R_mono HO733.out (fun _ hk => (by simp [Value.ownBlock]))⟩, ⟨(Zq BK728)⟩, ⟨(Zh GE728)⟩⟩
    case round =>
     clear H'
     try clear c2
     try clear p2
     try clear c3
     try clear c4
     try clear c6
     obtain ⟨x6_1, x18_1, rfl, HA, HK1, HO_6, HO_16, BK728, HB⟩ := hrel
     cases gk with
     | zero => exact absurd HA.out (by simp [impl_FiredAt.l0])
     | succ k1 =>
      have H := HA.out; clear HA; simp only [impl_FiredAt.l0] at H
      by_cases c14 : x18_1 < (t731.length : Int)
      ·rw [if_pos c14] at H
       have c14b0 := decide_eq_true c14; clear c14
       by_cases c15 : 0 ≤ x18_1
       ·rw [if_pos c15] at H
        have c15b0 := decide_eq_true c15; clear c15
        by_cases c16 : x18_1 < (t731.length : Int)
        ·rw [if_pos c16] at H
         have c16b0 := decide_eq_true c16; clear c16
         by_cases c17 : (rd t731 x18_1) = a1
         ·rw [if_pos c17] at H
          have c17b0 := beq_iff_eq.mpr c17; have c17b1 := bne_eq_false_iff_eq.mpr c17; clear c17
          by_cases c18 : x6_1.length < 17592186044416
          ·rw [if_pos c18] at H
           have LMc18 := am_ c18; clear c18; obtain ⟨y735, hy735⟩ : ∃ y_ : List Int, y_ = (x6_1 ++ [x18_1]) := ⟨_, rfl⟩
           (first | (rw [← hy735] at H; with_reducible replace H := bindZ H) | rw [← hy735] at H | skip)
           have Ny735 := am_ hy735; clear hy735; have H' := am_ H; clear H; have p734 : 0 ≤ (x18_1 : Int) := of_decide_eq_true Zc; have q734 : x18_1 < (t731.length : Int) := of_decide_eq_true Zc; obtain ⟨ad734, e734, hx734_0⟩ := Kd.at_int (Kd.R_reads' HO_16.out).2.2 x18_1 p734 q734
           cases e734
           replace p734 := eq_true p734; replace q734 := eq_true q734
           go_wp2_with (first | ((with_reducible refine gate_builtin (b := .append) (xs := #[.tmp 26, .tmp 28]) rfl ?_); at_builtin; refine Kd.R_append (Kd.int .i64) (w0 := w) w.heap.size rfl (.tmp 26) (.tmp 28) 28 2 (.int .i64 0) 8 rfl Try.underlying28 info2 rfl (by decide) (by omega) u6 x6_1 x18_1 [.int .i64 x18_1] (fun k_ => some k_ ≠ (.slice (some ad734) t731.length co13 : Value).ownBlock) (fun _ => False) rfl rfl ?aP (fun _ hk => hk.elim) ?aF ?aO ?aB ?aS ?aL ?_; (case aP => exact rfl); (case aB => exact (Zh GE728)); (case aF => exact (fun k_ hk => Kd.fresh' (Kd.R_lt (Zr HO_16)) k_ hk)); (case aO => exact (Zr HO_6)); (case aS => exact (below_size (Zh GE728))); (case aL => have := LMc18.out; omega); intro v736 w19 ho hb hg hat; rw [← Ny735.out] at ho; replace HO_16 := am_ (Kd.R_after (ok := (fun _ => True)) (Zai HO_16) hg hat); replace BK728 := am_ (blk_grown (g := gb728) (b0Z BK728) hg (Kd.R_ne HO_6.out BK728.out (by decide))); replace HB := am_ (hb); replace HO737 := am_ (ho); clear HO_6; clear ho hb hg hat))
           go_roundg k1
           case measure => have := HK1.out; omega
           case rel => exact ⟨(y735), (wrap64 (x18_1 + 1)), Za, H', ⟨Zd⟩, ⟨(Zr HO737)⟩, ⟨(Zu HO_16)⟩, ⟨(Zq BK728)⟩, ⟨(Zh GE728)⟩⟩
          ·rw [if_neg c18] at H
           exact absurd H (by simp)
         ·rw [if_neg c17] at H
          have c17b0 := beq_eq_false_iff_ne.mpr c17; have c17b1 := bne_iff_ne.mpr c17; have H' := am_ H; clear H; have p734 : 0 ≤ (x18_1 : Int) := of_decide_eq_true Zc; have q734 : x18_1 < (t731.length : Int) := of_decide_eq_true Zc; obtain ⟨ad734, e734, hx734_0⟩ := Kd.at_int (Kd.R_reads' HO_16.out).2.2 x18_1 p734 q734
          cases e734
          replace p734 := eq_true p734; replace q734 := eq_true q734
          go_wp2
          go_roundg k1
          case measure => have := HK1.out; omega
          case rel => exact ⟨(x6_1), (wrap64 (x18_1 + 1)), Za, H', ⟨Zd⟩, ⟨(Zr HO_6)⟩, ⟨(Zr HO_16)⟩, ⟨(Zq BK728)⟩, ⟨(Zh GE728)⟩⟩
        ·rw [if_neg c16] at H
         exact absurd H (by simp)
       ·rw [if_neg c15] at H
        exact absurd H (by simp)
      ·rw [if_neg c14] at H
       have c14b0 := decide_eq_false c14; clear c14; simp only [Option.some.injEq, Prod.mk.injEq] at H; obtain ⟨rfl, rfl⟩ := H
       go_wp2
       go_ret2
       exact ⟨_, Zl, (Zz HO_6), (Zh GE728)⟩
   ·have H := HS_.out
    clear HS_; replace c6 := Bool.eq_false_iff.mpr c6; subst c6; rw [if_neg (show ¬ (false = true) by decide)] at H; simp only [Option.some.injEq, Prod.mk.injEq] at H; obtain ⟨rfl, rfl⟩ := H
    go_wp2_with (first | ((with_reducible refine gate_callee (f := 64) rfl ?_); refine gZ 13 Try.func64 #[.int .i64 a1] ?_; (with_reducible refine (impl_isTime.calls a1 false _ A5.out).mono ?_); rintro e w' ⟨rfl, ⟨nd, rfl⟩⟩; refine ⟨_, rfl, ?_⟩))
    go_ret2
    exact ⟨_, Zl, Zab, (Zh GE728)⟩
  ·have H := HS_.out
   clear HS_; replace c4 := Bool.eq_false_iff.mpr c4; subst c4; rw [if_neg (show ¬ (false = true) by decide)] at H; simp only [Option.some.injEq, Prod.mk.injEq] at H; obtain ⟨rfl, rfl⟩ := H
   go_wp2_with (first | fail)
   go_ret2
   exact ⟨_, Zl, Zab, (Zh GE728)⟩
def spec_l01IsTime.f (a0 : Int) : Option (Bool) := (spec_l01In.f a0 0 10000000).bind fun t738 => (some t738)
set_option maxHeartbeats 8000000 in
set_option maxRecDepth 100000 in
theorem spec_l01IsTime.calls (a0 : Int) (r : Bool) (w : World) (h : spec_l01IsTime.f a0 = some r) :
  Calls Try.prog 65 #[.int .i64 a0] w fun e w' => e = .returned (.bool r) ∧ Drawn0 w w' := by
 have H : ((spec_l01In.f a0 0 10000000).bind fun t738 => (some t738)) = some r := h; clear h; replace H := Option.bind_eq_some_iff.mp H; obtain ⟨t738, A20, H⟩ := H; have A2 := am_ A20; clear A20; obtain rfl := Option.some.inj H
 go_enter Try.func65, Try.ntmps65
 go_wp2_with (first | ((with_reducible refine gate_callee (f := 56) rfl ?_); refine gZ 4 Try.func56 #[.int .i64 a0, .int .i64 0, .int .i64 10000000] ?_; (with_reducible refine (spec_l01In.calls a0 0 10000000 t738 _ A2.out).mono ?_); rintro e w' ⟨rfl, ⟨nd, rfl⟩⟩; refine ⟨_, rfl, ?_⟩))
 go_ret
 exact ⟨Za, Zb⟩
def spec_l08Between.l0 : Nat → List Int → Int → Int → List Int → Int → Option (List Int)
 | 0, _, _, _, _, _ => none
 | k + 1, x0, x1, x2, x7, x8 => if x8 < (x0.length : Int) then (if 0 ≤ x8 then (if (rd x0 x8) ≥ x1 then (if (rd x0 x8) < x2 then (if x7.length < 17592186044416 then (spec_l08Between.l0 k x0 x1 x2 (x7 ++ [x8]) (wrap64 (x8 + 1))) else (none)) else (spec_l08Between.l0 k x0 x1 x2 x7 (wrap64 (x8 + 1)))) else (spec_l08Between.l0 k x0 x1 x2 x7 (wrap64 (x8 + 1)))) else (none)) else (some x7)
def spec_l08Between.f (k : Nat) (l0 : List Int) (a1 : Int) (a2 : Int) : Option (List Int) := spec_l08Between.l0 k l0 a1 a2 (([] : List Int)) 0
set_option maxHeartbeats 8000000 in
set_option maxRecDepth 100000 in
theorem spec_l08Between.calls (k : Nat) (A0 : Option Addr) (c0 : Nat) (l0 : List Int) (a1 : Int) (a2 : Int) (r : List Int) (w : World) (hr0 : Kd.C (Kd.int .i64) w A0 l0.length l0) (hc0 : l0.length ≤ c0) (h : spec_l08Between.f k l0 a1 a2 = some r) :
  Calls Try.prog 66 #[.slice A0 l0.length c0, .int .i64 a1, .int .i64 a2] w fun e w' => ∃ v0_ : Value, e = .returned (v0_) ∧ Kd.R (Kd.int .i64) 2 w' w.heap.size (fun _ => True) v0_ r ∧ Below w.heap.size w w' := by
 have HR0 := am_ hr0; have HC0 := am_ hc0; clear hr0 hc0; have HB := am_ (Below.refl w.heap.size w); have H : (spec_l08Between.l0 k l0 a1 a2 (([] : List Int)) 0) = some r := h; clear h; obtain ⟨y739, hy739⟩ : ∃ y_ : List Int, y_ = (([] : List Int)) := ⟨_, rfl⟩
 replace H : (spec_l08Between.l0 k l0 a1 a2 y739 0) = some r := by (try rw [hy739]); first | with_reducible exact H | with_reducible exact (Option.bind_some _ _).symm.trans H | exact H
 have Ny739 := am_ hy739; clear hy739; have H' := am_ H; clear H
 go_enter Try.func66, Try.ntmps66
 go_wp2_with (first | ((with_reducible refine gate_dst (N := 9) rfl ?_); refine Kd.R_lit (Kd.int .i64) _ 2 ?hg (N := 9) ?hd (xs := ([] : List Int)) (inner := []) (ok := fun _ => True) (okp := fun _ => True) ?hr ?hp (fun _ hk => hk) trivial (Below.refl _ _) (Nat.le_refl _) (by simp) ?_; (case hd => rfl); (case hg => rfl); (case hr => first | (go_simp; done) | (go_simp; rfl)); (case hp => exact (Reps.none _ _)); intro v740 w4 ho5 hb hg_ hnew_; clear hg_ hnew_; (first | rw [← Ny739.out] at ho5 | (simp only [Int.reduceToNat] at ho5; rw [← Ny739.out] at ho5)); replace HO741 := am_ (Kd.R_lower ho5 (below_size Zf)); replace HB := (bsZ Zf hb); clear hb ho5))
 go_loopg [7, 8] k (fun kq v7 v8 w' => ∃ (x7_1 : List Int) (x8_1 : Int), v8 = .int .i64 x8_1 ∧ Aside0 (spec_l08Between.l0 kq l0 a1 a2 x7_1 x8_1 = some r) ∧ Aside0 (kq ≤ k) ∧ Aside0 (Kd.R (Kd.int .i64) 2 w' w.heap.size (fun _ => True) v7 x7_1) ∧ Aside0 (Below w.heap.size w w'))
 case atStart => exact ⟨(y739), (0), Za, H', ⟨Nat.le_refl _⟩, ⟨(Zr HO741)⟩, ⟨Zf⟩⟩
 case round =>
  clear H'
  try clear p2
  obtain ⟨x7_1, x8_1, rfl, HA, HK1, HO_7, HB⟩ := hrel
  cases gk with
  | zero => exact absurd HA.out (by simp [spec_l08Between.l0])
  | succ k1 =>
   have H := HA.out; clear HA; simp only [spec_l08Between.l0] at H
   by_cases c6 : x8_1 < (l0.length : Int)
   ·rw [if_pos c6] at H
    have c6b0 := decide_eq_true c6; clear c6
    by_cases c7 : 0 ≤ x8_1
    ·rw [if_pos c7] at H
     have c7b0 := decide_eq_true c7; clear c7
     by_cases c8 : (rd l0 x8_1) ≥ a1
     ·rw [if_pos c8] at H
      have c8b0 : decide (a1 ≤ (rd l0 x8_1)) = true := decide_eq_true c8; clear c8
      by_cases c9 : (rd l0 x8_1) < a2
      ·rw [if_pos c9] at H
       have c9b0 := decide_eq_true c9; clear c9
       by_cases c10 : x7_1.length < 17592186044416
       ·rw [if_pos c10] at H
        have LMc10 := am_ c10; clear c10; obtain ⟨y744, hy744⟩ : ∃ y_ : List Int, y_ = (x7_1 ++ [x8_1]) := ⟨_, rfl⟩
        (first | (rw [← hy744] at H; with_reducible replace H := bindZ H) | rw [← hy744] at H | skip)
        have Ny744 := am_ hy744; clear hy744; have H' := am_ H; clear H; have p742 : 0 ≤ (x8_1 : Int) := of_decide_eq_true Zc; have q742 : x8_1 < (l0.length : Int) := of_decide_eq_true Zc; obtain ⟨ad742, e742, hx742_0⟩ := Kd.at_int HR0.out x8_1 p742 q742
        cases e742
        replace hx742_0 := cbH HB hx742_0; replace p742 := eq_true p742; replace q742 := eq_true q742; have p743 : 0 ≤ (x8_1 : Int) := of_decide_eq_true Zc; have q743 : x8_1 < (l0.length : Int) := of_decide_eq_true Zc; obtain ⟨ad743, e743, hx743_0⟩ := Kd.at_int HR0.out x8_1 p743 q743; obtain rfl : ad742 = ad743 := (by injection e743); replace hx743_0 := cbH HB hx743_0; replace p743 := eq_true p743; replace q743 := eq_true q743
        go_wp2_with (first | ((with_reducible refine gate_builtin (b := .append) (xs := #[.tmp 30, .tmp 32]) rfl ?_); at_builtin; refine Kd.R_append (Kd.int .i64) (w0 := w) w.heap.size rfl (.tmp 30) (.tmp 32) 28 2 (.int .i64 0) 8 rfl Try.underlying28 info2 rfl (by decide) (by omega) u7 x7_1 x8_1 [.int .i64 x8_1] (fun _ => True) (fun _ => False) rfl rfl ?aP (fun _ hk => hk.elim) ?aF ?aO ?aB ?aS ?aL ?_; (case aP => exact rfl); (case aB => exact Zf); (case aF => exact (fun _ _ => trivial)); (case aO => exact (Zr HO_7)); (case aS => exact (below_size Zf)); (case aL => have := LMc10.out; omega); intro v745 w11 ho hb hg hat; rw [← Ny744.out] at ho; replace HB := am_ (hb); replace HO746 := am_ (ho); clear HO_7; clear ho hb hg hat))
        go_roundg k1
        case measure => have := HK1.out; omega
        case rel => exact ⟨(y744), (wrap64 (x8_1 + 1)), Za, H', ⟨Zd⟩, ⟨(Zr HO746)⟩, ⟨Zf⟩⟩
       ·rw [if_neg c10] at H
        exact absurd H (by simp)
      ·rw [if_neg c9] at H
       have c9b0 := decide_eq_false c9; clear c9; have H' := am_ H; clear H; have p742 : 0 ≤ (x8_1 : Int) := of_decide_eq_true Zc; have q742 : x8_1 < (l0.length : Int) := of_decide_eq_true Zc; obtain ⟨ad742, e742, hx742_0⟩ := Kd.at_int HR0.out x8_1 p742 q742
       cases e742
       replace hx742_0 := cbH HB hx742_0; replace p742 := eq_true p742; replace q742 := eq_true q742; have p743 : 0 ≤ (x8_1 : Int) := of_decide_eq_true Zc; have q743 : x8_1 < (l0.length : Int) := of_decide_eq_true Zc; obtain ⟨ad743, e743, hx743_0⟩ := Kd.at_int HR0.out x8_1 p743 q743; obtain rfl : ad742 = ad743 := (by injection e743); replace hx743_0 := cbH HB hx743_0; replace p743 := eq_true p743; replace q743 := eq_true q743
       go_wp2
       go_roundg k1
       case measure => have := HK1.out; omega
       case rel => exact ⟨(x7_1), (wrap64 (x8_1 + 1)), Za, H', ⟨Zd⟩, ⟨(Zr HO_7)⟩, ⟨Zf⟩⟩
     ·rw [if_neg c8] at H
      have c8b0 : decide (a1 ≤ (rd l0 x8_1)) = false := decide_eq_false c8; clear c8; have H' := am_ H; clear H; have p742 : 0 ≤ (x8_1 : Int) := of_decide_eq_true Zc; have q742 : x8_1 < (l0.length : Int) := of_decide_eq_true Zc; obtain ⟨ad742, e742, hx742_0⟩ := Kd.at_int HR0.out x8_1 p742 q742
      cases e742
      replace hx742_0 := cbH HB hx742_0; replace p742 := eq_true p742; replace q742 := eq_true q742
      go_wp2
      go_roundg k1
      case measure => have := HK1.out; omega
      case rel => exact ⟨(x7_1), (wrap64 (x8_1 + 1)), Za, H', ⟨Zd⟩, ⟨(Zr HO_7)⟩, ⟨Zf⟩⟩
    ·rw [if_neg c7] at H
     exact absurd H (by simp)
   ·rw [if_neg c6] at H
    have c6b0 := decide_eq_false c6; clear c6; obtain rfl := Option.some.inj H
    go_wp2
    go_ret
    exact ⟨_, Zl, (Zr HO_7), Zf⟩
def spec_FiredAt.f (k : Nat) (l0_0 : List (S104)) (l0_1 : List (S61)) (l0_2 : List (S58)) (a1 : Int) : Option (List Int × Int) := (spec_IsShow.f k l0_0 l0_1 l0_2).bind fun t748 => (if t748 = true then ((spec_l01IsTime.f a1).bind fun t749 => (if t749 = true then ((spec_l08Times.f k l0_0 l0_1 l0_2).bind fun t750 => ((spec_l08Between.f k t750 a1 (wrap64 (a1 + 1))).bind fun t753 => (some (t753, 0)))) else (some (([] : List Int), 2)))) else (some (([] : List Int), 1)))
set_option maxHeartbeats 8000000 in
set_option maxRecDepth 100000 in
theorem spec_FiredAt.calls (k : Nat) (A0_0 : Option Addr) (c0_0 : Nat) (l0_0 : List (S104)) (A0_1 : Option Addr) (c0_1 : Nat) (l0_1 : List (S61)) (A0_2 : Option Addr) (c0_2 : Nat) (l0_2 : List (S58)) (a1 : Int) (r1 : List Int) (r2 : Int) (w : World) (hr0_0 : Kd.C k104 w A0_0 l0_0.length l0_0) (hc0_0 : l0_0.length ≤ c0_0) (hr0_1 : Kd.C k61 w A0_1 l0_1.length l0_1) (hc0_1 : l0_1.length ≤ c0_1) (hr0_2 : Kd.C k58 w A0_2 l0_2.length l0_2) (hc0_2 : l0_2.length ≤ c0_2) (h : spec_FiredAt.f k l0_0 l0_1 l0_2 a1 = some (r1, r2)) :
  Calls Try.prog 24 #[.agg #[.slice A0_0 l0_0.length c0_0, .slice A0_1 l0_1.length c0_1, .slice A0_2 l0_2.length c0_2], .int .i64 a1] w fun e w' => ∃ v0_ : Value, e = .returned (.tuple #[v0_, .int .i64 r2]) ∧ Kd.R (Kd.int .i64) 2 w' w.heap.size (fun _ => True) v0_ r1 ∧ Below w.heap.size w w' := by
 have hu35 := Try.underlying35; have HR0_0 := am_ hr0_0; have HC0_0 := am_ hc0_0; clear hr0_0 hc0_0; have HR0_1 := am_ hr0_1; have HC0_1 := am_ hc0_1; clear hr0_1 hc0_1; have HR0_2 := am_ hr0_2; have HC0_2 := am_ hc0_2; clear hr0_2 hc0_2; have HB := am_ (Below.refl w.heap.size w); have H : ((spec_IsShow.f k l0_0 l0_1 l0_2).bind fun t748 => (if t748 = true then ((spec_l01IsTime.f a1).bind fun t749 => (if t749 = true then ((spec_l08Times.f k l0_0 l0_1 l0_2).bind fun t750 => ((spec_l08Between.f k t750 a1 (wrap64 (a1 + 1))).bind fun t753 => (some (t753, 0)))) else (some (([] : List Int), 2)))) else (some (([] : List Int), 1)))) = some (r1, r2) := h; clear h; replace H := Option.bind_eq_some_iff.mp H; obtain ⟨t748, A30, H⟩ := H; have A3 := am_ A30; clear A30; have HS_ := am_ H; clear H
 go_enter Try.func24, Try.ntmps24
 go_wp2_with (first | ((with_reducible refine gate_dst (N := 2) rfl ?_); refine boxZ 2 #[.slice A0_0 l0_0.length c0_0, .slice A0_1 l0_1.length c0_1, .slice A0_2 l0_2.length c0_2] 35 ?_; intro gb747 hg w9 hbox hb; replace BK747 := am_ (hbox); replace GW747 := am_ ((Ze : w.heap.size ≤ gb747)); replace GE747 := GW747; replace HB := (bsZ Zf hb); clear hb hbox hg; refine ci3 BK747 ?_; intros) | ((with_reducible refine gate_callee (f := 43) rfl ?_); refine gZ 7 Try.func43 #[.agg #[.slice A0_0 l0_0.length c0_0, .slice A0_1 l0_1.length c0_1, .slice A0_2 l0_2.length c0_2]] ?_; (with_reducible refine (spec_IsShow.calls k _ _ l0_0 _ _ l0_1 _ _ l0_2 t748 _ ?_ ?_ ?_ ?_ ?_ ?_ A3.out).mono ?_); exact (Zi HR0_0); exact HC0_0.out; exact (Zi HR0_1); exact HC0_1.out; exact (Zi HR0_2); exact HC0_2.out; rintro e w11 ⟨rfl, hb⟩; refine ⟨_, rfl, ?_⟩; replace BK747 := (bkZ BK747 hb); replace HB := (bsZ (Zh GE747) hb); clear hb; refine ?roundEnd))
 case roundEnd =>
  by_cases c4 : t748 = true
  ·have H := HS_.out
   clear HS_; subst c4; rw [if_pos rfl] at H; replace H := Option.bind_eq_some_iff.mp H; obtain ⟨t749, A50, H⟩ := H; have A5 := am_ A50; clear A50; have HS_ := am_ H; clear H
   by_cases c6 : t749 = true
   ·have H := HS_.out
    clear HS_; subst c6; rw [if_pos rfl] at H; replace H := Option.bind_eq_some_iff.mp H; obtain ⟨t750, A70, H⟩ := H; have A7 := am_ A70; clear A70; replace H := Option.bind_eq_some_iff.mp H; obtain ⟨t753, A80, H⟩ := H; have A8 := am_ A80; clear A80; simp only [Option.some.injEq, Prod.mk.injEq] at H; obtain ⟨rfl, rfl⟩ := H
    go_wp2_with (first | ((with_reducible refine gate_callee (f := 65) rfl ?_); refine gZ 10 Try.func65 #[.int .i64 a1] ?_; (with_reducible refine (spec_l01IsTime.calls a1 true _ A5.out).mono ?_); rintro e w' ⟨rfl, ⟨nd, rfl⟩⟩; refine ⟨_, rfl, ?_⟩; refine ci3 BK747 ?_; intros) | ((with_reducible refine gate_callee (f := 45) rfl ?_); refine gZ 13 Try.func45 #[.agg #[.slice A0_0 l0_0.length c0_0, .slice A0_1 l0_1.length c0_1, .slice A0_2 l0_2.length c0_2]] ?_; (with_reducible refine (spec_l08Times.calls k _ _ l0_0 _ _ l0_1 _ _ l0_2 t750 _ ?_ ?_ ?_ ?_ ?_ ?_ A7.out).mono ?_); exact (Zo HR0_0 GE747); exact HC0_0.out; exact (Zo HR0_1 GE747); exact HC0_1.out; exact (Zo HR0_2 GE747); exact HC0_2.out; rintro e w13 ⟨v751, rfl, ho0, hb⟩; refine ⟨_, rfl, ?_⟩; replace HO752 := am_ (Kd.R_lower ho0 (below_size (Zh GE747))); replace BK747 := (bkZ BK747 hb); replace HB := (bsZ (Zh GE747) hb); clear hb ho0; obtain ⟨Ao14, co14, eo14⟩ := Kd.R_slice HO752.out; subst eo14) | ((with_reducible refine gate_callee (f := 66) rfl ?_); refine gZ 17 Try.func66 #[.slice Ao14 t750.length co14, .int .i64 a1, .int .i64 (wrap64 (a1 + 1))] ?_; (with_reducible refine (spec_l08Between.calls k _ _ t750 a1 (wrap64 (a1 + 1)) t753 _ ?_ ?_ A8.out).mono ?_); exact (Zaa HO752); exact (Kd.R_reads' HO752.out).2.1; rintro e w15 ⟨v754, rfl, ho0, hb⟩; refine ⟨_, rfl, ?_⟩; replace HO755 := am_ (Kd.R_lower (Kd.R_new' ho0 (Kd.R_lt (Zr HO752))) (below_size (Zh GE747))); replace HO752 := am_ (Kd.R_elder' (Zr HO752) (Kd.R_base ho0) hb); replace BK747 := (bkZ BK747 hb); replace HB := (bsZ (Zh GE747) hb); clear hb ho0))
    go_ret2
    exact ⟨_, Zl, (Zz HO755), (Zh GE747)⟩
   ·have H := HS_.out
    clear HS_; replace c6 := Bool.eq_false_iff.mpr c6; subst c6; rw [if_neg (show ¬ (false = true) by decide)] at H; simp only [Option.some.injEq, Prod.mk.injEq] at H; obtain ⟨rfl, rfl⟩ := H
    go_wp2_with (first | ((with_reducible refine gate_callee (f := 65) rfl ?_); refine gZ 10 Try.func65 #[.int .i64 a1] ?_; (with_reducible refine (spec_l01IsTime.calls a1 false _ A5.out).mono ?_); rintro e w' ⟨rfl, ⟨nd, rfl⟩⟩; refine ⟨_, rfl, ?_⟩))
    go_ret2
    exact ⟨_, Zl, Zab, (Zh GE747)⟩
  ·have H := HS_.out
   clear HS_; replace c4 := Bool.eq_false_iff.mpr c4; subst c4; rw [if_neg (show ¬ (false = true) by decide)] at H; simp only [Option.some.injEq, Prod.mk.injEq] at H; obtain ⟨rfl, rfl⟩ := H
   go_wp2_with (first | fail)
   go_ret2
   exact ⟨_, Zl, Zab, (Zh GE747)⟩
def impl_FireTimes.f (k : Nat) (l0_0 : List (S104)) (l0_1 : List (S61)) (l0_2 : List (S58)) : Option (List Int × Int) := (impl_IsShow.f k l0_0 l0_1 l0_2).bind fun t757 => (if t757 = true then ((impl_fireTimes.f k l0_0 l0_1 l0_2).bind fun t758 => (some (t758, 0))) else (some (([] : List Int), 1)))
set_option maxHeartbeats 8000000 in
set_option maxRecDepth 100000 in
theorem impl_FireTimes.calls (k : Nat) (A0_0 : Option Addr) (c0_0 : Nat) (l0_0 : List (S104)) (A0_1 : Option Addr) (c0_1 : Nat) (l0_1 : List (S61)) (A0_2 : Option Addr) (c0_2 : Nat) (l0_2 : List (S58)) (r1 : List Int) (r2 : Int) (w : World) (hr0_0 : Kd.C k104 w A0_0 l0_0.length l0_0) (hc0_0 : l0_0.length ≤ c0_0) (hr0_1 : Kd.C k61 w A0_1 l0_1.length l0_1) (hc0_1 : l0_1.length ≤ c0_1) (hr0_2 : Kd.C k58 w A0_2 l0_2.length l0_2) (hc0_2 : l0_2.length ≤ c0_2) (h : impl_FireTimes.f k l0_0 l0_1 l0_2 = some (r1, r2)) :
  Calls Try.prog 25 #[.agg #[.slice A0_0 l0_0.length c0_0, .slice A0_1 l0_1.length c0_1, .slice A0_2 l0_2.length c0_2]] w fun e w' => ∃ v0_ : Value, e = .returned (.tuple #[v0_, .int .i64 r2]) ∧ Kd.R (Kd.int .i64) 2 w' w.heap.size (fun _ => True) v0_ r1 ∧ Below w.heap.size w w' := by
 have hu35 := Try.underlying35; have HR0_0 := am_ hr0_0; have HC0_0 := am_ hc0_0; clear hr0_0 hc0_0; have HR0_1 := am_ hr0_1; have HC0_1 := am_ hc0_1; clear hr0_1 hc0_1; have HR0_2 := am_ hr0_2; have HC0_2 := am_ hc0_2; clear hr0_2 hc0_2; have HB := am_ (Below.refl w.heap.size w); have H : ((impl_IsShow.f k l0_0 l0_1 l0_2).bind fun t757 => (if t757 = true then ((impl_fireTimes.f k l0_0 l0_1 l0_2).bind fun t758 => (some (t758, 0))) else (some (([] : List Int), 1)))) = some (r1, r2) := h; clear h; replace H := Option.bind_eq_some_iff.mp H; obtain ⟨t757, A20, H⟩ := H; have A2 := am_ A20; clear A20; have HS_ := am_ H; clear H
 go_enter Try.func25, Try.ntmps25
 go_wp2_with (first | ((with_reducible refine gate_dst (N := 1) rfl ?_); refine boxZ 1 #[.slice A0_0 l0_0.length c0_0, .slice A0_1 l0_1.length c0_1, .slice A0_2 l0_2.length c0_2] 35 ?_; intro gb756 hg w5 hbox hb; replace BK756 := am_ (hbox); replace GW756 := am_ ((Ze : w.heap.size ≤ gb756)); replace GE756 := GW756; replace HB := (bsZ Zf hb); clear hb hbox hg; refine ci3 BK756 ?_; intros) | ((with_reducible refine gate_callee (f := 30) rfl ?_); refine gZ 5 Try.func30 #[.agg #[.slice A0_0 l0_0.length c0_0, .slice A0_1 l0_1.length c0_1, .slice A0_2 l0_2.length c0_2]] ?_; (with_reducible refine (impl_IsShow.calls k _ _ l0_0 _ _ l0_1 _ _ l0_2 t757 _ ?_ ?_ ?_ ?_ ?_ ?_ A2.out).mono ?_); exact (Zi HR0_0); exact HC0_0.out; exact (Zi HR0_1); exact HC0_1.out; exact (Zi HR0_2); exact HC0_2.out; rintro e w7 ⟨rfl, hb⟩; refine ⟨_, rfl, ?_⟩; replace BK756 := (bkZ BK756 hb); replace HB := (bsZ (Zh GE756) hb); clear hb; refine ?roundEnd))
 case roundEnd =>
  by_cases c3 : t757 = true
  ·have H := HS_.out
   clear HS_; subst c3; rw [if_pos rfl] at H; replace H := Option.bind_eq_some_iff.mp H; obtain ⟨t758, A40, H⟩ := H; have A4 := am_ A40; clear A40; simp only [Option.some.injEq, Prod.mk.injEq] at H; obtain ⟨rfl, rfl⟩ := H; refine ci3 BK756 ?_; intros
   go_wp2_with (first | ((with_reducible refine gate_callee (f := 49) rfl ?_); refine gZ 8 Try.func49 #[.agg #[.slice A0_0 l0_0.length c0_0, .slice A0_1 l0_1.length c0_1, .slice A0_2 l0_2.length c0_2]] ?_; (with_reducible refine (impl_fireTimes.calls k _ _ l0_0 _ _ l0_1 _ _ l0_2 t758 _ ?_ ?_ ?_ ?_ ?_ ?_ A4.out).mono ?_); exact (Zi HR0_0); exact HC0_0.out; exact (Zi HR0_1); exact HC0_1.out; exact (Zi HR0_2); exact HC0_2.out; rintro e w9 ⟨v759, rfl, ho0, hb⟩; refine ⟨_, rfl, ?_⟩; replace HO760 := am_ (Kd.R_lower ho0 (below_size (Zh GE756))); replace BK756 := (bkZ BK756 hb); replace HB := (bsZ (Zh GE756) hb); clear hb ho0))
   go_ret2
   exact ⟨_, Zl, (Zr HO760), (Zh GE756)⟩
  ·have H := HS_.out
   clear HS_; replace c3 := Bool.eq_false_iff.mpr c3; subst c3; rw [if_neg (show ¬ (false = true) by decide)] at H; simp only [Option.some.injEq, Prod.mk.injEq] at H; obtain ⟨rfl, rfl⟩ := H
   go_wp2_with (first | fail)
   go_ret2
   exact ⟨_, Zl, Zab, (Zh GE756)⟩
def impl_lengthOf.f (a0_0 : ByteArray) (a0_1 : Int) (a0_2 : Int) (a0_3 : Int) (a0_4 : Int) (a0_5 : Int) (a0_6 : Int) (a0_7 : Int) (a0_8 : Int) : Option (Int) := some (wrap64 ((wrap64 (a0_3 + a0_4)) + (wrap64 ((wrap64 (a0_5 - 1)) * a0_6))))
set_option maxHeartbeats 8000000 in
set_option maxRecDepth 100000 in
theorem impl_lengthOf.calls (a0_0 : ByteArray) (a0_1 : Int) (a0_2 : Int) (a0_3 : Int) (a0_4 : Int) (a0_5 : Int) (a0_6 : Int) (a0_7 : Int) (a0_8 : Int) (r : Int) (w : World) (h : impl_lengthOf.f a0_0 a0_1 a0_2 a0_3 a0_4 a0_5 a0_6 a0_7 a0_8 = some r) :
  Calls Try.prog 68 #[.agg #[.string a0_0, .int .i64 a0_1, .int .i64 a0_2, .int .i64 a0_3, .int .i64 a0_4, .int .i64 a0_5, .int .i64 a0_6, .int .i64 a0_7, .int .i64 a0_8]] w fun e w' => e = .returned (.int .i64 r) ∧ Below w.heap.size w w' := by
 have hu61 := Try.underlying61; have HB := am_ (Below.refl w.heap.size w); have H : (some (wrap64 ((wrap64 (a0_3 + a0_4)) + (wrap64 ((wrap64 (a0_5 - 1)) * a0_6))))) = some r := h; clear h; obtain rfl := Option.some.inj H
 go_enter Try.func68, Try.ntmps68
 go_wp2_with (first | ((with_reducible refine gate_dst (N := 1) rfl ?_); refine boxZ 1 #[.string a0_0, .int .i64 a0_1, .int .i64 a0_2, .int .i64 a0_3, .int .i64 a0_4, .int .i64 a0_5, .int .i64 a0_6, .int .i64 a0_7, .int .i64 a0_8] 61 ?_; intro gb761 hg w2 hbox hb; replace BK761 := am_ (hbox); replace GW761 := am_ ((Ze : w.heap.size ≤ gb761)); replace GE761 := GW761; replace HB := (bsZ Zf hb); clear hb hbox hg; refine ci9 BK761 ?_; intros))
 go_ret
 exact ⟨Zl, (Zh GE761)⟩
def impl_articleFor.f (k : Nat) (l0_0 : List (S104)) (l0_1 : List (S61)) (l0_2 : List (S58)) (a1_0 : Int) (a1_1 : Int) (a1_2 : ByteArray) (a1_3 : Int) : Option (ByteArray × Int × Int × Int × Int × Int × Int × Int × Int) := (impl_articleOf.f k l0_1 a1_2).bind fun t765 => (if 0 ≤ t765 then (if t765 < (l0_1.length : Int) then (some ((rd_T61 l0_1 t765).f0, (rd_T61 l0_1 t765).f1, (rd_T61 l0_1 t765).f2, (rd_T61 l0_1 t765).f3, (rd_T61 l0_1 t765).f4, (rd_T61 l0_1 t765).f5, (rd_T61 l0_1 t765).f6, (rd_T61 l0_1 t765).f7, (rd_T61 l0_1 t765).f8)) else (none)) else (none))
def impl_articleFor.T1 : Bool × List (List Nat × List Nat) := (true, [([], []), ([0], [0]), ([], []), ([2], [2]), ([], []), ([4], [4]), ([3, 5], [3, 5]), ([1, 6], [1, 6]), ([7], [7]), ([8, 6, 0, 1, 2, 3, 4, 5, 6, 7, 8], [8])])
def impl_articleFor.B1 : List Nat := [0, 1, 0, 4, 0, 16, 60, 127, 255, 511]
theorem impl_articleFor.tab1 : rtab .any (opsOf Try.f69 1) = impl_articleFor.T1 := by kernel_rfl
theorem impl_articleFor.bits1 : waitsOk impl_articleFor.T1.2 impl_articleFor.B1 = true := by kernel_rfl
set_option maxHeartbeats 8000000 in
set_option maxRecDepth 100000 in
theorem impl_articleFor.calls (k : Nat) (A0_0 : Option Addr) (c0_0 : Nat) (l0_0 : List (S104)) (A0_1 : Option Addr) (c0_1 : Nat) (l0_1 : List (S61)) (A0_2 : Option Addr) (c0_2 : Nat) (l0_2 : List (S58)) (a1_0 : Int) (a1_1 : Int) (a1_2 : ByteArray) (a1_3 : Int) (r1 : ByteArray) (r2 : Int) (r3 : Int) (r4 : Int) (r5 : Int) (r6 : Int) (r7 : Int) (r8 : Int) (r9 : Int) (w : World) (hr0_0 : Kd.C k104 w A0_0 l0_0.length l0_0) (hc0_0 : l0_0.length ≤ c0_0) (hr0_1 : Kd.C k61 w A0_1 l0_1.length l0_1) (hc0_1 : l0_1.length ≤ c0_1) (hr0_2 : Kd.C k58 w A0_2 l0_2.length l0_2) (hc0_2 : l0_2.length ≤ c0_2) (h : impl_articleFor.f k l0_0 l0_1 l0_2 a1_0 a1_1 a1_2 a1_3 = some (r1, r2, r3, r4, r5, r6, r7, r8, r9)) :
  Calls Try.prog 69 #[.agg #[.slice A0_0 l0_0.length c0_0, .slice A0_1 l0_1.length c0_1, .slice A0_2 l0_2.length c0_2], .agg #[.int .i64 a1_0, .int .i64 a1_1, .string a1_2, .int .i64 a1_3]] w fun e w' => e = .returned (.agg #[.string r1, .int .i64 r2, .int .i64 r3, .int .i64 r4, .int .i64 r5, .int .i64 r6, .int .i64 r7, .int .i64 r8, .int .i64 r9]) ∧ Below w.heap.size w w' := by
 have hu35 := Try.underlying35; have hu58 := Try.underlying58; have hu61 := Try.underlying61; have HR0_0 := am_ hr0_0; have HC0_0 := am_ hc0_0; clear hr0_0 hc0_0; have HR0_1 := am_ hr0_1; have HC0_1 := am_ hc0_1; clear hr0_1 hc0_1; have HR0_2 := am_ hr0_2; have HC0_2 := am_ hc0_2; clear hr0_2 hc0_2; have HB := am_ (Below.refl w.heap.size w); have H : ((impl_articleOf.f k l0_1 a1_2).bind fun t765 => (if 0 ≤ t765 then (if t765 < (l0_1.length : Int) then (some ((rd_T61 l0_1 t765).f0, (rd_T61 l0_1 t765).f1, (rd_T61 l0_1 t765).f2, (rd_T61 l0_1 t765).f3, (rd_T61 l0_1 t765).f4, (rd_T61 l0_1 t765).f5, (rd_T61 l0_1 t765).f6, (rd_T61 l0_1 t765).f7, (rd_T61 l0_1 t765).f8)) else (none)) else (none))) = some (r1, r2, r3, r4, r5, r6, r7, r8, r9) := h; clear h; replace H := Option.bind_eq_some_iff.mp H; obtain ⟨t765, A30, H⟩ := H; have A3 := am_ A30; clear A30
 by_cases c4 : 0 ≤ t765
 ·rw [if_pos c4] at H
  have c4b0 := decide_eq_true c4; clear c4
  by_cases c5 : t765 < (l0_1.length : Int)
  ·rw [if_pos c5] at H
   have c5b0 := decide_eq_true c5; clear c5; simp only [Option.some.injEq, Prod.mk.injEq] at H; obtain ⟨rfl, rfl, rfl, rfl, rfl, rfl, rfl, rfl, rfl⟩ := H
   go_enter Try.func69, Try.ntmps69
   try go_wp2_with (first | ((with_reducible refine gate_dst (N := 2) rfl ?_); refine boxZ 2 #[.slice A0_0 l0_0.length c0_0, .slice A0_1 l0_1.length c0_1, .slice A0_2 l0_2.length c0_2] 35 ?_; intro gb762 hg w6 hbox hb; replace BK762 := am_ (hbox); replace GW762 := am_ ((Ze : w.heap.size ≤ gb762)); replace GE762 := GW762; replace HB := (bsZ Zf hb); clear hb hbox hg) | ((with_reducible refine gate_dst (N := 3) rfl ?_); refine boxZ 3 #[.int .i64 a1_0, .int .i64 a1_1, .string a1_2, .int .i64 a1_3] 58 ?_; intro gb763 hg w7 hbox hb; replace BK763 := am_ (hbox); replace GW763 := am_ (((Zg GE762) : w.heap.size ≤ gb763)); replace GE763 := GW763; replace HB := (bsZ (Zh GE762) hb); replace NB762_763 := am_ ((by rw [hg]; exact Nat.ne_of_lt (blk_lt (g := gb762) (b0Z BK762)) : gb762 ≠ gb763)); replace NB763_762 := am_ ((by rw [hg]; exact Nat.ne_of_gt (blk_lt (g := gb762) (b0Z BK762)) : gb763 ≠ gb762)); replace BK762 := (bkZ BK762 hb); clear hb hbox hg) | ((with_reducible refine gate_dst (N := 4) rfl ?_); refine boxZ 4 #[.string (⟨#[]⟩ : ByteArray), .int .i64 0, .int .i64 0, .int .i64 0, .int .i64 0, .int .i64 0, .int .i64 0, .int .i64 0, .int .i64 0] 61 ?_; intro gb764 hg w8 hbox hb; replace BK764 := am_ (hbox); replace GW764 := am_ ((by rw [hg]; exact (below_size (Zk GE762 GE763)) : w.heap.size ≤ gb764)); replace GE764 := GW764; replace HB := (bsZ (Zk GE762 GE763) hb); replace NB762_764 := am_ ((by rw [hg]; exact Nat.ne_of_lt (blk_lt (g := gb762) (b0Z BK762)) : gb762 ≠ gb764)); replace NB764_762 := am_ ((by rw [hg]; exact Nat.ne_of_gt (blk_lt (g := gb762) (b0Z BK762)) : gb764 ≠ gb762)); replace BK762 := (bkZ BK762 hb); replace NB763_764 := am_ ((by rw [hg]; exact Nat.ne_of_lt (blk_lt (g := gb763) (b0Z BK763)) : gb763 ≠ gb764)); replace NB764_763 := am_ ((by rw [hg]; exact Nat.ne_of_gt (blk_lt (g := gb763) (b0Z BK763)) : gb764 ≠ gb763)); replace BK763 := (bkZ BK763 hb); clear hb hbox hg))
   replace BK762 := am_ (blk_drew BK762.out); replace BK763 := am_ (blk_drew BK763.out); replace BK764 := am_ (blk_drew BK764.out); replace HB := am_ (below_drew1 HB.out); have p766 : 0 ≤ (t765 : Int) := of_decide_eq_true Zc; have q766 : t765 < (l0_1.length : Int) := of_decide_eq_true Zc; obtain ⟨ad766, e766, hx766_0, hx766_1, hx766_2, hx766_3, hx766_4, hx766_5, hx766_6, hx766_7, hx766_8⟩ := at_T61 HR0_1.out t765 p766 q766; have hw766_8 := hx766_8; have hw766_7 := hx766_7; have hw766_6 := hx766_6; have hw766_5 := hx766_5; have hw766_4 := hx766_4; have hw766_3 := hx766_3; have hw766_2 := hx766_2; have hw766_1 := hx766_1; have hw766_0 := hx766_0
   cases e766
   replace hx766_0 := cbH HB hx766_0; replace hx766_1 := cbH HB hx766_1; replace hx766_2 := cbH HB hx766_2; replace hx766_3 := cbH HB hx766_3; replace hx766_4 := cbH HB hx766_4; replace hx766_5 := cbH HB hx766_5; replace hx766_6 := cbH HB hx766_6; replace hx766_7 := cbH HB hx766_7; replace hx766_8 := cbH HB hx766_8; replace p766 := eq_true p766; replace q766 := eq_true q766; refine start_ (n := 10) (S := fun w' => w'.cell? ⟨gb762, 0, none⟩ = some (.slice A0_0 l0_0.length c0_0) ∧ w'.cell? ⟨gb762, 1, none⟩ = some (.slice (some ad766) l0_1.length c0_1) ∧ w'.cell? ⟨gb762, 2, none⟩ = some (.slice A0_2 l0_2.length c0_2) ∧ w'.cell? ⟨gb763, 0, none⟩ = some (.int .i64 a1_0) ∧ w'.cell? ⟨gb763, 1, none⟩ = some (.int .i64 a1_1) ∧ w'.cell? ⟨gb763, 2, none⟩ = some (.string a1_2) ∧ w'.cell? ⟨gb763, 3, none⟩ = some (.int .i64 a1_3) ∧ w'.cell? (ad766.add ((t765).toNat * 9)) = some (.string ((rd_T61 l0_1 t765).f0)) ∧ w'.cell? ⟨(ad766.add ((t765).toNat * 9)).block, (ad766.add ((t765).toNat * 9)).off + 1, none⟩ = some (.int .i64 ((rd_T61 l0_1 t765).f1)) ∧ w'.cell? ⟨(ad766.add ((t765).toNat * 9)).block, (ad766.add ((t765).toNat * 9)).off + 2, none⟩ = some (.int .i64 ((rd_T61 l0_1 t765).f2)) ∧ w'.cell? ⟨(ad766.add ((t765).toNat * 9)).block, (ad766.add ((t765).toNat * 9)).off + 3, none⟩ = some (.int .i64 ((rd_T61 l0_1 t765).f3)) ∧ w'.cell? ⟨(ad766.add ((t765).toNat * 9)).block, (ad766.add ((t765).toNat * 9)).off + 4, none⟩ = some (.int .i64 ((rd_T61 l0_1 t765).f4)) ∧ w'.cell? ⟨(ad766.add ((t765).toNat * 9)).block, (ad766.add ((t765).toNat * 9)).off + 5, none⟩ = some (.int .i64 ((rd_T61 l0_1 t765).f5)) ∧ w'.cell? ⟨(ad766.add ((t765).toNat * 9)).block, (ad766.add ((t765).toNat * 9)).off + 6, none⟩ = some (.int .i64 ((rd_T61 l0_1 t765).f6)) ∧ w'.cell? ⟨(ad766.add ((t765).toNat * 9)).block, (ad766.add ((t765).toNat * 9)).off + 7, none⟩ = some (.int .i64 ((rd_T61 l0_1 t765).f7)) ∧ w'.cell? ⟨(ad766.add ((t765).toNat * 9)).block, (ad766.add ((t765).toNat * 9)).off + 8, none⟩ = some (.int .i64 ((rd_T61 l0_1 t765).f8))) (ds := []) (bT 10 0) Zm rfl rfl ⟨(blk_cell BK762.out 0).trans rfl, (blk_cell BK762.out 1).trans rfl, (blk_cell BK762.out 2).trans rfl, (blk_cell BK763.out 0).trans rfl, (blk_cell BK763.out 1).trans rfl, (blk_cell BK763.out 2).trans rfl, (blk_cell BK763.out 3).trans rfl, (cbH HB hw766_0 :), (cbH HB hw766_1 :), (cbH HB hw766_2 :), (cbH HB hw766_3 :), (cbH HB hw766_4 :), (cbH HB hw766_5 :), (cbH HB hw766_6 :), (cbH HB hw766_7 :), (cbH HB hw766_8 :)⟩ (fun hHeld => ?_); refine with_tabW impl_articleFor.tab1 impl_articleFor.bits1 (fun HT_ HW_ => ?_); generalize w8.drew = w9 at BK762 BK763 BK764 HB hx766_0 hx766_1 hx766_2 hx766_3 hx766_4 hx766_5 hx766_6 hx766_7 hx766_8 hHeld ⊢; refine pureZ HT_ 0 (some 5) (bT 10 1) ?_; refine pureZ HT_ 2 (some 7) (bB 10 5) ?_; refine pureZ HT_ 4 (some 9) (bB 10 21) ?_; refine takeZ16 HT_ HW_ 1 (some 6) (bB 10 23) hHeld ?_; refine takeZ16 HT_ HW_ 3 (some 8) (bT 10 5) hHeld ?_; refine takeZ16 HT_ HW_ 5 (some 10) (bT 10 6) hHeld ?_; refine one_ (i := 6) (N := some 11) (bT 10 7) rfl rfl (one_of HT_.out Zm) (by decide) (fun K hK => ?_)
   refine goes_ Try.func77 Zm rfl #[.slice (some ad766) l0_1.length c0_1, .string a1_2] (by rfl) rfl rfl Zn ?_
   with_reducible refine (impl_articleOf.calls k _ _ l0_1 a1_2 t765 _ ?side1 ?side2 A3.out).mono ?_
   (case side1 => exact (Zi HR0_1))
   (case side2 => exact HC0_1.out)
   rintro e w10 ⟨rfl, hb⟩; refine ⟨_, rfl, ?_⟩; replace BK762 := (bkZ BK762 hb); replace BK763 := (bkZ BK763 hb); replace BK764 := (bkZ BK764 hb); replace HB := (bsZ (Zbj GE762 GE763 GE764) hb)
   (try clear hb)
   (try clear hb2)
   (try clear hk)
   (try clear hi)
   refine hK.out _ _ (Zac BK762 BK763 hw766_0 hw766_1 hw766_2 hw766_3 hw766_4 hw766_5 hw766_6 hw766_7 hw766_8) (fun hHeld => ?_); clear hK K; refine normZ 11 ?_; refine pureZ HT_ 7 (some 12) (bT 10 8) ?_; refine takeZ16 HT_ HW_ 8 (some 13) (bT 10 9) hHeld ?_; refine one_ (i := 9) (N := none) (bT 10 10) rfl rfl (one_of HT_.out Zm) (by decide) (fun K hK => ?_); have hs11 : w10.cell? ⟨gb764, 0, none⟩ = some (.string (⟨#[]⟩ : ByteArray)) := (blk_cell BK764.out 0).trans rfl; have hfs11 := blk_frozen BK764.out 0; have hns11_0 := NB762_764.out; have hns11_1 := NB763_764.out; have hms11_0 := NB764_762.out; have hms11_1 := NB764_763.out; have hs12 : w10.cell? ⟨gb764, 1, none⟩ = some (.int .i64 0) := (blk_cell BK764.out 1).trans rfl; have hfs12 := blk_frozen BK764.out 1; have hns12_0 := NB762_764.out; have hns12_1 := NB763_764.out; have hms12_0 := NB764_762.out; have hms12_1 := NB764_763.out; have hs13 : w10.cell? ⟨gb764, 2, none⟩ = some (.int .i64 0) := (blk_cell BK764.out 2).trans rfl; have hfs13 := blk_frozen BK764.out 2; have hns13_0 := NB762_764.out; have hns13_1 := NB763_764.out; have hms13_0 := NB764_762.out; have hms13_1 := NB764_763.out; have hs14 : w10.cell? ⟨gb764, 3, none⟩ = some (.int .i64 0) := (blk_cell BK764.out 3).trans rfl; have hfs14 := blk_frozen BK764.out 3; have hns14_0 := NB762_764.out; have hns14_1 := NB763_764.out; have hms14_0 := NB764_762.out; have hms14_1 := NB764_763.out; have hs15 : w10.cell? ⟨gb764, 4, none⟩ = some (.int .i64 0) := (blk_cell BK764.out 4).trans rfl; have hfs15 := blk_frozen BK764.out 4; have hns15_0 := NB762_764.out; have hns15_1 := NB763_764.out; have hms15_0 := NB764_762.out; have hms15_1 := NB764_763.out; have hs16 : w10.cell? ⟨gb764, 5, none⟩ = some (.int .i64 0) := (blk_cell BK764.out 5).trans rfl; have hfs16 := blk_frozen BK764.out 5; have hns16_0 := NB762_764.out; have hns16_1 := NB763_764.out; have hms16_0 := NB764_762.out; have hms16_1 := NB764_763.out; have hs17 : w10.cell? ⟨gb764, 6, none⟩ = some (.int .i64 0) := (blk_cell BK764.out 6).trans rfl; have hfs17 := blk_frozen BK764.out 6; have hns17_0 := NB762_764.out; have hns17_1 := NB763_764.out; have hms17_0 := NB764_762.out; have hms17_1 := NB764_763.out; have hs18 : w10.cell? ⟨gb764, 7, none⟩ = some (.int .i64 0) := (blk_cell BK764.out 7).trans rfl; have hfs18 := blk_frozen BK764.out 7; have hns18_0 := NB762_764.out; have hns18_1 := NB763_764.out; have hms18_0 := NB764_762.out; have hms18_1 := NB764_763.out; have hs19 : w10.cell? ⟨gb764, 8, none⟩ = some (.int .i64 0) := (blk_cell BK764.out 8).trans rfl; have hfs19 := blk_frozen BK764.out 8; have hns19_0 := NB762_764.out; have hns19_1 := NB763_764.out; have hms19_0 := NB764_762.out; have hms19_1 := NB764_763.out; refine skip_ (w1 := ?_) (by rfl) rfl ?_ ?_; rotate_left
   ·go_simp
    rfl
   refine hK.out _ _ ⟨(cg1 (hHeld.1) NB762_764), (cg1 (hHeld.2.1) NB762_764), (cg1 (hHeld.2.2.1) NB762_764), (cg1 (hHeld.2.2.2.1) NB763_764), (cg1 (hHeld.2.2.2.2.1) NB763_764), (cg1 (hHeld.2.2.2.2.2.1) NB763_764), (cg1 (hHeld.2.2.2.2.2.2.1) NB763_764), (cfZ gb764 (hHeld.2.2.2.2.2.2.2.1) (Zcu hw766_0 GW764)), (cfZ gb764 (hHeld.2.2.2.2.2.2.2.2.1) (Zcu hw766_1 GW764)), (cfZ gb764 (hHeld.2.2.2.2.2.2.2.2.2.1) (Zcu hw766_2 GW764)), (cfZ gb764 (hHeld.2.2.2.2.2.2.2.2.2.2.1) (Zcu hw766_3 GW764)), (cfZ gb764 (hHeld.2.2.2.2.2.2.2.2.2.2.2.1) (Zcu hw766_4 GW764)), (cfZ gb764 (hHeld.2.2.2.2.2.2.2.2.2.2.2.2.1) (Zcu hw766_5 GW764)), (cfZ gb764 (hHeld.2.2.2.2.2.2.2.2.2.2.2.2.2.1) (Zcu hw766_6 GW764)), (cfZ gb764 (hHeld.2.2.2.2.2.2.2.2.2.2.2.2.2.2.1) (Zcu hw766_7 GW764)), (cfZ gb764 (hHeld.2.2.2.2.2.2.2.2.2.2.2.2.2.2.2) (Zcu hw766_8 GW764))⟩ (fun hHeld => ?_); clear hK K; refine done_ (done_of HT_.out Zm) ?_
   try go_wp2
   refine bodyPost_ret (results_cell_row rfl _ _ gb764 61 #[.string ((rd_T61 l0_1 t765).f0), .int .i64 ((rd_T61 l0_1 t765).f1), .int .i64 ((rd_T61 l0_1 t765).f2), .int .i64 ((rd_T61 l0_1 t765).f3), .int .i64 ((rd_T61 l0_1 t765).f4), .int .i64 ((rd_T61 l0_1 t765).f5), .int .i64 ((rd_T61 l0_1 t765).f6), .int .i64 ((rd_T61 l0_1 t765).f7), .int .i64 ((rd_T61 l0_1 t765).f8)] (0, 0) _ rfl (bpZ BK764) Try.underlying61 rfl Zm) rfl ?_; exact ⟨Zl, (Zbj GE762 GE763 GE764)⟩
  ·rw [if_neg c5] at H
   exact absurd H (by simp)
 ·rw [if_neg c4] at H
  exact absurd H (by simp)
def impl_ShowEnd.l0 : Nat → Int → List (S58) → Int → Int → List (S104) → List (S61) → List (S58) → Option (Int × Int)
 | 0, _, _, _, _, _, _, _ => none
 | k + 1, x4, x11, x12, x13, x768000, x768001, x768002 => if x13 < x12 then (if 0 ≤ x13 then (if x13 < (x11.length : Int) then ((impl_firedAt.f k x768000 x768001 x768002 ((rd_T58 x11 x13).f0) ((rd_T58 x11 x13).f1) ((rd_T58 x11 x13).f2) ((rd_T58 x11 x13).f3)).bind fun t771 => ((impl_articleFor.f k x768000 x768001 x768002 ((rd_T58 x11 x13).f0) ((rd_T58 x11 x13).f1) ((rd_T58 x11 x13).f2) ((rd_T58 x11 x13).f3)).bind fun bt772 => ((impl_lengthOf.f bt772.1 bt772.2.1 bt772.2.2.1 bt772.2.2.2.1 bt772.2.2.2.2.1 bt772.2.2.2.2.2.1 bt772.2.2.2.2.2.2.1 bt772.2.2.2.2.2.2.2.1 bt772.2.2.2.2.2.2.2.2).bind fun t781 => (impl_ShowEnd.l0 k (mx x4 (wrap64 (t771 + t781))) x11 x12 (wrap64 (x13 + 1)) x768000 x768001 x768002)))) else (none)) else (none)) else (some (x4, 0))
def impl_ShowEnd.f (k : Nat) (l0_0 : List (S104)) (l0_1 : List (S61)) (l0_2 : List (S58)) : Option (Int × Int) := (impl_IsShow.f k l0_0 l0_1 l0_2).bind fun t768 => (if t768 = true then (impl_ShowEnd.l0 k 0 l0_2 (l0_2.length : Int) 0 l0_0 l0_1 l0_2) else (some (0, 1)))
def impl_ShowEnd.T7 : Bool × List (List Nat × List Nat) := (true, [([], []), ([], []), ([], []), ([1, 2], [1, 2]), ([], []), ([], []), ([4, 5, 3], [4, 5]), ([6, 6], [6]), ([3, 7], [3, 7]), ([0, 8], [0, 8]), ([9, 7, 0, 1, 2, 3, 4, 5, 6, 7, 8, 9], [0, 9])])
def impl_ShowEnd.B7 : List Nat := [0, 0, 0, 6, 0, 0, 62, 126, 254, 511, 1023]
theorem impl_ShowEnd.tab7 : rtab .any (opsOf Try.f27 7) = impl_ShowEnd.T7 := by kernel_rfl
theorem impl_ShowEnd.bits7 : waitsOk impl_ShowEnd.T7.2 impl_ShowEnd.B7 = true := by kernel_rfl
set_option maxHeartbeats 8000000 in
set_option maxRecDepth 100000 in
theorem impl_ShowEnd.calls (k : Nat) (A0_0 : Option Addr) (c0_0 : Nat) (l0_0 : List (S104)) (A0_1 : Option Addr) (c0_1 : Nat) (l0_1 : List (S61)) (A0_2 : Option Addr) (c0_2 : Nat) (l0_2 : List (S58)) (r1 : Int) (r2 : Int) (w : World) (hr0_0 : Kd.C k104 w A0_0 l0_0.length l0_0) (hc0_0 : l0_0.length ≤ c0_0) (hr0_1 : Kd.C k61 w A0_1 l0_1.length l0_1) (hc0_1 : l0_1.length ≤ c0_1) (hr0_2 : Kd.C k58 w A0_2 l0_2.length l0_2) (hc0_2 : l0_2.length ≤ c0_2) (h : impl_ShowEnd.f k l0_0 l0_1 l0_2 = some (r1, r2)) :
  Calls Try.prog 27 #[.agg #[.slice A0_0 l0_0.length c0_0, .slice A0_1 l0_1.length c0_1, .slice A0_2 l0_2.length c0_2]] w fun e w' => e = .returned (.tuple #[.int .i64 r1, .int .i64 r2]) ∧ Below w.heap.size w w' := by
 have hu35 := Try.underlying35; have hu58 := Try.underlying58; have HR0_0 := am_ hr0_0; have HC0_0 := am_ hc0_0; clear hr0_0 hc0_0; have HR0_1 := am_ hr0_1; have HC0_1 := am_ hc0_1; clear hr0_1 hc0_1; have HR0_2 := am_ hr0_2; have HC0_2 := am_ hc0_2; clear hr0_2 hc0_2; have HB := am_ (Below.refl w.heap.size w); have H : ((impl_IsShow.f k l0_0 l0_1 l0_2).bind fun t768 => (if t768 = true then (impl_ShowEnd.l0 k 0 l0_2 (l0_2.length : Int) 0 l0_0 l0_1 l0_2) else (some (0, 1)))) = some (r1, r2) := h; clear h; replace H := Option.bind_eq_some_iff.mp H; obtain ⟨t768, A20, H⟩ := H; have A2 := am_ A20; clear A20; have HS_ := am_ H; clear H
 go_enter Try.func27, Try.ntmps27
 go_wp2_with (first | ((with_reducible refine gate_dst (N := 1) rfl ?_); refine boxZ 1 #[.slice A0_0 l0_0.length c0_0, .slice A0_1 l0_1.length c0_1, .slice A0_2 l0_2.length c0_2] 35 ?_; intro gb767 hg w4 hbox hb; replace BK767 := am_ (hbox); replace GW767 := am_ ((Ze : w.heap.size ≤ gb767)); replace GE767 := GW767; replace HB := (bsZ Zf hb); clear hb hbox hg; refine ci3 BK767 ?_; intros) | ((with_reducible refine gate_callee (f := 30) rfl ?_); refine gZ 8 Try.func30 #[.agg #[.slice A0_0 l0_0.length c0_0, .slice A0_1 l0_1.length c0_1, .slice A0_2 l0_2.length c0_2]] ?_; (with_reducible refine (impl_IsShow.calls k _ _ l0_0 _ _ l0_1 _ _ l0_2 t768 _ ?_ ?_ ?_ ?_ ?_ ?_ A2.out).mono ?_); exact (Zi HR0_0); exact HC0_0.out; exact (Zi HR0_1); exact HC0_1.out; exact (Zi HR0_2); exact HC0_2.out; rintro e w6 ⟨rfl, hb⟩; refine ⟨_, rfl, ?_⟩; replace BK767 := (bkZ BK767 hb); replace HB := (bsZ (Zh GE767) hb); clear hb; refine ?roundEnd))
 case roundEnd =>
  by_cases c3 : t768 = true
  ·have H := HS_.out
   clear HS_; subst c3; rw [if_pos rfl] at H; have H' := am_ H; clear H; refine ci3 BK767 ?_; intros
   go_wp2_with (first | fail)
   go_loopg [4, 13] k (fun kq v4 v13 w' => ∃ (x4_1 : Int) (x13_1 : Int), v4 = .int .i64 x4_1 ∧ v13 = .int .i64 x13_1 ∧ Aside0 (impl_ShowEnd.l0 kq x4_1 l0_2 (l0_2.length : Int) x13_1 l0_0 l0_1 l0_2 = some (r1, r2)) ∧ Aside0 (kq ≤ k) ∧ Aside0 (w'.heap[gb767]? = some (.cells #[(.slice A0_0 l0_0.length c0_0), (.slice A0_1 l0_1.length c0_1), (.slice A0_2 l0_2.length c0_2)] 35 (0, 0))) ∧ Aside0 (Below w.heap.size w w'))
   case atStart => exact ⟨(0), (0), Za, Za, H', ⟨Nat.le_refl _⟩, ⟨(Zq BK767)⟩, ⟨(Zh GE767)⟩⟩
   case round =>
    clear H'
    try clear c2
    try clear p2
    try clear c3
    obtain ⟨x4_1, x13_1, rfl, rfl, HA, HK1, BK767, HB⟩ := hrel
    cases gk with
    | zero => exact absurd HA.out (by simp [impl_ShowEnd.l0])
    | succ k1 =>
     have H := HA.out; clear HA; simp only [impl_ShowEnd.l0] at H
     by_cases c8 : x13_1 < (l0_2.length : Int)
     ·rw [if_pos c8] at H
      have c8b0 := decide_eq_true c8; clear c8
      by_cases c9 : 0 ≤ x13_1
      ·rw [if_pos c9] at H
       have c9b0 := decide_eq_true c9; clear c9
       by_cases c10 : x13_1 < (l0_2.length : Int)
       ·rw [if_pos c10] at H
        have c10b0 := decide_eq_true c10; clear c10; replace H := Option.bind_eq_some_iff.mp H; obtain ⟨t771, A110, H⟩ := H; have A11 := am_ A110; clear A110; replace H := Option.bind_eq_some_iff.mp H; obtain ⟨⟨t772, t773, t774, t775, t776, t777, t778, t779, t780⟩, A120, H⟩ := H
        dsimp only at H
        have A12 := am_ A120; clear A120; replace H := Option.bind_eq_some_iff.mp H; obtain ⟨t781, A130, H⟩ := H; have A13 := am_ A130; clear A130; obtain ⟨ji14, hji14⟩ : ∃ j_ : Int, (mx x4_1 (wrap64 (t771 + t781))) = j_ := ⟨_, rfl⟩
        replace H : (impl_ShowEnd.l0 k1 ji14 l0_2 (l0_2.length : Int) (wrap64 (x13_1 + 1)) l0_0 l0_1 l0_2) = some (r1, r2) := by first | (rw [hji14] at H; exact H) | (simp only [hji14] at H ⊢; exact H)
        (try rw [hji14] at A11)
        (try rw [hji14] at A12)
        (try rw [hji14] at A13)
        have hji14_ : (if x4_1 < (wrap64 (t771 + t781)) then (wrap64 (t771 + t781)) else x4_1) = ji14 := hji14; have H' := am_ H; clear H; have p769 : 0 ≤ (x13_1 : Int) := of_decide_eq_true Zc; have q769 : x13_1 < (l0_2.length : Int) := of_decide_eq_true Zc; obtain ⟨ad769, e769, hx769_0, hx769_1, hx769_2, hx769_3⟩ := at_T58 HR0_2.out x13_1 p769 q769
        cases e769
        replace hx769_0 := cbH HB hx769_0; replace hx769_1 := cbH HB hx769_1; replace hx769_2 := cbH HB hx769_2; replace hx769_3 := cbH HB hx769_3; replace p769 := eq_true p769; replace q769 := eq_true q769
        try go_wp2_with (first | ((with_reducible refine gate_dst (N := 6) rfl ?_); refine boxZ 6 #[.int .i64 0, .int .i64 0, .string (⟨#[]⟩ : ByteArray), .int .i64 0] 58 ?_; intro gb770 hg w15 hbox hb; replace BK770 := am_ (hbox); replace GW770 := am_ (((Zg GE767) : w.heap.size ≤ gb770)); replace GE770 := GW770; replace HB := (bsZ (Zh GE767) hb); replace NB767_770 := am_ ((by rw [hg]; exact Nat.ne_of_lt (blk_lt (g := gb767) (b0Z BK767)) : gb767 ≠ gb770)); replace NB770_767 := am_ ((by rw [hg]; exact Nat.ne_of_gt (blk_lt (g := gb767) (b0Z BK767)) : gb770 ≠ gb767)); replace BK767 := (bkZ BK767 hb); clear hb hbox hg; have hnb16 := NB770_767.out; have hnc16 := NB767_770.out; refine ci4 BK770 ?_; intros))
        have n0_ : Aside0 (((((w15.setCell ⟨gb770, 0, none⟩ (.int .i64 ((rd_T58 l0_2 x13_1).f0))).setCell ⟨gb770, 1, none⟩ (.int .i64 ((rd_T58 l0_2 x13_1).f1))).setCell ⟨gb770, 2, none⟩ (.string ((rd_T58 l0_2 x13_1).f2))).setCell ⟨gb770, 3, none⟩ (.int .i64 ((rd_T58 l0_2 x13_1).f3))).heap[gb767]? = some (.cells #[.slice A0_0 l0_0.length c0_0, .slice A0_1 l0_1.length c0_1, .slice (some ad769) l0_2.length c0_2] 35 (0, 0))) := ⟨by refine blk_far ?_ NB767_770.out _; refine blk_far ?_ NB767_770.out _; refine blk_far ?_ NB767_770.out _; refine blk_far ?_ NB767_770.out _; exact BK767.out⟩; have n1_ : Aside0 (((((w15.setCell ⟨gb770, 0, none⟩ (.int .i64 ((rd_T58 l0_2 x13_1).f0))).setCell ⟨gb770, 1, none⟩ (.int .i64 ((rd_T58 l0_2 x13_1).f1))).setCell ⟨gb770, 2, none⟩ (.string ((rd_T58 l0_2 x13_1).f2))).setCell ⟨gb770, 3, none⟩ (.int .i64 ((rd_T58 l0_2 x13_1).f3))).heap[gb770]? = some (.cells #[.int .i64 ((rd_T58 l0_2 x13_1).f0), .int .i64 ((rd_T58 l0_2 x13_1).f1), .string ((rd_T58 l0_2 x13_1).f2), .int .i64 ((rd_T58 l0_2 x13_1).f3)] 58 (0, 0))) := ⟨by refine blk_put (cs := #[.int .i64 ((rd_T58 l0_2 x13_1).f0), .int .i64 ((rd_T58 l0_2 x13_1).f1), .string ((rd_T58 l0_2 x13_1).f2), .int .i64 0]) ?_ 3 _ rfl; refine blk_put (cs := #[.int .i64 ((rd_T58 l0_2 x13_1).f0), .int .i64 ((rd_T58 l0_2 x13_1).f1), .string (⟨#[]⟩ : ByteArray), .int .i64 0]) ?_ 2 _ rfl; refine blk_put (cs := #[.int .i64 ((rd_T58 l0_2 x13_1).f0), .int .i64 0, .string (⟨#[]⟩ : ByteArray), .int .i64 0]) ?_ 1 _ rfl; refine blk_put (cs := #[.int .i64 0, .int .i64 0, .string (⟨#[]⟩ : ByteArray), .int .i64 0]) ?_ 0 _ rfl; exact BK770.out⟩; have n2_ : Aside0 (Below w.heap.size w ((((w15.setCell ⟨gb770, 0, none⟩ (.int .i64 ((rd_T58 l0_2 x13_1).f0))).setCell ⟨gb770, 1, none⟩ (.int .i64 ((rd_T58 l0_2 x13_1).f1))).setCell ⟨gb770, 2, none⟩ (.string ((rd_T58 l0_2 x13_1).f2))).setCell ⟨gb770, 3, none⟩ (.int .i64 ((rd_T58 l0_2 x13_1).f3)))) := ⟨(Zk GE767 GE770)⟩
        (try clear BK767)
        (try clear BK770)
        (try clear HB)
        generalize ((((w15.setCell ⟨gb770, 0, none⟩ (.int .i64 ((rd_T58 l0_2 x13_1).f0))).setCell ⟨gb770, 1, none⟩ (.int .i64 ((rd_T58 l0_2 x13_1).f1))).setCell ⟨gb770, 2, none⟩ (.string ((rd_T58 l0_2 x13_1).f2))).setCell ⟨gb770, 3, none⟩ (.int .i64 ((rd_T58 l0_2 x13_1).f3))) = w18 at n0_ n1_ n2_ ⊢; have BK767 := n0_; have BK770 := n1_; have HB := n2_; clear n0_ n1_ n2_; replace BK767 := am_ (blk_drew BK767.out); replace BK770 := am_ (blk_drew BK770.out); replace HB := am_ (below_drew1 HB.out); refine start_ (n := 11) (S := fun w' => w'.cell? ⟨gb767, 0, none⟩ = some (.slice A0_0 l0_0.length c0_0) ∧ w'.cell? ⟨gb767, 1, none⟩ = some (.slice A0_1 l0_1.length c0_1) ∧ w'.cell? ⟨gb767, 2, none⟩ = some (.slice (some ad769) l0_2.length c0_2) ∧ w'.cell? ⟨gb770, 0, none⟩ = some (.int .i64 ((rd_T58 l0_2 x13_1).f0)) ∧ w'.cell? ⟨gb770, 1, none⟩ = some (.int .i64 ((rd_T58 l0_2 x13_1).f1)) ∧ w'.cell? ⟨gb770, 2, none⟩ = some (.string ((rd_T58 l0_2 x13_1).f2)) ∧ w'.cell? ⟨gb770, 3, none⟩ = some (.int .i64 ((rd_T58 l0_2 x13_1).f3))) (ds := []) (bT 11 0) Zm rfl rfl ⟨(blk_cell BK767.out 0).trans rfl, (blk_cell BK767.out 1).trans rfl, (blk_cell BK767.out 2).trans rfl, (blk_cell BK770.out 0).trans rfl, (blk_cell BK770.out 1).trans rfl, (blk_cell BK770.out 2).trans rfl, (blk_cell BK770.out 3).trans rfl⟩ (fun hHeld => ?_); refine with_tabW impl_ShowEnd.tab7 impl_ShowEnd.bits7 (fun HT_ HW_ => ?_); generalize w18.drew = w19 at BK767 BK770 HB hHeld ⊢; refine pureZ HT_ 0 (some 17) (bT 11 1) ?_; refine takeZ7 HT_ HW_ 1 (some 18) (bT 11 2) hHeld ?_; refine takeZ7 HT_ HW_ 2 (some 19) (bT 11 3) hHeld ?_; refine takeZ7 HT_ HW_ 4 (some 21) (bB 11 23) hHeld ?_; refine takeZ7 HT_ HW_ 5 (some 22) (bB 11 55) hHeld ?_; refine one_ (i := 3) (N := some 20) (bT 11 6) rfl rfl (one_of HT_.out Zm) (by decide) (fun K hK => ?_); refine goes_ Try.func67 Zm rfl #[.agg #[.slice A0_0 l0_0.length c0_0, .slice A0_1 l0_1.length c0_1, .slice (some ad769) l0_2.length c0_2], .agg #[.int .i64 ((rd_T58 l0_2 x13_1).f0), .int .i64 ((rd_T58 l0_2 x13_1).f1), .string ((rd_T58 l0_2 x13_1).f2), .int .i64 ((rd_T58 l0_2 x13_1).f3)]] (by rfl) rfl rfl Zn ?_
        with_reducible refine (impl_firedAt.calls k1 _ _ l0_0 _ _ l0_1 _ _ l0_2 ((rd_T58 l0_2 x13_1).f0) ((rd_T58 l0_2 x13_1).f1) ((rd_T58 l0_2 x13_1).f2) ((rd_T58 l0_2 x13_1).f3) t771 _ ?side1 ?side2 ?side3 ?side4 ?side5 ?side6 A11.out).mono ?_
        (case side1 => exact (Zi HR0_0))
        (case side2 => exact HC0_0.out)
        (case side3 => exact (Zi HR0_1))
        (case side4 => exact HC0_1.out)
        (case side5 => exact (Zi HR0_2))
        (case side6 => exact HC0_2.out)
        rintro e w20 ⟨rfl, hb⟩; refine ⟨_, rfl, ?_⟩; replace BK767 := (bkZ BK767 hb); replace BK770 := (bkZ BK770 hb); replace HB := (bsZ (Zk GE767 GE770) hb)
        (try clear hb)
        (try clear hb2)
        (try clear hk)
        (try clear hi)
        refine hK.out _ _ (Zbk BK767 BK770) (fun hHeld => ?_); clear hK K; refine normZ 20 ?_; refine one_ (i := 6) (N := some 23) (bT 11 7) rfl rfl (one_of HT_.out Zm) (by decide) (fun K hK => ?_); refine goes_ Try.func69 Zm rfl #[.agg #[.slice A0_0 l0_0.length c0_0, .slice A0_1 l0_1.length c0_1, .slice (some ad769) l0_2.length c0_2], .agg #[.int .i64 ((rd_T58 l0_2 x13_1).f0), .int .i64 ((rd_T58 l0_2 x13_1).f1), .string ((rd_T58 l0_2 x13_1).f2), .int .i64 ((rd_T58 l0_2 x13_1).f3)]] (by rfl) rfl rfl Zn ?_
        with_reducible refine (impl_articleFor.calls k1 _ _ l0_0 _ _ l0_1 _ _ l0_2 ((rd_T58 l0_2 x13_1).f0) ((rd_T58 l0_2 x13_1).f1) ((rd_T58 l0_2 x13_1).f2) ((rd_T58 l0_2 x13_1).f3) t772 t773 t774 t775 t776 t777 t778 t779 t780 _ ?side1 ?side2 ?side3 ?side4 ?side5 ?side6 A12.out).mono ?_
        (case side1 => exact (Zi HR0_0))
        (case side2 => exact HC0_0.out)
        (case side3 => exact (Zi HR0_1))
        (case side4 => exact HC0_1.out)
        (case side5 => exact (Zi HR0_2))
        (case side6 => exact HC0_2.out)
        rintro e w21 ⟨rfl, hb⟩; refine ⟨_, rfl, ?_⟩; replace BK767 := (bkZ BK767 hb); replace BK770 := (bkZ BK770 hb); replace HB := (bsZ (Zk GE767 GE770) hb)
        (try clear hb)
        (try clear hb2)
        (try clear hk)
        (try clear hi)
        refine hK.out _ _ (Zbk BK767 BK770) (fun hHeld => ?_); clear hK K; refine normZ 23 ?_; refine one_ (i := 7) (N := some 24) (bT 11 8) rfl rfl (one_of HT_.out Zm) (by decide) (fun K hK => ?_); refine goes_ Try.func68 Zm rfl #[.agg #[.string t772, .int .i64 t773, .int .i64 t774, .int .i64 t775, .int .i64 t776, .int .i64 t777, .int .i64 t778, .int .i64 t779, .int .i64 t780]] (by rfl) rfl rfl Zn ?_
        with_reducible refine (impl_lengthOf.calls t772 t773 t774 t775 t776 t777 t778 t779 t780 t781 _ A13.out).mono ?_
        rintro e w22 ⟨rfl, hb⟩; refine ⟨_, rfl, ?_⟩; replace BK767 := (bkZ BK767 hb); replace BK770 := (bkZ BK770 hb); replace HB := (bsZ (Zk GE767 GE770) hb)
        (try clear hb)
        (try clear hb2)
        (try clear hk)
        (try clear hi)
        refine hK.out _ _ (Zbk BK767 BK770) (fun hHeld => ?_); clear hK K; refine normZ 24 ?_; refine pureZ HT_ 8 (some 25) (bT 11 9) ?_; refine pureZ HT_ 9 (some 26) (bT 11 10) ?_; refine pureZ HT_ 10 (some 4) (bT 11 11) ?_; refine done_ (done_of HT_.out Zm) ?_
        try go_wp2
        go_roundg k1
        case measure => have := HK1.out; omega
        case rel => exact ⟨(ji14), (wrap64 (x13_1 + 1)), (by first | rfl | (simp; done) | (simp only [← hji14] <;> (first | rfl | simp)) | (simp [*]; done)), Za, H', ⟨Zd⟩, ⟨(Zq BK767)⟩, ⟨(Zk GE767 GE770)⟩⟩
       ·rw [if_neg c10] at H
        exact absurd H (by simp)
      ·rw [if_neg c9] at H
       exact absurd H (by simp)
     ·rw [if_neg c8] at H
      have c8b0 := decide_eq_false c8; clear c8; simp only [Option.some.injEq, Prod.mk.injEq] at H; obtain ⟨rfl, rfl⟩ := H
      go_wp2
      go_ret2
      exact ⟨Zl, (Zh GE767)⟩
  ·have H := HS_.out
   clear HS_; replace c3 := Bool.eq_false_iff.mpr c3; subst c3; rw [if_neg (show ¬ (false = true) by decide)] at H; simp only [Option.some.injEq, Prod.mk.injEq] at H; obtain ⟨rfl, rfl⟩ := H
   go_wp2_with (first | fail)
   go_ret2
   exact ⟨Zl, (Zh GE767)⟩
def spec_l03Window.f (a0_0 : ByteArray) (a0_1 : Int) (a0_2 : Int) (a0_3 : Int) (a0_4 : Int) (a0_5 : Int) (a0_6 : Int) (a0_7 : Int) (a0_8 : Int) (a1 : Int) (a2 : Int) : Option (List Int) := some (([wrap64 ((wrap64 ((wrap64 (a1 + a0_3)) + (wrap64 (a2 * a0_6)))) - a0_4), wrap64 ((wrap64 ((wrap64 (a1 + a0_3)) + (wrap64 (a2 * a0_6)))) + a0_4)] : List Int))
set_option maxHeartbeats 8000000 in
set_option maxRecDepth 100000 in
theorem spec_l03Window.calls (a0_0 : ByteArray) (a0_1 : Int) (a0_2 : Int) (a0_3 : Int) (a0_4 : Int) (a0_5 : Int) (a0_6 : Int) (a0_7 : Int) (a0_8 : Int) (a1 : Int) (a2 : Int) (r : List Int) (w : World) (h : spec_l03Window.f a0_0 a0_1 a0_2 a0_3 a0_4 a0_5 a0_6 a0_7 a0_8 a1 a2 = some r) :
  Calls Try.prog 71 #[.agg #[.string a0_0, .int .i64 a0_1, .int .i64 a0_2, .int .i64 a0_3, .int .i64 a0_4, .int .i64 a0_5, .int .i64 a0_6, .int .i64 a0_7, .int .i64 a0_8], .int .i64 a1, .int .i64 a2] w fun e w' => ∃ v0_ : Value, e = .returned (v0_) ∧ Kd.R (Kd.int .i64) 2 w' w.heap.size (fun _ => True) v0_ r ∧ Below w.heap.size w w' := by
 have hu61 := Try.underlying61; have HB := am_ (Below.refl w.heap.size w); have H : (some (([wrap64 ((wrap64 ((wrap64 (a1 + a0_3)) + (wrap64 (a2 * a0_6)))) - a0_4), wrap64 ((wrap64 ((wrap64 (a1 + a0_3)) + (wrap64 (a2 * a0_6)))) + a0_4)] : List Int))) = some r := h; clear h; obtain ⟨y783, hy783⟩ : ∃ y_ : List Int, y_ = (([wrap64 ((wrap64 ((wrap64 (a1 + a0_3)) + (wrap64 (a2 * a0_6)))) - a0_4), wrap64 ((wrap64 ((wrap64 (a1 + a0_3)) + (wrap64 (a2 * a0_6)))) + a0_4)] : List Int)) := ⟨_, rfl⟩
 (first | (rw [← hy783] at H; with_reducible replace H := bindZ H) | rw [← hy783] at H | skip)
 have Ny783 := am_ hy783; clear hy783; obtain rfl := Option.some.inj H
 go_enter Try.func71, Try.ntmps71
 go_wp2_with (first | ((with_reducible refine gate_dst (N := 3) rfl ?_); refine boxZ 3 #[.string a0_0, .int .i64 a0_1, .int .i64 a0_2, .int .i64 a0_3, .int .i64 a0_4, .int .i64 a0_5, .int .i64 a0_6, .int .i64 a0_7, .int .i64 a0_8] 61 ?_; intro gb782 hg w4 hbox hb; replace BK782 := am_ (hbox); replace GW782 := am_ ((Ze : w.heap.size ≤ gb782)); replace GE782 := GW782; replace HB := (bsZ Zf hb); clear hb hbox hg; refine ci9 BK782 ?_; intros) | ((with_reducible refine gate_dst (N := 25) rfl ?_); refine Kd.R_lit (Kd.int .i64) _ 2 ?hg (N := 25) ?hd (xs := ([wrap64 ((wrap64 ((wrap64 (a1 + a0_3)) + (wrap64 (a2 * a0_6)))) - a0_4), wrap64 ((wrap64 ((wrap64 (a1 + a0_3)) + (wrap64 (a2 * a0_6)))) + a0_4)] : List Int)) (inner := [.int .i64 (wrap64 ((wrap64 ((wrap64 (a1 + a0_3)) + (wrap64 (a2 * a0_6)))) - a0_4)), .int .i64 (wrap64 ((wrap64 ((wrap64 (a1 + a0_3)) + (wrap64 (a2 * a0_6)))) + a0_4))]) (ok := fun _ => True) (okp := fun _ => True) ?hr ?hp (fun _ hk => hk) trivial (Below.refl _ _) (Nat.le_refl _) (by simp) ?_; (case hd => rfl); (case hg => rfl); (case hr => first | (go_simp; done) | (go_simp; rfl)); (case hp => exact (Reps.one (show Kd.M (Kd.int .i64) _ _ _ (wrap64 ((wrap64 ((wrap64 (a1 + a0_3)) + (wrap64 (a2 * a0_6)))) - a0_4)) [.int .i64 (wrap64 ((wrap64 ((wrap64 (a1 + a0_3)) + (wrap64 (a2 * a0_6)))) - a0_4))] from rfl) (Reps.one (show Kd.M (Kd.int .i64) _ _ _ (wrap64 ((wrap64 ((wrap64 (a1 + a0_3)) + (wrap64 (a2 * a0_6)))) + a0_4)) [.int .i64 (wrap64 ((wrap64 ((wrap64 (a1 + a0_3)) + (wrap64 (a2 * a0_6)))) + a0_4))] from rfl) (Reps.none _ _)))); intro v784 w6 ho7 hb hg_ hnew_; clear hg_ hnew_; (first | rw [← Ny783.out] at ho7 | (simp only [Int.reduceToNat] at ho7; rw [← Ny783.out] at ho7)); replace HO785 := am_ (Kd.R_lower ho7 (below_size (Zh GE782))); replace BK782 := (bkZ BK782 hb); replace HB := (bsZ (Zh GE782) hb); clear hb ho7))
 go_ret
 exact ⟨_, Zl, (Zr HO785), (Zh GE782)⟩
end Go.Proofs.Ytmnnbmdfepogiaa.F
