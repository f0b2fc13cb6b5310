import Derived.Test.YtnifblnlpepehaaJFnDark2
import Derived.Below
import Derived.Deep.Draws
import Derived.Deep.AppendLies
import Derived.Maps.AppendAt
import Derived.OwnWalk
import Derived.Laws.BytesArg
import Derived.Laws.MakeOwn
import Derived.Laws.OwnMore
import Derived.Tactics
import Derived.Lib.ConvBytes
import Derived.Laws.Slices
import Derived.WalkKit
import Derived.KernelRfl
import Derived.RowKit3
import Derived.Deep.LoopGhost
import Derived.Deep.QuietTactic
import Derived.BigQuiet
import Derived.WideLaws
import Derived.Deep.DeepCutAuto
import Derived.Deep.CutBlock
import Derived.Deep.RegionHeld3
import Derived.Lib.AppendStr
import Derived.ArgAppend
import Derived.Laws.IdiomCopy
import Derived.RowKit
import Derived.OrdersHeld
import Derived.Laws.BitsLemmas
import Derived.Laws.StructEq
import Derived.Test.YtnifblnlpepehaaProg
import Derived.Laws.Cover1
namespace Go.Proofs.Ytnifblnlpepehaa.F
open Go.RowKit Go.Proofs.YtnifblnlpepehaaW.PrintWords Go.Proofs.YtnifblnlpepehaaW.PrintLast Go.Proofs.YtnifblnlpepehaaW.PrintMore
attribute [local go_sem] max2_int min2_int max_two min_two max_three min_three max_four min_four
set_option linter.unusedVariables false
set_option linter.unusedSimpArgs false
set_option maxHeartbeats 8000000
set_option maxRecDepth 100000
mutual
def spec_l08Order.l0 : Nat → List Int → List Int → Int → Option (List Int)
 | 0, _, _, _ => none
 | k + 1, x0, x3, x4 => if x4 < (x0.length : Int) then (spec_l08Order.l1 k x0 x3 x4 0) else (some x3)
def spec_l08Order.l1 : Nat → List Int → List Int → Int → Int → Option (List Int)
 | 0, _, _, _, _ => none
 | k + 1, x0, x3, x4, x5 => if x5 < (x3.length : Int) then (if 0 ≤ x5 then (if 0 ≤ (rd x3 x5) then (if (rd x3 x5) < (x0.length : Int) then (if 0 ≤ x4 then (if x4 < (x0.length : Int) then (if (rd x0 (rd x3 x5)) ≤ (rd x0 x4) then (spec_l08Order.l1 k x0 x3 x4 (wrap64 (x5 + 1))) else ((some (([] : List Int) : List Int)).bind fun y183 => (if x5 ≤ (x3.length : Int) then ((some (x3.take (x5 : Int).toNat : List Int)).bind fun y186 => (if y183.length + y186.length < 17592186044416 then ((some (y183 ++ y186 : List Int)).bind fun y190 => ((some (([x4] : List Int) : List Int)).bind fun y193 => (if y190.length + y193.length < 17592186044416 then ((some (y190 ++ y193 : List Int)).bind fun y196 => ((some (x3.drop (x5 : Int).toNat : List Int)).bind fun y199 => (if y196.length + y199.length < 17592186044416 then (spec_l08Order.l0 k x0 (y196 ++ y199) (wrap64 (x4 + 1))) else (none)))) else (none)))) else (none))) else (none)))) else (none)) else (none)) else (none)) else (none)) else (none)) else ((some (([] : List Int) : List Int)).bind fun y206 => (if 0 ≤ x5 then (if x5 ≤ (x3.length : Int) then ((some (x3.take (x5 : Int).toNat : List Int)).bind fun y209 => (if y206.length + y209.length < 17592186044416 then ((some (y206 ++ y209 : List Int)).bind fun y213 => ((some (([x4] : List Int) : List Int)).bind fun y216 => (if y213.length + y216.length < 17592186044416 then ((some (y213 ++ y216 : List Int)).bind fun y219 => ((some (x3.drop (x5 : Int).toNat : List Int)).bind fun y222 => (if y219.length + y222.length < 17592186044416 then (spec_l08Order.l0 k x0 (y219 ++ y222) (wrap64 (x4 + 1))) else (none)))) else (none)))) else (none))) else (none)) else (none)))
end
def spec_l08Order.f (k : Nat) (l0 : List Int) : Option (List Int) := spec_l08Order.l0 k l0 (([] : List Int)) 0
def spec_l08Order.T6 : Bool × List (List Nat × List Nat) := (true, [([], []), ([], []), ([1], [1]), ([0, 2], [0, 2]), ([3], [3]), ([4], [4]), ([4], [4]), ([4], [4]), ([6, 7, 4], [4, 6, 7]), ([8, 4], [4, 8]), ([5, 9, 4], [4, 5, 9]), ([10, 4], [4, 10]), ([4], [4]), ([4], [4]), ([12, 13, 4], [4, 12, 13]), ([14, 4], [4, 14]), ([11, 15, 4], [4, 11, 15]), ([4, 16], [4, 16])])
def spec_l08Order.B6 : List Nat := [0, 0, 2, 7, 15, 31, 31, 31, 223, 479, 1023, 2047, 31, 31, 12319, 28703, 65535, 131071]
theorem spec_l08Order.tab6 : rtab .any (opsOf Try.f26 6) = spec_l08Order.T6 := by kernel_rfl
theorem spec_l08Order.bits6 : waitsOk spec_l08Order.T6.2 spec_l08Order.B6 = true := by kernel_rfl
def spec_l08Order.T8 : Bool × List (List Nat × List Nat) := (true, [([], []), ([], []), ([], []), ([1, 2], [1, 2]), ([0, 3], [0, 3]), ([], []), ([5], [5]), ([4, 6, 4], [4, 6]), ([], []), ([], []), ([8, 9], [8, 9]), ([7, 10, 7], [7, 10]), ([11, 11, 0, 1, 2, 3, 4, 5, 6, 7, 8, 9, 10, 11], [1, 8, 11])])
def spec_l08Order.B8 : List Nat := [0, 0, 0, 6, 15, 0, 32, 127, 0, 0, 768, 2047, 4095]
theorem spec_l08Order.tab8 : rtab .any (opsOf Try.f26 8) = spec_l08Order.T8 := by kernel_rfl
theorem spec_l08Order.bits8 : waitsOk spec_l08Order.T8.2 spec_l08Order.B8 = true := by kernel_rfl
theorem spec_l08Order.calls (k : Nat) (A0 : Option Addr) (c0 : Nat) (l0 : List Int) (r : List Int) (w : World) (hr0 : Kd.C (Kd.int .i64) w A0 l0.length l0) (hc0 : l0.length ≤ c0) (h : spec_l08Order.f k l0 = some r) :
  Calls Try.prog 26 #[.slice A0 l0.length c0] w fun e w' => ∃ v0_ : Value, e = .returned (v0_) ∧ Kd.R (Kd.int .i64) 2 w' w.heap.size (fun _ => True) v0_ r ∧ Below w.heap.size w w' := by
 have HR0 := am_ hr0; have HC0 := am_ hc0; clear hr0 hc0; have HB := am_ (Below.refl w.heap.size w); have H : (spec_l08Order.l0 k l0 (([] : List Int)) 0) = some r := h; clear h; obtain ⟨y177, hy177⟩ : ∃ y_ : List Int, y_ = (([] : List Int)) := ⟨_, rfl⟩
 replace H : (spec_l08Order.l0 k l0 y177 0) = some r := by (try rw [hy177]); first | with_reducible exact H | with_reducible exact (Option.bind_some _ _).symm.trans H | exact H
 have Ny177 := am_ hy177; clear hy177; have H' := am_ H; clear H
 go_enter Try.func26, Try.ntmps26
 go_wp2_with (first | ((with_reducible refine gate_dst (N := 6) rfl ?_); refine Kd.R_lit (Kd.int .i64) _ 2 ?hg (N := 6) ?hd (xs := ([] : List Int)) (inner := []) (ok := fun _ => True) (okp := fun _ => True) ?hr ?hp (fun _ hk => hk) trivial (Below.refl _ _) (Nat.le_refl _) (by simp) ?_; (case hd => rfl); (case hg => rfl); (case hr => first | (go_simp; done) | (go_simp; rfl)); (case hp => exact (Reps.none _ _)); intro v178 w2 ho3 hb hg_ hnew_; clear hg_ hnew_; (first | rw [← Ny177.out] at ho3 | (simp only [Int.reduceToNat] at ho3; rw [← Ny177.out] at ho3)); replace HO179 := am_ (Kd.R_lower ho3 (below_size Zf)); replace HB := (bsZ Zf hb); clear hb ho3))
 go_loopg [3, 4] k (fun kq v3 v4 w' => ∃ (x3_1 : List Int) (x4_1 : Int), v4 = .int .i64 x4_1 ∧ Aside0 (spec_l08Order.l0 kq l0 x3_1 x4_1 = some r) ∧ Aside0 (kq ≤ k) ∧ Aside0 (Kd.R (Kd.int .i64) 2 w' w.heap.size (fun _ => True) v3 x3_1) ∧ Aside0 (Below w.heap.size w w'))
 case atStart => exact ⟨(y177), (0), Za, H', ⟨Nat.le_refl _⟩, ⟨(Zr HO179)⟩, ⟨Zf⟩⟩
 case round =>
  clear H'
  try clear c2
  try clear p2
  obtain ⟨x3_1, x4_1, rfl, HA, HK1, HO_3, HB⟩ := hrel
  cases gk with
  | zero => exact absurd HA.out (by simp [spec_l08Order.l0])
  | succ k1 =>
   have H := HA.out; clear HA; simp only [spec_l08Order.l0] at H
   by_cases c4 : x4_1 < (l0.length : Int)
   ·rw [if_pos c4] at H
    have c4b0 := decide_eq_true c4; clear c4; have H' := am_ H; clear H
    go_wp2
    go_loopg [5] k1 (fun kq v5 w' => ∃ (x5_2 : Int), v5 = .int .i64 x5_2 ∧ Aside0 (spec_l08Order.l1 kq l0 x3_1 x4_1 x5_2 = some r) ∧ Aside0 (kq ≤ k1) ∧ Aside0 (Kd.R (Kd.int .i64) 2 w' w.heap.size (fun _ => True) u3 x3_1) ∧ Aside0 (Below w.heap.size w w'))
    case atStart => exact ⟨(0), Za, H', ⟨Nat.le_refl _⟩, ⟨(Zr HO_3)⟩, ⟨Zf⟩⟩
    case round =>
     clear H'
     try clear c2
     try clear p2
     try clear c4
     try clear c4b0
     try clear p2
     obtain ⟨x5_2, rfl, HA, HK2, HO_3, HB⟩ := hrel
     cases gk with
     | zero => exact absurd HA.out (by simp [spec_l08Order.l1])
     | succ k2 =>
      have H := HA.out; clear HA; simp only [spec_l08Order.l1] at H
      by_cases c5 : x5_2 < (x3_1.length : Int)
      ·rw [if_pos c5] at H
       have c5b0 := decide_eq_true c5; clear c5
       by_cases c6 : 0 ≤ x5_2
       ·rw [if_pos c6] at H
        have c6b0 := decide_eq_true c6; clear c6
        by_cases c7 : 0 ≤ (rd x3_1 x5_2)
        ·rw [if_pos c7] at H
         have c7b0 := decide_eq_true c7; clear c7
         by_cases c8 : (rd x3_1 x5_2) < (l0.length : Int)
         ·rw [if_pos c8] at H
          have c8b0 := decide_eq_true c8; clear c8
          by_cases c9 : 0 ≤ x4_1
          ·rw [if_pos c9] at H
           have c9b0 := decide_eq_true c9; clear c9
           by_cases c10 : x4_1 < (l0.length : Int)
           ·rw [if_pos c10] at H
            have c10b0 := decide_eq_true c10; clear c10
            by_cases c11 : (rd l0 (rd x3_1 x5_2)) ≤ (rd l0 x4_1)
            ·rw [if_pos c11] at H
             have c11b0 := decide_eq_true c11; clear c11; have H' := am_ H; clear H
             try go_wp2
             replace HO_3 := am_ (Kd.R_drew HO_3.out); replace HB := am_ (below_drew1 HB.out); obtain ⟨Ao13, co13, eo13⟩ := Kd.R_slice HO_3.out
             (first | subst eo13 | (injection eo13 with f1_ f2_ f3_; have f4_ := f1_.symm; have f5_ := f3_.symm; clear f1_ f2_ f3_; subst f4_; subst f5_))
             have p180 : 0 ≤ (x5_2 : Int) := of_decide_eq_true Zc; have q180 : x5_2 < (x3_1.length : Int) := of_decide_eq_true Zc; obtain ⟨ad180, e180, hx180_0⟩ := Kd.at_int (Kd.R_reads' HO_3.out).2.2 x5_2 p180 q180
             cases e180
             replace p180 := eq_true p180; replace q180 := eq_true q180; have p181 : 0 ≤ ((rd x3_1 x5_2) : Int) := of_decide_eq_true Zc; have q181 : (rd x3_1 x5_2) < (l0.length : Int) := of_decide_eq_true Zc; obtain ⟨ad181, e181, hx181_0⟩ := Kd.at_int HR0.out (rd x3_1 x5_2) p181 q181; have hw181_0 := hx181_0
             cases e181
             replace hx181_0 := cbH HB hx181_0; replace p181 := eq_true p181; replace q181 := eq_true q181; have p182 : 0 ≤ (x4_1 : Int) := of_decide_eq_true Zc; have q182 : x4_1 < (l0.length : Int) := of_decide_eq_true Zc; obtain ⟨ad182, e182, hx182_0⟩ := Kd.at_int HR0.out x4_1 p182 q182; have hw182_0 := hx182_0; obtain rfl : ad181 = ad182 := (by injection e182); replace hx182_0 := cbH HB hx182_0; replace p182 := eq_true p182; replace q182 := eq_true q182; refine start_ (n := 18) (S := fun w' => w'.cell? (ad180.add (x5_2).toNat) = some (.int .i64 (rd x3_1 x5_2)) ∧ w'.cell? (ad181.add ((rd x3_1 x5_2)).toNat) = some (.int .i64 (rd l0 (rd x3_1 x5_2))) ∧ w'.cell? (ad181.add (x4_1).toNat) = some (.int .i64 (rd l0 x4_1))) (ds := []) (bT 18 0) Zi rfl rfl ⟨hx180_0, (cbH HB hw181_0 :), (cbH HB hw182_0 :)⟩ (fun hHeld => ?_); refine with_tabW spec_l08Order.tab6 spec_l08Order.bits6 (fun HT_ HW_ => ?_); generalize wr.drew = w12 at HO_3 HB hx180_0 hx181_0 hx182_0 hHeld ⊢; refine pureZ HT_ 0 (some 13) (bT 18 1) ?_; refine pureZ HT_ 1 (some 14) (bT 18 2) ?_; refine pureZ HT_ 2 (some 15) (bT 18 3) ?_; refine pureZ HT_ 3 (some 16) (bT 18 4) ?_; refine pureZ HT_ 4 (some 17) (bT 18 5) ?_; refine pureZ HT_ 5 (some 18) (bT 18 6) ?_; refine pureZ HT_ 6 (some 19) (bT 18 7) ?_; refine pureZ HT_ 7 (some 20) (bT 18 8) ?_; refine pureZ HT_ 8 (some 21) (bT 18 9) ?_; refine pureZ HT_ 12 (some 25) (bB 18 4607) ?_; refine pureZ HT_ 13 (some 26) (bB 18 12799) ?_; refine pureZ HT_ 14 (some 27) (bB 18 29183) ?_; refine takeZ3 HT_ HW_ 9 (some 22) (bB 18 29695) hHeld ?_; refine pureZ HT_ 10 (some 23) (bB 18 30719) ?_; refine takeZ3 HT_ HW_ 11 (some 24) (bT 18 15) hHeld ?_; refine takeZ3 HT_ HW_ 15 (some 28) (bT 18 16) hHeld ?_; refine pureZ HT_ 16 (some 29) (bT 18 17) ?_; refine pureZ HT_ 17 (some 30) (bT 18 18) ?_; refine done_ (done_of HT_.out Zi) ?_
             try go_wp2
             go_roundg k2
             case measure => have := HK1.out; have := HK2.out; omega
             case rel => exact ⟨(wrap64 (x5_2 + 1)), Za, H', ⟨Zac⟩, ⟨(Zr HO_3)⟩, ⟨Zf⟩⟩
            ·rw [if_neg c11] at H
             have c11b0 := decide_eq_false c11; clear c11; obtain ⟨y183, hy183⟩ : ∃ y_ : List Int, y_ = (([] : List Int)) := ⟨_, rfl⟩
             replace H : (if x5_2 ≤ (x3_1.length : Int) then ((some (x3_1.take (x5_2 : Int).toNat : List Int)).bind fun y186 => (if y183.length + y186.length < 17592186044416 then ((some (y183 ++ y186 : List Int)).bind fun y190 => ((some (([x4_1] : List Int) : List Int)).bind fun y193 => (if y190.length + y193.length < 17592186044416 then ((some (y190 ++ y193 : List Int)).bind fun y196 => ((some (x3_1.drop (x5_2 : Int).toNat : List Int)).bind fun y199 => (if y196.length + y199.length < 17592186044416 then (spec_l08Order.l0 k2 l0 (y196 ++ y199) (wrap64 (x4_1 + 1))) else (none)))) else (none)))) else (none))) else (none)) = some r := by (try rw [hy183]); first | with_reducible exact H | with_reducible exact (Option.bind_some _ _).symm.trans H | exact H
             have Ny183 := am_ hy183; clear hy183; have c14b0 := eq_true (of_decide_eq_true Zc : 0 ≤ x5_2)
             by_cases c15 : x5_2 ≤ (x3_1.length : Int)
             ·rw [if_pos c15] at H
              have c15b0 := eq_true c15; have c15b1 := decide_eq_true c15; clear c15; obtain ⟨y186, hy186⟩ : ∃ y_ : List Int, y_ = (x3_1.take (x5_2 : Int).toNat) := ⟨_, rfl⟩
              (first | (rw [← hy186] at H; with_reducible replace H := bindZ H) | rw [← hy186] at H | skip)
              have Ny186 := am_ hy186; clear hy186
              by_cases c16 : y183.length + y186.length < 17592186044416
              ·rw [if_pos c16] at H
               have LMc16 := am_ c16; clear c16; obtain ⟨y190, hy190⟩ : ∃ y_ : List Int, y_ = (y183 ++ y186) := ⟨_, rfl⟩
               (first | (rw [← hy190] at H; with_reducible replace H := bindZ H) | rw [← hy190] at H | skip)
               have Ny190 := am_ hy190; clear hy190; obtain ⟨y193, hy193⟩ : ∃ y_ : List Int, y_ = (([x4_1] : List Int)) := ⟨_, rfl⟩
               (first | (rw [← hy193] at H; with_reducible replace H := bindZ H) | rw [← hy193] at H | skip)
               have Ny193 := am_ hy193; clear hy193
               by_cases c17 : y190.length + y193.length < 17592186044416
               ·rw [if_pos c17] at H
                have LMc17 := am_ c17; clear c17; obtain ⟨y196, hy196⟩ : ∃ y_ : List Int, y_ = (y190 ++ y193) := ⟨_, rfl⟩
                (first | (rw [← hy196] at H; with_reducible replace H := bindZ H) | rw [← hy196] at H | skip)
                have Ny196 := am_ hy196; clear hy196; have c18b0 := eq_true (of_decide_eq_true Zc : 0 ≤ x5_2); have c19b0 := eq_true (of_decide_eq_true Zc : x5_2 ≤ (x3_1.length : Int)); obtain ⟨y199, hy199⟩ : ∃ y_ : List Int, y_ = (x3_1.drop (x5_2 : Int).toNat) := ⟨_, rfl⟩
                (first | (rw [← hy199] at H; with_reducible replace H := bindZ H) | rw [← hy199] at H | skip)
                have Ny199 := am_ hy199; clear hy199
                by_cases c20 : y196.length + y199.length < 17592186044416
                ·rw [if_pos c20] at H
                 have LMc20 := am_ c20; clear c20; obtain ⟨y203, hy203⟩ : ∃ y_ : List Int, y_ = (y196 ++ y199) := ⟨_, rfl⟩
                 (first | (rw [← hy203] at H; with_reducible replace H := bindZ H) | rw [← hy203] at H | skip)
                 have Ny203 := am_ hy203; clear hy203; have H' := am_ H; clear H
                 try go_wp2
                 replace HO_3 := am_ (Kd.R_drew HO_3.out); replace HB := am_ (below_drew1 HB.out); obtain ⟨Ao22, co22, eo22⟩ := Kd.R_slice HO_3.out
                 (first | subst eo22 | (injection eo22 with f1_ f2_ f3_; have f4_ := f1_.symm; have f5_ := f3_.symm; clear f1_ f2_ f3_; subst f4_; subst f5_))
                 have p180 : 0 ≤ (x5_2 : Int) := of_decide_eq_true Zc; have q180 : x5_2 < (x3_1.length : Int) := of_decide_eq_true Zc; obtain ⟨ad180, e180, hx180_0⟩ := Kd.at_int (Kd.R_reads' HO_3.out).2.2 x5_2 p180 q180
                 cases e180
                 replace p180 := eq_true p180; replace q180 := eq_true q180; have p181 : 0 ≤ ((rd x3_1 x5_2) : Int) := of_decide_eq_true Zc; have q181 : (rd x3_1 x5_2) < (l0.length : Int) := of_decide_eq_true Zc; obtain ⟨ad181, e181, hx181_0⟩ := Kd.at_int HR0.out (rd x3_1 x5_2) p181 q181; have hw181_0 := hx181_0
                 cases e181
                 replace hx181_0 := cbH HB hx181_0; replace p181 := eq_true p181; replace q181 := eq_true q181; have p182 : 0 ≤ (x4_1 : Int) := of_decide_eq_true Zc; have q182 : x4_1 < (l0.length : Int) := of_decide_eq_true Zc; obtain ⟨ad182, e182, hx182_0⟩ := Kd.at_int HR0.out x4_1 p182 q182; have hw182_0 := hx182_0; obtain rfl : ad181 = ad182 := (by injection e182); replace hx182_0 := cbH HB hx182_0; replace p182 := eq_true p182; replace q182 := eq_true q182; refine start_ (n := 18) (S := fun w' => w'.cell? (ad180.add (x5_2).toNat) = some (.int .i64 (rd x3_1 x5_2)) ∧ w'.cell? (ad181.add ((rd x3_1 x5_2)).toNat) = some (.int .i64 (rd l0 (rd x3_1 x5_2))) ∧ w'.cell? (ad181.add (x4_1).toNat) = some (.int .i64 (rd l0 x4_1))) (ds := []) (bT 18 0) Zi rfl rfl ⟨hx180_0, (cbH HB hw181_0 :), (cbH HB hw182_0 :)⟩ (fun hHeld => ?_); refine with_tabW spec_l08Order.tab6 spec_l08Order.bits6 (fun HT_ HW_ => ?_); generalize wr.drew = w21 at HO_3 HB hx180_0 hx181_0 hx182_0 hHeld ⊢; refine pureZ HT_ 0 (some 13) (bT 18 1) ?_; refine pureZ HT_ 1 (some 14) (bT 18 2) ?_; refine pureZ HT_ 2 (some 15) (bT 18 3) ?_; refine pureZ HT_ 3 (some 16) (bT 18 4) ?_; refine pureZ HT_ 4 (some 17) (bT 18 5) ?_; refine pureZ HT_ 5 (some 18) (bT 18 6) ?_; refine pureZ HT_ 6 (some 19) (bT 18 7) ?_; refine pureZ HT_ 7 (some 20) (bT 18 8) ?_; refine pureZ HT_ 8 (some 21) (bT 18 9) ?_; refine pureZ HT_ 12 (some 25) (bB 18 4607) ?_; refine pureZ HT_ 13 (some 26) (bB 18 12799) ?_; refine pureZ HT_ 14 (some 27) (bB 18 29183) ?_; refine takeZ3 HT_ HW_ 9 (some 22) (bB 18 29695) hHeld ?_; refine pureZ HT_ 10 (some 23) (bB 18 30719) ?_; refine takeZ3 HT_ HW_ 11 (some 24) (bT 18 15) hHeld ?_; refine takeZ3 HT_ HW_ 15 (some 28) (bT 18 16) hHeld ?_; refine pureZ HT_ 16 (some 29) (bT 18 17) ?_; refine pureZ HT_ 17 (some 30) (bT 18 18) ?_; refine done_ (done_of HT_.out Zi) ?_
                 try go_wp2
                 replace HO_3 := am_ (Kd.R_drew HO_3.out); replace HB := am_ (below_drew1 HB.out); have q24 : (x5_2 : Int) ≤ ((x3_1.length : Int) : Int) := of_decide_eq_true Zc; obtain ⟨i024, hi024, _, hsz24, _⟩ := info_parts info2; have hroom24 : x3_1.length ≤ co22 := (Kd.R_reads' HO_3.out).2.1; have hC24 : Kd.C (Kd.int .i64) _ (some ad180) x3_1.length x3_1 := (Kd.R_reads' HO_3.out).2.2; have hcut24 := cut_to (P := Try.prog) 47 2 .i64 Try.underlying47 hi024 (some ad180) x3_1.length co22 x5_2 (of_decide_eq_true Zc) q24 hroom24; have hr24 := Kd.C_take (m := (x5_2 : Int).toNat) hC24 (by omega); have hy24 : y186.length = (x5_2 : Int).toNat := (by rw [Ny186.out, List.length_take]; omega); rw [← Ny186.out] at hr24; rw [← hy24] at hcut24; have HR189 := am_ hr24; have HC189 := am_ (show y186.length ≤ co22 from (by omega)); clear hr24 hC24 hroom24 hi024 hsz24; have KY24 := am_ hy24; clear hy24; have KL24 := am_ (show (x5_2 : Int).toNat ≤ x3_1.length from (by omega)); replace q24 := eq_true q24; have q25 : (x5_2 : Int) ≤ ((x3_1.length : Int) : Int) := of_decide_eq_true Zc; obtain ⟨i025, hi025, _, hsz25, _⟩ := info_parts info2; have hroom25 : x3_1.length ≤ co22 := (Kd.R_reads' HO_3.out).2.1; have hC25 : Kd.C (Kd.int .i64) _ (some ad180) x3_1.length x3_1 := (Kd.R_reads' HO_3.out).2.2; have q025 : (0 : Int) ≤ (x5_2 : Int) := of_decide_eq_true Zc; have hcut25 := cut_from (P := Try.prog) 47 2 .i64 Try.underlying47 hi025 1 hsz25 (some ad180) x3_1.length co22 x5_2 q025 q25; have hr25 := Kd.C_drop (m := (x5_2 : Int).toNat) (c := co22) hC25 (by omega) hroom25; obtain ⟨A25, hA25⟩ : ∃ A1, A1 = (if co22 = (x5_2 : Int).toNat then (some ad180) else ((some ad180) : Option Addr).map (·.add ((x5_2 : Int).toNat * 1))) := ⟨_, rfl⟩; obtain ⟨c25, hc25⟩ : ∃ c1, c1 = co22 - (x5_2 : Int).toNat := ⟨_, rfl⟩; have hy25 : y199.length = x3_1.length - (x5_2 : Int).toNat := (by rw [Ny199.out, List.length_drop] <;> omega); rw [show (x3_1).drop (x5_2 : Int).toNat = y199 from Ny199.out.symm] at hr25; replace hr25 : Kd.C (Kd.int .i64) _ A25 y199.length y199 := (by rw [hA25]; exact hr25); rw [← hy25, ← hA25, ← hc25] at hcut25; have HR202 := am_ hr25; have HC202 := am_ (show y199.length ≤ c25 from (by rw [hy25, hc25]; exact Nat.sub_le_sub_right hroom25 _)); clear hr25 hC25 hroom25 hi025 hsz25 hc25; have KY25 := am_ hy25; have KA25 := am_ hA25; clear hy25 hA25; have KL25 := am_ (show (x5_2 : Int).toNat ≤ x3_1.length from (by omega)); replace q25 := eq_true q25; refine start_ (n := 13) (S := fun w' => True) (ds := []) (bT 13 0) Zi rfl rfl trivial (fun hHeld => ?_); refine with_tabW spec_l08Order.tab8 spec_l08Order.bits8 (fun HT_ HW_ => ?_); generalize w21.drew = w23 at HO_3 HB HR189 HR202 hHeld ⊢; refine pureZ HT_ 1 (some 34) (bB 13 2) ?_; refine pureZ HT_ 2 (some 35) (bB 13 6) ?_; refine pureZ HT_ 3 (some 36) (bB 13 14) ?_; refine pureZ HT_ 5 (some 38) (bB 13 46) ?_; refine pureZ HT_ 8 (some 41) (bB 13 302) ?_; refine pureZ HT_ 9 (some 42) (bB 13 814) ?_
                 refine pureZ HT_ 10 (some 43) (bB 13 1838) ?_; refine join_ (σ := Value × Value × Value) 3 (bB 13 1919) (fun s_ => [(33, s_.1), (37, s_.2.1), (39, s_.2.2)]) (fun s_ w' => (Kd.R (Kd.int .i64) 2 w' w.heap.size (fun k_ => some k_ ≠ (s_.2.2 : Value).ownBlock ∧ some k_ ≠ (.slice (some ad180) x3_1.length co22 : Value).ownBlock) s_.2.1 y190) ∧ (Kd.R (Kd.int .i64) 2 w' w.heap.size (fun k_ => some k_ ≠ (s_.2.1 : Value).ownBlock ∧ some k_ ≠ (.slice (some ad180) x3_1.length co22 : Value).ownBlock) s_.2.2 y193) ∧ (Kd.R (Kd.int .i64) 2 w' w.heap.size (fun k_ => some k_ ≠ (s_.2.1 : Value).ownBlock ∧ some k_ ≠ (s_.2.2 : Value).ownBlock) (.slice (some ad180) x3_1.length co22) x3_1) ∧ (Kd.C (Kd.int .i64) w' (some ad180) y186.length y186) ∧ (Kd.C (Kd.int .i64) w' A25 y199.length y199) ∧ (Below w.heap.size w w')) ?_ ?_; rotate_left
                 ·intro hCont
                  refine two_ (i := 0) (j := 6) (Ni := some 33) (Nj := some 39) (bB 13 1839) (bB 13 1902) rfl rfl rfl rfl (two_of HT_.out Zi) (by decide) (by decide) (fun K hK => ?_) (fun K hK => ?_)
                  ·skip
                   refine Kd.R_lit_step (Kd.int .i64) _ 2 ?hg (N := 33) ?hd (xs := ([] : List Int)) (inner := []) (ok := fun _ => True) (okp := fun _ => True) ?hr ?hp (fun _ hk => hk) trivial (Below.refl _ _) (Nat.le_refl _) (by simp) ?_; (case hd => rfl); (case hg => rfl); (case hr => first | (go_simp; done) | (go_simp; rfl)); (case hp => exact (Reps.none _ _)); intro v184 w26 ho27 hb hg_ hnew_; clear hg_ hnew_
                   (first | rw [← Ny183.out] at ho27 | (simp only [Int.reduceToNat] at ho27; rw [← Ny183.out] at ho27))
                   replace HO185 := am_ (Kd.R_lower (Kd.R_new' ho27 (Kd.R_lt (Zr HO_3))) (below_size Zf)); replace HO_3 := am_ (Kd.R_elder' (Zr HO_3) (Kd.R_base ho27) hb); replace HR189 := am_ (Kd.C_below (Zad HR189) hb); replace HR202 := am_ (Kd.C_below (Zad HR202) hb); replace HB := (bsZ Zf hb); clear hb ho27; refine hK.out _ _ trivial (fun hHeld => ?_); clear hK K; refine normZ 33 ?_; refine two_ (i := 4) (j := 6) (Ni := some 37) (Nj := some 39) (bB 13 1855) (bB 13 1903) rfl rfl rfl rfl (two_of HT_.out Zi) (by decide) (by decide) (fun K hK => ?_) (fun K hK => ?_)
                   ·skip
                    refine Kd.R_append_rows_step (Kd.int .i64) (w0 := w) w.heap.size (by rfl) (.tmp 33) (.tmp 36) 47 2 (.int .i64 0) 8 rfl Try.underlying47 info2 rfl (by decide) (by omega) v184 y183 y186 _ _ _ (fun k_ => some k_ ≠ (.slice (some ad180) x3_1.length co22 : Value).ownBlock) (fun _ => False) rfl rfl ?aO ?aR (fun _ _ h => h) (fun _ h => h.elim) ?aF ?aB ?aS ?aL ?_
                    (case aR => repeat (first | exact (Zad HR189) | (with_reducible refine Kd.C_alloc ?_ _) | (with_reducible refine Kd.C_drewN ?_ _) | (with_reducible refine Kd.C_drew ?_)))
                    (case aB => exact Zf)
                    (case aF => exact (fun k_ hk => Kd.fresh' (Kd.R_lt (Zr HO_3)) k_ hk))
                    (case aO => exact (Zae HO185))
                    (case aS => exact (below_size Zf))
                    (case aL => have := LMc16.out; omega)
                    intro v191 w28 ho hb hg hat; rw [← Ny190.out] at ho; replace HB := am_ (hb); replace HR189 := am_ ((show Kd.C (Kd.int .i64) w28 (some ad180) y186.length y186 from (by rw [Ny186.out]; exact Kd.C_take (m := (x5_2 : Int).toNat) ((Kd.R_reads' (Kd.R_after (ok := (fun _ => True)) (Zr HO_3) hg hat)).2.2) KL24.out))); replace HR202 := am_ ((show Kd.C (Kd.int .i64) w28 A25 y199.length y199 from (by rw [Ny199.out, KA25.out]; exact Kd.C_drop (m := (x5_2 : Int).toNat) (c := co22) ((Kd.R_reads' (Kd.R_after (ok := (fun _ => True)) (Zr HO_3) hg hat)).2.2) KL25.out ((Kd.R_reads' (Kd.R_after (ok := (fun _ => True)) (Zr HO_3) hg hat)).2.1)))); replace HO_3 := am_ (Kd.R_after (ok := (fun _ => True)) (Zr HO_3) hg hat); replace HO192 := am_ (ho); clear HO185; clear ho hb hg hat; refine hK.out _ _ trivial (fun hHeld => ?_); clear hK K; refine normZ 37 ?_; refine one_ (i := 6) (N := some 39) (bB 13 1919) rfl rfl (one_of HT_.out Zi) (by decide) (fun K hK => ?_); refine Kd.R_lit_step (Kd.int .i64) _ 2 ?hg (N := 39) ?hd (xs := ([x4_1] : List Int)) (inner := [.int .i64 x4_1]) (ok := fun _ => True) (okp := fun _ => True) ?hr ?hp (fun _ hk => hk) trivial (Below.refl _ _) (Nat.le_refl _) (by simp) ?_; (case hd => rfl); (case hg => rfl); (case hr => first | (go_simp; done) | (go_simp; rfl)); (case hp => exact (Reps.one (show Kd.M (Kd.int .i64) _ _ _ x4_1 [.int .i64 x4_1] from rfl) (Reps.none _ _))); intro v194 w29 ho30 hb hg_ hnew_; clear hg_ hnew_
                    (first | rw [← Ny193.out] at ho30 | (simp only [Int.reduceToNat] at ho30; rw [← Ny193.out] at ho30))
                    replace HO195 := am_ (Kd.R_lower (Kd.R_new' (Kd.R_new' ho30 (Kd.R_lt (Zr HO_3))) (Kd.R_lt (Zr HO192))) (below_size Zf)); replace HO_3 := am_ (Kd.R_elder' (Zr HO_3) (Kd.R_base ho30) hb); replace HO192 := am_ (Kd.R_elder' (Zr HO192) (Kd.R_base ho30) hb); replace HR189 := am_ (Kd.C_below (Zad HR189) hb); replace HR202 := am_ (Kd.C_below (Zad HR202) hb); replace HB := (bsZ Zf hb); clear hb ho30; refine hK.out _ _ trivial (fun hHeld => ?_); clear hK K; refine normZ 39 ?_; exact norm_ Zu (hCont (v184, v191, v194) _ ⟨(Zaf HO192), (Zag HO195), (Zah HO_3), (Zad HR189), (Zad HR202), Zf⟩)
                   ·skip
                    refine Kd.R_lit_step (Kd.int .i64) _ 2 ?hg (N := 39) ?hd (xs := ([x4_1] : List Int)) (inner := [.int .i64 x4_1]) (ok := fun _ => True) (okp := fun _ => True) ?hr ?hp (fun _ hk => hk) trivial (Below.refl _ _) (Nat.le_refl _) (by simp) ?_; (case hd => rfl); (case hg => rfl); (case hr => first | (go_simp; done) | (go_simp; rfl)); (case hp => exact (Reps.one (show Kd.M (Kd.int .i64) _ _ _ x4_1 [.int .i64 x4_1] from rfl) (Reps.none _ _))); intro v194 w28 ho29 hb hg_ hnew_; clear hg_ hnew_
                    (first | rw [← Ny193.out] at ho29 | (simp only [Int.reduceToNat] at ho29; rw [← Ny193.out] at ho29))
                    replace HO195 := am_ (Kd.R_lower (Kd.R_new' (Kd.R_new' ho29 (Kd.R_lt (Zr HO_3))) (Kd.R_lt (Zr HO185))) (below_size Zf)); replace HO_3 := am_ (Kd.R_elder' (Zr HO_3) (Kd.R_base ho29) hb); replace HO185 := am_ (Kd.R_elder' (Zr HO185) (Kd.R_base ho29) hb); replace HR189 := am_ (Kd.C_below (Zad HR189) hb); replace HR202 := am_ (Kd.C_below (Zad HR202) hb); replace HB := (bsZ Zf hb); clear hb ho29; refine hK.out _ _ trivial (fun hHeld => ?_); clear hK K; refine normZ 39 ?_; refine one_ (i := 4) (N := some 37) (bB 13 1919) rfl rfl (one_of HT_.out Zi) (by decide) (fun K hK => ?_); refine Kd.R_append_rows_step (Kd.int .i64) (w0 := w) w.heap.size (by rfl) (.tmp 33) (.tmp 36) 47 2 (.int .i64 0) 8 rfl Try.underlying47 info2 rfl (by decide) (by omega) v184 y183 y186 _ _ _ (fun k_ => some k_ ≠ (.slice (some ad180) x3_1.length co22 : Value).ownBlock ∧ some k_ ≠ (v194 : Value).ownBlock) (fun _ => False) rfl rfl ?aO ?aR (fun _ _ h => h) (fun _ h => h.elim) ?aF ?aB ?aS ?aL ?_
                    (case aR => repeat (first | exact (Zad HR189) | (with_reducible refine Kd.C_alloc ?_ _) | (with_reducible refine Kd.C_drewN ?_ _) | (with_reducible refine Kd.C_drew ?_)))
                    (case aB => exact Zf)
                    (case aF => exact (fun k_ hk => ⟨Kd.fresh' (Kd.R_lt (Zr HO_3)) k_ hk, Kd.fresh' (Kd.R_lt (Zr HO195)) k_ hk⟩))
                    (case aO => exact (Zah HO185))
                    (case aS => exact (below_size Zf))
                    (case aL => have := LMc16.out; omega)
                    intro v191 w30 ho hb hg hat; rw [← Ny190.out] at ho; replace HO195 := am_ (Kd.R_after (ok := (fun k_ => some k_ ≠ (.slice (some ad180) x3_1.length co22 : Value).ownBlock)) (Zah HO195) hg hat); replace HB := am_ (hb); replace HR189 := am_ ((show Kd.C (Kd.int .i64) w30 (some ad180) y186.length y186 from (by rw [Ny186.out]; exact Kd.C_take (m := (x5_2 : Int).toNat) ((Kd.R_reads' (Kd.R_after (ok := (fun k_ => some k_ ≠ (v194 : Value).ownBlock)) (Zag HO_3) hg hat)).2.2) KL24.out))); replace HR202 := am_ ((show Kd.C (Kd.int .i64) w30 A25 y199.length y199 from (by rw [Ny199.out, KA25.out]; exact Kd.C_drop (m := (x5_2 : Int).toNat) (c := co22) ((Kd.R_reads' (Kd.R_after (ok := (fun k_ => some k_ ≠ (v194 : Value).ownBlock)) (Zag HO_3) hg hat)).2.2) KL25.out ((Kd.R_reads' (Kd.R_after (ok := (fun k_ => some k_ ≠ (v194 : Value).ownBlock)) (Zag HO_3) hg hat)).2.1)))); replace HO_3 := am_ (Kd.R_after (ok := (fun k_ => some k_ ≠ (v194 : Value).ownBlock)) (Zag HO_3) hg hat); replace HO192 := am_ (ho); clear HO185; clear ho hb hg hat; refine hK.out _ _ trivial (fun hHeld => ?_); clear hK K; refine normZ 37 ?_; exact norm_ Zu (hCont (v184, v191, v194) _ ⟨(Zaf HO192), (Zaf HO195), (Zaf HO_3), (Zad HR189), (Zad HR202), Zf⟩)
                  ·skip
                   refine Kd.R_lit_step (Kd.int .i64) _ 2 ?hg (N := 39) ?hd (xs := ([x4_1] : List Int)) (inner := [.int .i64 x4_1]) (ok := fun _ => True) (okp := fun _ => True) ?hr ?hp (fun _ hk => hk) trivial (Below.refl _ _) (Nat.le_refl _) (by simp) ?_; (case hd => rfl); (case hg => rfl); (case hr => first | (go_simp; done) | (go_simp; rfl)); (case hp => exact (Reps.one (show Kd.M (Kd.int .i64) _ _ _ x4_1 [.int .i64 x4_1] from rfl) (Reps.none _ _))); intro v194 w26 ho27 hb hg_ hnew_; clear hg_ hnew_
                   (first | rw [← Ny193.out] at ho27 | (simp only [Int.reduceToNat] at ho27; rw [← Ny193.out] at ho27))
                   replace HO195 := am_ (Kd.R_lower (Kd.R_new' ho27 (Kd.R_lt (Zr HO_3))) (below_size Zf)); replace HO_3 := am_ (Kd.R_elder' (Zr HO_3) (Kd.R_base ho27) hb); replace HR189 := am_ (Kd.C_below (Zad HR189) hb); replace HR202 := am_ (Kd.C_below (Zad HR202) hb); replace HB := (bsZ Zf hb); clear hb ho27; refine hK.out _ _ trivial (fun hHeld => ?_); clear hK K; refine normZ 39 ?_; refine one_ (i := 0) (N := some 33) (bB 13 1903) rfl rfl (one_of HT_.out Zi) (by decide) (fun K hK => ?_); refine Kd.R_lit_step (Kd.int .i64) _ 2 ?hg (N := 33) ?hd (xs := ([] : List Int)) (inner := []) (ok := fun _ => True) (okp := fun _ => True) ?hr ?hp (fun _ hk => hk) trivial (Below.refl _ _) (Nat.le_refl _) (by simp) ?_; (case hd => rfl); (case hg => rfl); (case hr => first | (go_simp; done) | (go_simp; rfl)); (case hp => exact (Reps.none _ _)); intro v184 w28 ho29 hb hg_ hnew_; clear hg_ hnew_
                   (first | rw [← Ny183.out] at ho29 | (simp only [Int.reduceToNat] at ho29; rw [← Ny183.out] at ho29))
                   replace HO185 := am_ (Kd.R_lower (Kd.R_new' (Kd.R_new' ho29 (Kd.R_lt (Zr HO_3))) (Kd.R_lt (Zr HO195))) (below_size Zf)); replace HO_3 := am_ (Kd.R_elder' (Zr HO_3) (Kd.R_base ho29) hb); replace HO195 := am_ (Kd.R_elder' (Zr HO195) (Kd.R_base ho29) hb); replace HR189 := am_ (Kd.C_below (Zad HR189) hb); replace HR202 := am_ (Kd.C_below (Zad HR202) hb); replace HB := (bsZ Zf hb); clear hb ho29; refine hK.out _ _ trivial (fun hHeld => ?_); clear hK K; refine normZ 33 ?_; refine one_ (i := 4) (N := some 37) (bB 13 1919) rfl rfl (one_of HT_.out Zi) (by decide) (fun K hK => ?_); refine Kd.R_append_rows_step (Kd.int .i64) (w0 := w) w.heap.size (by rfl) (.tmp 33) (.tmp 36) 47 2 (.int .i64 0) 8 rfl Try.underlying47 info2 rfl (by decide) (by omega) v184 y183 y186 _ _ _ (fun k_ => some k_ ≠ (.slice (some ad180) x3_1.length co22 : Value).ownBlock ∧ some k_ ≠ (v194 : Value).ownBlock) (fun _ => False) rfl rfl ?aO ?aR (fun _ _ h => h) (fun _ h => h.elim) ?aF ?aB ?aS ?aL ?_
                   (case aR => repeat (first | exact (Zad HR189) | (with_reducible refine Kd.C_alloc ?_ _) | (with_reducible refine Kd.C_drewN ?_ _) | (with_reducible refine Kd.C_drew ?_)))
                   (case aB => exact Zf)
                   (case aF => exact (fun k_ hk => ⟨Kd.fresh' (Kd.R_lt (Zr HO_3)) k_ hk, Kd.fresh' (Kd.R_lt (Zr HO195)) k_ hk⟩))
                   (case aO => exact (Zah HO185))
                   (case aS => exact (below_size Zf))
                   (case aL => have := LMc16.out; omega)
                   intro v191 w30 ho hb hg hat; rw [← Ny190.out] at ho; replace HO195 := am_ (Kd.R_after (ok := (fun k_ => some k_ ≠ (.slice (some ad180) x3_1.length co22 : Value).ownBlock)) (Zah HO195) hg hat); replace HB := am_ (hb); replace HR189 := am_ ((show Kd.C (Kd.int .i64) w30 (some ad180) y186.length y186 from (by rw [Ny186.out]; exact Kd.C_take (m := (x5_2 : Int).toNat) ((Kd.R_reads' (Kd.R_after (ok := (fun k_ => some k_ ≠ (v194 : Value).ownBlock)) (Zah HO_3) hg hat)).2.2) KL24.out))); replace HR202 := am_ ((show Kd.C (Kd.int .i64) w30 A25 y199.length y199 from (by rw [Ny199.out, KA25.out]; exact Kd.C_drop (m := (x5_2 : Int).toNat) (c := co22) ((Kd.R_reads' (Kd.R_after (ok := (fun k_ => some k_ ≠ (v194 : Value).ownBlock)) (Zah HO_3) hg hat)).2.2) KL25.out ((Kd.R_reads' (Kd.R_after (ok := (fun k_ => some k_ ≠ (v194 : Value).ownBlock)) (Zah HO_3) hg hat)).2.1)))); replace HO_3 := am_ (Kd.R_after (ok := (fun k_ => some k_ ≠ (v194 : Value).ownBlock)) (Zah HO_3) hg hat); replace HO192 := am_ (ho); clear HO185; clear ho hb hg hat; refine hK.out _ _ trivial (fun hHeld => ?_); clear hK K; refine normZ 37 ?_; exact norm_ Zu (hCont (v184, v191, v194) _ ⟨(Zaf HO192), (Zaf HO195), (Zaf HO_3), (Zad HR189), (Zad HR202), Zf⟩)
                 rintro ⟨v184, v191, v194⟩ w31 ⟨h0_, h1_, h2_, h3_, h4_, h5_⟩; replace HO192 : Aside0 (Kd.R (Kd.int .i64) 2 w31 w.heap.size (fun k_ => some k_ ≠ (v194 : Value).ownBlock ∧ some k_ ≠ (.slice (some ad180) x3_1.length co22 : Value).ownBlock) v191 y190) := ⟨h0_⟩; replace HO195 : Aside0 (Kd.R (Kd.int .i64) 2 w31 w.heap.size (fun k_ => some k_ ≠ (v191 : Value).ownBlock ∧ some k_ ≠ (.slice (some ad180) x3_1.length co22 : Value).ownBlock) v194 y193) := ⟨h1_⟩; replace HO_3 : Aside0 (Kd.R (Kd.int .i64) 2 w31 w.heap.size (fun k_ => some k_ ≠ (v191 : Value).ownBlock ∧ some k_ ≠ (v194 : Value).ownBlock) (.slice (some ad180) x3_1.length co22) x3_1) := ⟨h2_⟩; replace HR189 : Aside0 (Kd.C (Kd.int .i64) w31 (some ad180) y186.length y186) := ⟨h3_⟩; replace HR202 : Aside0 (Kd.C (Kd.int .i64) w31 A25 y199.length y199) := ⟨h4_⟩; replace HB : Aside0 (Below w.heap.size w w31) := ⟨h5_⟩; clear h0_ h1_ h2_ h3_ h4_ h5_; have hHeld := trivial; obtain ⟨Ao33, co33, eo33⟩ := Kd.R_slice HO195.out
                 (first | subst eo33 | (injection eo33 with f1_ f2_ f3_; have f4_ := f1_.symm; have f5_ := f3_.symm; clear f1_ f2_ f3_; subst f4_; subst f5_))
                 refine normP ?_; refine one_ (i := 7) (N := some 40) (bT 13 11) rfl rfl (one_of HT_.out Zi) (by decide) (fun K hK => ?_); refine Kd.R_append_rows_step (Kd.int .i64) (w0 := w) w.heap.size (by rfl) (.tmp 37) (.tmp 39) 47 2 (.int .i64 0) 8 rfl Try.underlying47 info2 rfl (by decide) (by omega) v191 y190 y193 _ _ _ (fun k_ => some k_ ≠ (.slice (some ad180) x3_1.length co22 : Value).ownBlock ∧ some k_ ≠ (.slice Ao33 y193.length co33 : Value).ownBlock) (fun _ => False) rfl rfl ?aO ?aR (fun _ _ h => h) (fun _ h => h.elim) ?aF ?aB ?aS ?aL ?_
                 (case aR => repeat (first | exact (Kd.R_reads' HO195.out).2.2 | (with_reducible refine Kd.C_alloc ?_ _) | (with_reducible refine Kd.C_drewN ?_ _) | (with_reducible refine Kd.C_drew ?_)))
                 (case aB => exact Zf)
                 (case aF => exact (fun k_ hk => ⟨Kd.fresh' (Kd.R_lt (Zr HO_3)) k_ hk, Kd.fresh' (Kd.R_lt (Zr HO195)) k_ hk⟩))
                 (case aO => exact (Zaf HO192))
                 (case aS => exact (below_size Zf))
                 (case aL => have := LMc17.out; omega)
                 intro v197 w32 ho hb hg hat; rw [← Ny196.out] at ho; replace HO195 := am_ (Kd.R_after (ok := (fun k_ => some k_ ≠ (.slice (some ad180) x3_1.length co22 : Value).ownBlock)) (Zaf HO195) hg hat); replace HB := am_ (hb); replace HR189 := am_ ((show Kd.C (Kd.int .i64) w32 (some ad180) y186.length y186 from (by rw [Ny186.out]; exact Kd.C_take (m := (x5_2 : Int).toNat) ((Kd.R_reads' (Kd.R_after (ok := (fun k_ => some k_ ≠ (.slice Ao33 y193.length co33 : Value).ownBlock)) (Zaf HO_3) hg hat)).2.2) KL24.out))); replace HR202 := am_ ((show Kd.C (Kd.int .i64) w32 A25 y199.length y199 from (by rw [Ny199.out, KA25.out]; exact Kd.C_drop (m := (x5_2 : Int).toNat) (c := co22) ((Kd.R_reads' (Kd.R_after (ok := (fun k_ => some k_ ≠ (.slice Ao33 y193.length co33 : Value).ownBlock)) (Zaf HO_3) hg hat)).2.2) KL25.out ((Kd.R_reads' (Kd.R_after (ok := (fun k_ => some k_ ≠ (.slice Ao33 y193.length co33 : Value).ownBlock)) (Zaf HO_3) hg hat)).2.1)))); replace HO_3 := am_ (Kd.R_after (ok := (fun k_ => some k_ ≠ (.slice Ao33 y193.length co33 : Value).ownBlock)) (Zaf HO_3) hg hat); replace HO198 := am_ (ho); clear HO192; clear ho hb hg hat; refine hK.out _ _ trivial (fun hHeld => ?_); clear hK K; refine normZ 40 ?_; refine one_ (i := 11) (N := some 44) (bT 13 12) rfl rfl (one_of HT_.out Zi) (by decide) (fun K hK => ?_); refine Kd.R_append_rows_step (Kd.int .i64) (w0 := w) w.heap.size (by rfl) (.tmp 40) (.tmp 43) 47 2 (.int .i64 0) 8 rfl Try.underlying47 info2 rfl (by decide) (by omega) v197 y196 y199 _ _ _ (fun k_ => some k_ ≠ (.slice (some ad180) x3_1.length co22 : Value).ownBlock ∧ some k_ ≠ (.slice Ao33 y193.length co33 : Value).ownBlock) (fun _ => False) rfl rfl ?aO ?aR (fun _ _ h => h) (fun _ h => h.elim) ?aF ?aB ?aS ?aL ?_
                 (case aR => repeat (first | exact (Zad HR202) | (with_reducible refine Kd.C_alloc ?_ _) | (with_reducible refine Kd.C_drewN ?_ _) | (with_reducible refine Kd.C_drew ?_)))
                 (case aB => exact Zf)
                 (case aF => exact (fun k_ hk => ⟨Kd.fresh' (Kd.R_lt (Zr HO_3)) k_ hk, Kd.fresh' (Kd.R_lt (Zr HO195)) k_ hk⟩))
                 (case aO => exact (Zr HO198))
                 (case aS => exact (below_size Zf))
                 (case aL => have := LMc20.out; omega)
                 intro v204 w34 ho hb hg hat; rw [← Ny203.out] at ho; replace HO195 := am_ (Kd.R_after (ok := (fun k_ => some k_ ≠ (.slice (some ad180) x3_1.length co22 : Value).ownBlock)) (Zr HO195) hg hat); replace HB := am_ (hb); replace HR189 := am_ ((show Kd.C (Kd.int .i64) w34 (some ad180) y186.length y186 from (by rw [Ny186.out]; exact Kd.C_take (m := (x5_2 : Int).toNat) ((Kd.R_reads' (Kd.R_after (ok := (fun k_ => some k_ ≠ (.slice Ao33 y193.length co33 : Value).ownBlock)) (Zr HO_3) hg hat)).2.2) KL24.out))); replace HR202 := am_ ((show Kd.C (Kd.int .i64) w34 A25 y199.length y199 from (by rw [Ny199.out, KA25.out]; exact Kd.C_drop (m := (x5_2 : Int).toNat) (c := co22) ((Kd.R_reads' (Kd.R_after (ok := (fun k_ => some k_ ≠ (.slice Ao33 y193.length co33 : Value).ownBlock)) (Zr HO_3) hg hat)).2.2) KL25.out ((Kd.R_reads' (Kd.R_after (ok := (fun k_ => some k_ ≠ (.slice Ao33 y193.length co33 : Value).ownBlock)) (Zr HO_3) hg hat)).2.1)))); replace HO_3 := am_ (Kd.R_after (ok := (fun k_ => some k_ ≠ (.slice Ao33 y193.length co33 : Value).ownBlock)) (Zr HO_3) hg hat); replace HO205 := am_ (ho); clear HO198; clear ho hb hg hat; refine hK.out _ _ trivial (fun hHeld => ?_); clear hK K; refine normZ 44 ?_; refine pureZ HT_ 12 (some 3) (bT 13 13) ?_; refine done_ (done_of HT_.out Zi) ?_
                 try go_wp2
                 go_roundg k2
                 case measure => have := HK1.out; have := HK2.out; omega
                 case rel => exact ⟨(y203), (wrap64 (x4_1 + 1)), Za, H', ⟨Zac⟩, ⟨by (with_reducible repeat (first | apply Kd.R_alloc | apply Kd.R_drewN | apply Kd.R_drew)); exact Kd.R_mono HO205.out (fun _ hk => trivial)⟩, ⟨Zf⟩⟩
                ·exact nN c20 H
               ·exact nN c17 H
              ·exact nN c16 H
             ·exact nN c15 H
           ·exact nN c10 H
          ·exact nN c9 H
         ·exact nN c8 H
        ·exact nN c7 H
       ·exact nN c6 H
      ·rw [if_neg c5] at H
       have c5b0 := decide_eq_false c5; clear c5; obtain ⟨y206, hy206⟩ : ∃ y_ : List Int, y_ = (([] : List Int)) := ⟨_, rfl⟩
       replace H : (if 0 ≤ x5_2 then (if x5_2 ≤ (x3_1.length : Int) then ((some (x3_1.take (x5_2 : Int).toNat : List Int)).bind fun y209 => (if y206.length + y209.length < 17592186044416 then ((some (y206 ++ y209 : List Int)).bind fun y213 => ((some (([x4_1] : List Int) : List Int)).bind fun y216 => (if y213.length + y216.length < 17592186044416 then ((some (y213 ++ y216 : List Int)).bind fun y219 => ((some (x3_1.drop (x5_2 : Int).toNat : List Int)).bind fun y222 => (if y219.length + y222.length < 17592186044416 then (spec_l08Order.l0 k2 l0 (y219 ++ y222) (wrap64 (x4_1 + 1))) else (none)))) else (none)))) else (none))) else (none)) else (none)) = some r := by (try rw [hy206]); first | with_reducible exact H | with_reducible exact (Option.bind_some _ _).symm.trans H | exact H
       have Ny206 := am_ hy206; clear hy206
       by_cases c35 : 0 ≤ x5_2
       ·rw [if_pos c35] at H
        have c35b0 := eq_true c35; have c35b1 := decide_eq_true c35; clear c35
        by_cases c36 : x5_2 ≤ (x3_1.length : Int)
        ·rw [if_pos c36] at H
         have c36b0 := eq_true c36; have c36b1 := decide_eq_true c36; clear c36; obtain ⟨y209, hy209⟩ : ∃ y_ : List Int, y_ = (x3_1.take (x5_2 : Int).toNat) := ⟨_, rfl⟩
         (first | (rw [← hy209] at H; with_reducible replace H := bindZ H) | rw [← hy209] at H | skip)
         have Ny209 := am_ hy209; clear hy209
         by_cases c37 : y206.length + y209.length < 17592186044416
         ·rw [if_pos c37] at H
          have LMc37 := am_ c37; clear c37; obtain ⟨y213, hy213⟩ : ∃ y_ : List Int, y_ = (y206 ++ y209) := ⟨_, rfl⟩
          (first | (rw [← hy213] at H; with_reducible replace H := bindZ H) | rw [← hy213] at H | skip)
          have Ny213 := am_ hy213; clear hy213; obtain ⟨y216, hy216⟩ : ∃ y_ : List Int, y_ = (([x4_1] : List Int)) := ⟨_, rfl⟩
          (first | (rw [← hy216] at H; with_reducible replace H := bindZ H) | rw [← hy216] at H | skip)
          have Ny216 := am_ hy216; clear hy216
          by_cases c38 : y213.length + y216.length < 17592186044416
          ·rw [if_pos c38] at H
           have LMc38 := am_ c38; clear c38; obtain ⟨y219, hy219⟩ : ∃ y_ : List Int, y_ = (y213 ++ y216) := ⟨_, rfl⟩
           (first | (rw [← hy219] at H; with_reducible replace H := bindZ H) | rw [← hy219] at H | skip)
           have Ny219 := am_ hy219; clear hy219; have c39b0 := eq_true (of_decide_eq_true Zc : 0 ≤ x5_2); have c40b0 := eq_true (of_decide_eq_true Zc : x5_2 ≤ (x3_1.length : Int)); obtain ⟨y222, hy222⟩ : ∃ y_ : List Int, y_ = (x3_1.drop (x5_2 : Int).toNat) := ⟨_, rfl⟩
           (first | (rw [← hy222] at H; with_reducible replace H := bindZ H) | rw [← hy222] at H | skip)
           have Ny222 := am_ hy222; clear hy222
           by_cases c41 : y219.length + y222.length < 17592186044416
           ·rw [if_pos c41] at H
            have LMc41 := am_ c41; clear c41; obtain ⟨y226, hy226⟩ : ∃ y_ : List Int, y_ = (y219 ++ y222) := ⟨_, rfl⟩
            (first | (rw [← hy226] at H; with_reducible replace H := bindZ H) | rw [← hy226] at H | skip)
            have Ny226 := am_ hy226; clear hy226; have H' := am_ H; clear H
            try go_wp2
            replace HO_3 := am_ (Kd.R_drew HO_3.out); replace HB := am_ (below_drew1 HB.out); obtain ⟨Ao43, co43, eo43⟩ := Kd.R_slice HO_3.out
            (first | subst eo43 | (injection eo43 with f1_ f2_ f3_; have f4_ := f1_.symm; have f5_ := f3_.symm; clear f1_ f2_ f3_; subst f4_; subst f5_))
            refine start_ (n := 18) (S := fun w' => True) (ds := []) (bT 18 0) Zi rfl rfl trivial (fun hHeld => ?_); refine with_tabW spec_l08Order.tab6 spec_l08Order.bits6 (fun HT_ HW_ => ?_); generalize wr.drew = w42 at HO_3 HB hHeld ⊢; refine pureZ HT_ 0 (some 13) (bT 18 1) ?_; refine pureZ HT_ 1 (some 14) (bT 18 2) ?_; refine pureZ HT_ 2 (some 15) (bT 18 3) ?_; refine pureZ HT_ 3 (some 16) (bT 18 4) ?_; refine pureZ HT_ 4 (some 17) (bT 18 5) ?_; refine pureU HT_ 5 (some 18) (bT 18 6) ?_; refine pureU HT_ 6 (some 19) (bT 18 7) ?_; refine pureU HT_ 7 (some 20) (bT 18 8) ?_; refine pureU HT_ 8 (some 21) (bT 18 9) ?_; refine pureU HT_ 9 (some 22) (bT 18 10) ?_; refine pureU HT_ 10 (some 23) (bT 18 11) ?_; refine pureU HT_ 11 (some 24) (bT 18 12) ?_; refine pureU HT_ 12 (some 25) (bT 18 13) ?_; refine pureU HT_ 13 (some 26) (bT 18 14) ?_; refine pureU HT_ 14 (some 27) (bT 18 15) ?_; refine pureU HT_ 15 (some 28) (bT 18 16) ?_; refine pureU HT_ 16 (some 29) (bT 18 17) ?_; refine pureZ HT_ 17 (some 30) (bT 18 18) ?_; refine done_ (done_of HT_.out Zi) ?_
            try go_wp2
            replace HO_3 := am_ (Kd.R_drew HO_3.out); replace HB := am_ (below_drew1 HB.out); have q45 : (x5_2 : Int) ≤ ((x3_1.length : Int) : Int) := of_decide_eq_true Zc; obtain ⟨i045, hi045, _, hsz45, _⟩ := info_parts info2; have hroom45 : x3_1.length ≤ co43 := (Kd.R_reads' HO_3.out).2.1; have hC45 : Kd.C (Kd.int .i64) _ Ao43 x3_1.length x3_1 := (Kd.R_reads' HO_3.out).2.2; have hcut45 := cut_to (P := Try.prog) 47 2 .i64 Try.underlying47 hi045 Ao43 x3_1.length co43 x5_2 (of_decide_eq_true Zc) q45 hroom45; have hr45 := Kd.C_take (m := (x5_2 : Int).toNat) hC45 (by omega); have hy45 : y209.length = (x5_2 : Int).toNat := (by rw [Ny209.out, List.length_take]; omega); rw [← Ny209.out] at hr45; rw [← hy45] at hcut45; have HR212 := am_ hr45; have HC212 := am_ (show y209.length ≤ co43 from (by omega)); clear hr45 hC45 hroom45 hi045 hsz45; have KY45 := am_ hy45; clear hy45; have KL45 := am_ (show (x5_2 : Int).toNat ≤ x3_1.length from (by omega)); replace q45 := eq_true q45; have q46 : (x5_2 : Int) ≤ ((x3_1.length : Int) : Int) := of_decide_eq_true Zc; obtain ⟨i046, hi046, _, hsz46, _⟩ := info_parts info2; have hroom46 : x3_1.length ≤ co43 := (Kd.R_reads' HO_3.out).2.1; have hC46 : Kd.C (Kd.int .i64) _ Ao43 x3_1.length x3_1 := (Kd.R_reads' HO_3.out).2.2; have q046 : (0 : Int) ≤ (x5_2 : Int) := of_decide_eq_true Zc; have hcut46 := cut_from (P := Try.prog) 47 2 .i64 Try.underlying47 hi046 1 hsz46 Ao43 x3_1.length co43 x5_2 q046 q46; have hr46 := Kd.C_drop (m := (x5_2 : Int).toNat) (c := co43) hC46 (by omega) hroom46; obtain ⟨A46, hA46⟩ : ∃ A1, A1 = (if co43 = (x5_2 : Int).toNat then Ao43 else (Ao43 : Option Addr).map (·.add ((x5_2 : Int).toNat * 1))) := ⟨_, rfl⟩; obtain ⟨c46, hc46⟩ : ∃ c1, c1 = co43 - (x5_2 : Int).toNat := ⟨_, rfl⟩; have hy46 : y222.length = x3_1.length - (x5_2 : Int).toNat := (by rw [Ny222.out, List.length_drop] <;> omega); rw [show (x3_1).drop (x5_2 : Int).toNat = y222 from Ny222.out.symm] at hr46; replace hr46 : Kd.C (Kd.int .i64) _ A46 y222.length y222 := (by rw [hA46]; exact hr46); rw [← hy46, ← hA46, ← hc46] at hcut46; have HR225 := am_ hr46; have HC225 := am_ (show y222.length ≤ c46 from (by rw [hy46, hc46]; exact Nat.sub_le_sub_right hroom46 _)); clear hr46 hC46 hroom46 hi046 hsz46 hc46; have KY46 := am_ hy46; have KA46 := am_ hA46; clear hy46 hA46; have KL46 := am_ (show (x5_2 : Int).toNat ≤ x3_1.length from (by omega)); replace q46 := eq_true q46; refine start_ (n := 13) (S := fun w' => True) (ds := []) (bT 13 0) Zi rfl rfl trivial (fun hHeld => ?_); refine with_tabW spec_l08Order.tab8 spec_l08Order.bits8 (fun HT_ HW_ => ?_); generalize w42.drew = w44 at HO_3 HB HR212 HR225 hHeld ⊢; refine pureZ HT_ 1 (some 34) (bB 13 2) ?_; refine pureZ HT_ 2 (some 35) (bB 13 6) ?_; refine pureZ HT_ 3 (some 36) (bB 13 14) ?_; refine pureZ HT_ 5 (some 38) (bB 13 46) ?_; refine pureZ HT_ 8 (some 41) (bB 13 302) ?_; refine pureZ HT_ 9 (some 42) (bB 13 814) ?_; refine pureZ HT_ 10 (some 43) (bB 13 1838) ?_
            refine join_ (σ := Value × Value × Value) 3 (bB 13 1919) (fun s_ => [(33, s_.1), (37, s_.2.1), (39, s_.2.2)]) (fun s_ w' => (Kd.R (Kd.int .i64) 2 w' w.heap.size (fun k_ => some k_ ≠ (s_.2.2 : Value).ownBlock ∧ some k_ ≠ (.slice Ao43 x3_1.length co43 : Value).ownBlock) s_.2.1 y213) ∧ (Kd.R (Kd.int .i64) 2 w' w.heap.size (fun k_ => some k_ ≠ (s_.2.1 : Value).ownBlock ∧ some k_ ≠ (.slice Ao43 x3_1.length co43 : Value).ownBlock) s_.2.2 y216) ∧ (Kd.R (Kd.int .i64) 2 w' w.heap.size (fun k_ => some k_ ≠ (s_.2.1 : Value).ownBlock ∧ some k_ ≠ (s_.2.2 : Value).ownBlock) (.slice Ao43 x3_1.length co43) x3_1) ∧ (Kd.C (Kd.int .i64) w' Ao43 y209.length y209) ∧ (Kd.C (Kd.int .i64) w' A46 y222.length y222) ∧ (Below w.heap.size w w')) ?_ ?_; rotate_left
            ·intro hCont
             refine two_ (i := 0) (j := 6) (Ni := some 33) (Nj := some 39) (bB 13 1839) (bB 13 1902) rfl rfl rfl rfl (two_of HT_.out Zi) (by decide) (by decide) (fun K hK => ?_) (fun K hK => ?_)
             ·skip
              refine Kd.R_lit_step (Kd.int .i64) _ 2 ?hg (N := 33) ?hd (xs := ([] : List Int)) (inner := []) (ok := fun _ => True) (okp := fun _ => True) ?hr ?hp (fun _ hk => hk) trivial (Below.refl _ _) (Nat.le_refl _) (by simp) ?_; (case hd => rfl); (case hg => rfl); (case hr => first | (go_simp; done) | (go_simp; rfl)); (case hp => exact (Reps.none _ _)); intro v207 w47 ho48 hb hg_ hnew_; clear hg_ hnew_
              (first | rw [← Ny206.out] at ho48 | (simp only [Int.reduceToNat] at ho48; rw [← Ny206.out] at ho48))
              replace HO208 := am_ (Kd.R_lower (Kd.R_new' ho48 (Kd.R_lt (Zr HO_3))) (below_size Zf)); replace HO_3 := am_ (Kd.R_elder' (Zr HO_3) (Kd.R_base ho48) hb); replace HR212 := am_ (Kd.C_below (Zad HR212) hb); replace HR225 := am_ (Kd.C_below (Zad HR225) hb); replace HB := (bsZ Zf hb); clear hb ho48; refine hK.out _ _ trivial (fun hHeld => ?_); clear hK K; refine normZ 33 ?_; refine two_ (i := 4) (j := 6) (Ni := some 37) (Nj := some 39) (bB 13 1855) (bB 13 1903) rfl rfl rfl rfl (two_of HT_.out Zi) (by decide) (by decide) (fun K hK => ?_) (fun K hK => ?_)
              ·skip
               refine Kd.R_append_rows_step (Kd.int .i64) (w0 := w) w.heap.size (by rfl) (.tmp 33) (.tmp 36) 47 2 (.int .i64 0) 8 rfl Try.underlying47 info2 rfl (by decide) (by omega) v207 y206 y209 _ _ _ (fun k_ => some k_ ≠ (.slice Ao43 x3_1.length co43 : Value).ownBlock) (fun _ => False) rfl rfl ?aO ?aR (fun _ _ h => h) (fun _ h => h.elim) ?aF ?aB ?aS ?aL ?_
               (case aR => repeat (first | exact (Zad HR212) | (with_reducible refine Kd.C_alloc ?_ _) | (with_reducible refine Kd.C_drewN ?_ _) | (with_reducible refine Kd.C_drew ?_)))
               (case aB => exact Zf)
               (case aF => exact (fun k_ hk => Kd.fresh' (Kd.R_lt (Zr HO_3)) k_ hk))
               (case aO => exact (Zae HO208))
               (case aS => exact (below_size Zf))
               (case aL => have := LMc37.out; omega)
               intro v214 w49 ho hb hg hat; rw [← Ny213.out] at ho; replace HB := am_ (hb); replace HR212 := am_ ((show Kd.C (Kd.int .i64) w49 Ao43 y209.length y209 from (by rw [Ny209.out]; exact Kd.C_take (m := (x5_2 : Int).toNat) ((Kd.R_reads' (Kd.R_after (ok := (fun _ => True)) (Zr HO_3) hg hat)).2.2) KL45.out))); replace HR225 := am_ ((show Kd.C (Kd.int .i64) w49 A46 y222.length y222 from (by rw [Ny222.out, KA46.out]; exact Kd.C_drop (m := (x5_2 : Int).toNat) (c := co43) ((Kd.R_reads' (Kd.R_after (ok := (fun _ => True)) (Zr HO_3) hg hat)).2.2) KL46.out ((Kd.R_reads' (Kd.R_after (ok := (fun _ => True)) (Zr HO_3) hg hat)).2.1)))); replace HO_3 := am_ (Kd.R_after (ok := (fun _ => True)) (Zr HO_3) hg hat); replace HO215 := am_ (ho); clear HO208; clear ho hb hg hat; refine hK.out _ _ trivial (fun hHeld => ?_); clear hK K; refine normZ 37 ?_; refine one_ (i := 6) (N := some 39) (bB 13 1919) rfl rfl (one_of HT_.out Zi) (by decide) (fun K hK => ?_); refine Kd.R_lit_step (Kd.int .i64) _ 2 ?hg (N := 39) ?hd (xs := ([x4_1] : List Int)) (inner := [.int .i64 x4_1]) (ok := fun _ => True) (okp := fun _ => True) ?hr ?hp (fun _ hk => hk) trivial (Below.refl _ _) (Nat.le_refl _) (by simp) ?_; (case hd => rfl); (case hg => rfl); (case hr => first | (go_simp; done) | (go_simp; rfl)); (case hp => exact (Reps.one (show Kd.M (Kd.int .i64) _ _ _ x4_1 [.int .i64 x4_1] from rfl) (Reps.none _ _))); intro v217 w50 ho51 hb hg_ hnew_; clear hg_ hnew_
               (first | rw [← Ny216.out] at ho51 | (simp only [Int.reduceToNat] at ho51; rw [← Ny216.out] at ho51))
               replace HO218 := am_ (Kd.R_lower (Kd.R_new' (Kd.R_new' ho51 (Kd.R_lt (Zr HO_3))) (Kd.R_lt (Zr HO215))) (below_size Zf)); replace HO_3 := am_ (Kd.R_elder' (Zr HO_3) (Kd.R_base ho51) hb); replace HO215 := am_ (Kd.R_elder' (Zr HO215) (Kd.R_base ho51) hb); replace HR212 := am_ (Kd.C_below (Zad HR212) hb); replace HR225 := am_ (Kd.C_below (Zad HR225) hb); replace HB := (bsZ Zf hb); clear hb ho51; refine hK.out _ _ trivial (fun hHeld => ?_); clear hK K; refine normZ 39 ?_; exact norm_ Zu (hCont (v207, v214, v217) _ ⟨(Zaf HO215), (Zag HO218), (Zah HO_3), (Zad HR212), (Zad HR225), Zf⟩)
              ·skip
               refine Kd.R_lit_step (Kd.int .i64) _ 2 ?hg (N := 39) ?hd (xs := ([x4_1] : List Int)) (inner := [.int .i64 x4_1]) (ok := fun _ => True) (okp := fun _ => True) ?hr ?hp (fun _ hk => hk) trivial (Below.refl _ _) (Nat.le_refl _) (by simp) ?_; (case hd => rfl); (case hg => rfl); (case hr => first | (go_simp; done) | (go_simp; rfl)); (case hp => exact (Reps.one (show Kd.M (Kd.int .i64) _ _ _ x4_1 [.int .i64 x4_1] from rfl) (Reps.none _ _))); intro v217 w49 ho50 hb hg_ hnew_; clear hg_ hnew_
               (first | rw [← Ny216.out] at ho50 | (simp only [Int.reduceToNat] at ho50; rw [← Ny216.out] at ho50))
               replace HO218 := am_ (Kd.R_lower (Kd.R_new' (Kd.R_new' ho50 (Kd.R_lt (Zr HO_3))) (Kd.R_lt (Zr HO208))) (below_size Zf)); replace HO_3 := am_ (Kd.R_elder' (Zr HO_3) (Kd.R_base ho50) hb); replace HO208 := am_ (Kd.R_elder' (Zr HO208) (Kd.R_base ho50) hb); replace HR212 := am_ (Kd.C_below (Zad HR212) hb); replace HR225 := am_ (Kd.C_below (Zad HR225) hb); replace HB := (bsZ Zf hb); clear hb ho50; refine hK.out _ _ trivial (fun hHeld => ?_); clear hK K; refine normZ 39 ?_; refine one_ (i := 4) (N := some 37) (bB 13 1919) rfl rfl (one_of HT_.out Zi) (by decide) (fun K hK => ?_); refine Kd.R_append_rows_step (Kd.int .i64) (w0 := w) w.heap.size (by rfl) (.tmp 33) (.tmp 36) 47 2 (.int .i64 0) 8 rfl Try.underlying47 info2 rfl (by decide) (by omega) v207 y206 y209 _ _ _ (fun k_ => some k_ ≠ (.slice Ao43 x3_1.length co43 : Value).ownBlock ∧ some k_ ≠ (v217 : Value).ownBlock) (fun _ => False) rfl rfl ?aO ?aR (fun _ _ h => h) (fun _ h => h.elim) ?aF ?aB ?aS ?aL ?_
               (case aR => repeat (first | exact (Zad HR212) | (with_reducible refine Kd.C_alloc ?_ _) | (with_reducible refine Kd.C_drewN ?_ _) | (with_reducible refine Kd.C_drew ?_)))
               (case aB => exact Zf)
               (case aF => exact (fun k_ hk => ⟨Kd.fresh' (Kd.R_lt (Zr HO_3)) k_ hk, Kd.fresh' (Kd.R_lt (Zr HO218)) k_ hk⟩))
               (case aO => exact (Zah HO208))
               (case aS => exact (below_size Zf))
               (case aL => have := LMc37.out; omega)
               intro v214 w51 ho hb hg hat; rw [← Ny213.out] at ho; replace HO218 := am_ (Kd.R_after (ok := (fun k_ => some k_ ≠ (.slice Ao43 x3_1.length co43 : Value).ownBlock)) (Zah HO218) hg hat); replace HB := am_ (hb); replace HR212 := am_ ((show Kd.C (Kd.int .i64) w51 Ao43 y209.length y209 from (by rw [Ny209.out]; exact Kd.C_take (m := (x5_2 : Int).toNat) ((Kd.R_reads' (Kd.R_after (ok := (fun k_ => some k_ ≠ (v217 : Value).ownBlock)) (Zag HO_3) hg hat)).2.2) KL45.out))); replace HR225 := am_ ((show Kd.C (Kd.int .i64) w51 A46 y222.length y222 from (by rw [Ny222.out, KA46.out]; exact Kd.C_drop (m := (x5_2 : Int).toNat) (c := co43) ((Kd.R_reads' (Kd.R_after (ok := (fun k_ => some k_ ≠ (v217 : Value).ownBlock)) (Zag HO_3) hg hat)).2.2) KL46.out ((Kd.R_reads' (Kd.R_after (ok := (fun k_ => some k_ ≠ (v217 : Value).ownBlock)) (Zag HO_3) hg hat)).2.1)))); replace HO_3 := am_ (Kd.R_after (ok := (fun k_ => some k_ ≠ (v217 : Value).ownBlock)) (Zag HO_3) hg hat); replace HO215 := am_ (ho); clear HO208; clear ho hb hg hat; refine hK.out _ _ trivial (fun hHeld => ?_); clear hK K; refine normZ 37 ?_; exact norm_ Zu (hCont (v207, v214, v217) _ ⟨(Zaf HO215), (Zaf HO218), (Zaf HO_3), (Zad HR212), (Zad HR225), Zf⟩)
             ·skip
              refine Kd.R_lit_step (Kd.int .i64) _ 2 ?hg (N := 39) ?hd (xs := ([x4_1] : List Int)) (inner := [.int .i64 x4_1]) (ok := fun _ => True) (okp := fun _ => True) ?hr ?hp (fun _ hk => hk) trivial (Below.refl _ _) (Nat.le_refl _) (by simp) ?_; (case hd => rfl); (case hg => rfl); (case hr => first | (go_simp; done) | (go_simp; rfl)); (case hp => exact (Reps.one (show Kd.M (Kd.int .i64) _ _ _ x4_1 [.int .i64 x4_1] from rfl) (Reps.none _ _))); intro v217 w47 ho48 hb hg_ hnew_; clear hg_ hnew_
              (first | rw [← Ny216.out] at ho48 | (simp only [Int.reduceToNat] at ho48; rw [← Ny216.out] at ho48))
              replace HO218 := am_ (Kd.R_lower (Kd.R_new' ho48 (Kd.R_lt (Zr HO_3))) (below_size Zf)); replace HO_3 := am_ (Kd.R_elder' (Zr HO_3) (Kd.R_base ho48) hb); replace HR212 := am_ (Kd.C_below (Zad HR212) hb); replace HR225 := am_ (Kd.C_below (Zad HR225) hb); replace HB := (bsZ Zf hb); clear hb ho48; refine hK.out _ _ trivial (fun hHeld => ?_); clear hK K; refine normZ 39 ?_; refine one_ (i := 0) (N := some 33) (bB 13 1903) rfl rfl (one_of HT_.out Zi) (by decide) (fun K hK => ?_); refine Kd.R_lit_step (Kd.int .i64) _ 2 ?hg (N := 33) ?hd (xs := ([] : List Int)) (inner := []) (ok := fun _ => True) (okp := fun _ => True) ?hr ?hp (fun _ hk => hk) trivial (Below.refl _ _) (Nat.le_refl _) (by simp) ?_; (case hd => rfl); (case hg => rfl); (case hr => first | (go_simp; done) | (go_simp; rfl)); (case hp => exact (Reps.none _ _)); intro v207 w49 ho50 hb hg_ hnew_; clear hg_ hnew_
              (first | rw [← Ny206.out] at ho50 | (simp only [Int.reduceToNat] at ho50; rw [← Ny206.out] at ho50))
              replace HO208 := am_ (Kd.R_lower (Kd.R_new' (Kd.R_new' ho50 (Kd.R_lt (Zr HO_3))) (Kd.R_lt (Zr HO218))) (below_size Zf)); replace HO_3 := am_ (Kd.R_elder' (Zr HO_3) (Kd.R_base ho50) hb); replace HO218 := am_ (Kd.R_elder' (Zr HO218) (Kd.R_base ho50) hb); replace HR212 := am_ (Kd.C_below (Zad HR212) hb); replace HR225 := am_ (Kd.C_below (Zad HR225) hb); replace HB := (bsZ Zf hb); clear hb ho50; refine hK.out _ _ trivial (fun hHeld => ?_); clear hK K; refine normZ 33 ?_; refine one_ (i := 4) (N := some 37) (bB 13 1919) rfl rfl (one_of HT_.out Zi) (by decide) (fun K hK => ?_); refine Kd.R_append_rows_step (Kd.int .i64) (w0 := w) w.heap.size (by rfl) (.tmp 33) (.tmp 36) 47 2 (.int .i64 0) 8 rfl Try.underlying47 info2 rfl (by decide) (by omega) v207 y206 y209 _ _ _ (fun k_ => some k_ ≠ (.slice Ao43 x3_1.length co43 : Value).ownBlock ∧ some k_ ≠ (v217 : Value).ownBlock) (fun _ => False) rfl rfl ?aO ?aR (fun _ _ h => h) (fun _ h => h.elim) ?aF ?aB ?aS ?aL ?_
              (case aR => repeat (first | exact (Zad HR212) | (with_reducible refine Kd.C_alloc ?_ _) | (with_reducible refine Kd.C_drewN ?_ _) | (with_reducible refine Kd.C_drew ?_)))
              (case aB => exact Zf)
              (case aF => exact (fun k_ hk => ⟨Kd.fresh' (Kd.R_lt (Zr HO_3)) k_ hk, Kd.fresh' (Kd.R_lt (Zr HO218)) k_ hk⟩))
              (case aO => exact (Zah HO208))
              (case aS => exact (below_size Zf))
              (case aL => have := LMc37.out; omega)
              intro v214 w51 ho hb hg hat; rw [← Ny213.out] at ho; replace HO218 := am_ (Kd.R_after (ok := (fun k_ => some k_ ≠ (.slice Ao43 x3_1.length co43 : Value).ownBlock)) (Zah HO218) hg hat); replace HB := am_ (hb); replace HR212 := am_ ((show Kd.C (Kd.int .i64) w51 Ao43 y209.length y209 from (by rw [Ny209.out]; exact Kd.C_take (m := (x5_2 : Int).toNat) ((Kd.R_reads' (Kd.R_after (ok := (fun k_ => some k_ ≠ (v217 : Value).ownBlock)) (Zah HO_3) hg hat)).2.2) KL45.out))); replace HR225 := am_ ((show Kd.C (Kd.int .i64) w51 A46 y222.length y222 from (by rw [Ny222.out, KA46.out]; exact Kd.C_drop (m := (x5_2 : Int).toNat) (c := co43) ((Kd.R_reads' (Kd.R_after (ok := (fun k_ => some k_ ≠ (v217 : Value).ownBlock)) (Zah HO_3) hg hat)).2.2) KL46.out ((Kd.R_reads' (Kd.R_after (ok := (fun k_ => some k_ ≠ (v217 : Value).ownBlock)) (Zah HO_3) hg hat)).2.1)))); replace HO_3 := am_ (Kd.R_after (ok := (fun k_ => some k_ ≠ (v217 : Value).ownBlock)) (Zah HO_3) hg hat); replace HO215 := am_ (ho); clear HO208; clear ho hb hg hat; refine hK.out _ _ trivial (fun hHeld => ?_); clear hK K; refine normZ 37 ?_; exact norm_ Zu (hCont (v207, v214, v217) _ ⟨(Zaf HO215), (Zaf HO218), (Zaf HO_3), (Zad HR212), (Zad HR225), Zf⟩)
            rintro ⟨v207, v214, v217⟩ w52 ⟨h0_, h1_, h2_, h3_, h4_, h5_⟩; replace HO215 : Aside0 (Kd.R (Kd.int .i64) 2 w52 w.heap.size (fun k_ => some k_ ≠ (v217 : Value).ownBlock ∧ some k_ ≠ (.slice Ao43 x3_1.length co43 : Value).ownBlock) v214 y213) := ⟨h0_⟩; replace HO218 : Aside0 (Kd.R (Kd.int .i64) 2 w52 w.heap.size (fun k_ => some k_ ≠ (v214 : Value).ownBlock ∧ some k_ ≠ (.slice Ao43 x3_1.length co43 : Value).ownBlock) v217 y216) := ⟨h1_⟩; replace HO_3 : Aside0 (Kd.R (Kd.int .i64) 2 w52 w.heap.size (fun k_ => some k_ ≠ (v214 : Value).ownBlock ∧ some k_ ≠ (v217 : Value).ownBlock) (.slice Ao43 x3_1.length co43) x3_1) := ⟨h2_⟩; replace HR212 : Aside0 (Kd.C (Kd.int .i64) w52 Ao43 y209.length y209) := ⟨h3_⟩; replace HR225 : Aside0 (Kd.C (Kd.int .i64) w52 A46 y222.length y222) := ⟨h4_⟩; replace HB : Aside0 (Below w.heap.size w w52) := ⟨h5_⟩; clear h0_ h1_ h2_ h3_ h4_ h5_; have hHeld := trivial; obtain ⟨Ao54, co54, eo54⟩ := Kd.R_slice HO218.out
            (first | subst eo54 | (injection eo54 with f1_ f2_ f3_; have f4_ := f1_.symm; have f5_ := f3_.symm; clear f1_ f2_ f3_; subst f4_; subst f5_))
            refine normP ?_; refine one_ (i := 7) (N := some 40) (bT 13 11) rfl rfl (one_of HT_.out Zi) (by decide) (fun K hK => ?_); refine Kd.R_append_rows_step (Kd.int .i64) (w0 := w) w.heap.size (by rfl) (.tmp 37) (.tmp 39) 47 2 (.int .i64 0) 8 rfl Try.underlying47 info2 rfl (by decide) (by omega) v214 y213 y216 _ _ _ (fun k_ => some k_ ≠ (.slice Ao43 x3_1.length co43 : Value).ownBlock ∧ some k_ ≠ (.slice Ao54 y216.length co54 : Value).ownBlock) (fun _ => False) rfl rfl ?aO ?aR (fun _ _ h => h) (fun _ h => h.elim) ?aF ?aB ?aS ?aL ?_
            (case aR => repeat (first | exact (Kd.R_reads' HO218.out).2.2 | (with_reducible refine Kd.C_alloc ?_ _) | (with_reducible refine Kd.C_drewN ?_ _) | (with_reducible refine Kd.C_drew ?_)))
            (case aB => exact Zf)
            (case aF => exact (fun k_ hk => ⟨Kd.fresh' (Kd.R_lt (Zr HO_3)) k_ hk, Kd.fresh' (Kd.R_lt (Zr HO218)) k_ hk⟩))
            (case aO => exact (Zaf HO215))
            (case aS => exact (below_size Zf))
            (case aL => have := LMc38.out; omega)
            intro v220 w53 ho hb hg hat; rw [← Ny219.out] at ho; replace HO218 := am_ (Kd.R_after (ok := (fun k_ => some k_ ≠ (.slice Ao43 x3_1.length co43 : Value).ownBlock)) (Zaf HO218) hg hat); replace HB := am_ (hb); replace HR212 := am_ ((show Kd.C (Kd.int .i64) w53 Ao43 y209.length y209 from (by rw [Ny209.out]; exact Kd.C_take (m := (x5_2 : Int).toNat) ((Kd.R_reads' (Kd.R_after (ok := (fun k_ => some k_ ≠ (.slice Ao54 y216.length co54 : Value).ownBlock)) (Zaf HO_3) hg hat)).2.2) KL45.out))); replace HR225 := am_ ((show Kd.C (Kd.int .i64) w53 A46 y222.length y222 from (by rw [Ny222.out, KA46.out]; exact Kd.C_drop (m := (x5_2 : Int).toNat) (c := co43) ((Kd.R_reads' (Kd.R_after (ok := (fun k_ => some k_ ≠ (.slice Ao54 y216.length co54 : Value).ownBlock)) (Zaf HO_3) hg hat)).2.2) KL46.out ((Kd.R_reads' (Kd.R_after (ok := (fun k_ => some k_ ≠ (.slice Ao54 y216.length co54 : Value).ownBlock)) (Zaf HO_3) hg hat)).2.1)))); replace HO_3 := am_ (Kd.R_after (ok := (fun k_ => some k_ ≠ (.slice Ao54 y216.length co54 : Value).ownBlock)) (Zaf HO_3) hg hat); replace HO221 := am_ (ho); clear HO215; clear ho hb hg hat; refine hK.out _ _ trivial (fun hHeld => ?_); clear hK K; refine normZ 40 ?_; refine one_ (i := 11) (N := some 44) (bT 13 12) rfl rfl (one_of HT_.out Zi) (by decide) (fun K hK => ?_); refine Kd.R_append_rows_step (Kd.int .i64) (w0 := w) w.heap.size (by rfl) (.tmp 40) (.tmp 43) 47 2 (.int .i64 0) 8 rfl Try.underlying47 info2 rfl (by decide) (by omega) v220 y219 y222 _ _ _ (fun k_ => some k_ ≠ (.slice Ao43 x3_1.length co43 : Value).ownBlock ∧ some k_ ≠ (.slice Ao54 y216.length co54 : Value).ownBlock) (fun _ => False) rfl rfl ?aO ?aR (fun _ _ h => h) (fun _ h => h.elim) ?aF ?aB ?aS ?aL ?_
            (case aR => repeat (first | exact (Zad HR225) | (with_reducible refine Kd.C_alloc ?_ _) | (with_reducible refine Kd.C_drewN ?_ _) | (with_reducible refine Kd.C_drew ?_)))
            (case aB => exact Zf)
            (case aF => exact (fun k_ hk => ⟨Kd.fresh' (Kd.R_lt (Zr HO_3)) k_ hk, Kd.fresh' (Kd.R_lt (Zr HO218)) k_ hk⟩))
            (case aO => exact (Zr HO221))
            (case aS => exact (below_size Zf))
            (case aL => have := LMc41.out; omega)
            intro v227 w55 ho hb hg hat; rw [← Ny226.out] at ho; replace HO218 := am_ (Kd.R_after (ok := (fun k_ => some k_ ≠ (.slice Ao43 x3_1.length co43 : Value).ownBlock)) (Zr HO218) hg hat); replace HB := am_ (hb); replace HR212 := am_ ((show Kd.C (Kd.int .i64) w55 Ao43 y209.length y209 from (by rw [Ny209.out]; exact Kd.C_take (m := (x5_2 : Int).toNat) ((Kd.R_reads' (Kd.R_after (ok := (fun k_ => some k_ ≠ (.slice Ao54 y216.length co54 : Value).ownBlock)) (Zr HO_3) hg hat)).2.2) KL45.out))); replace HR225 := am_ ((show Kd.C (Kd.int .i64) w55 A46 y222.length y222 from (by rw [Ny222.out, KA46.out]; exact Kd.C_drop (m := (x5_2 : Int).toNat) (c := co43) ((Kd.R_reads' (Kd.R_after (ok := (fun k_ => some k_ ≠ (.slice Ao54 y216.length co54 : Value).ownBlock)) (Zr HO_3) hg hat)).2.2) KL46.out ((Kd.R_reads' (Kd.R_after (ok := (fun k_ => some k_ ≠ (.slice Ao54 y216.length co54 : Value).ownBlock)) (Zr HO_3) hg hat)).2.1)))); replace HO_3 := am_ (Kd.R_after (ok := (fun k_ => some k_ ≠ (.slice Ao54 y216.length co54 : Value).ownBlock)) (Zr HO_3) hg hat); replace HO228 := am_ (ho); clear HO221; clear ho hb hg hat; refine hK.out _ _ trivial (fun hHeld => ?_); clear hK K; refine normZ 44 ?_; refine pureZ HT_ 12 (some 3) (bT 13 13) ?_; refine done_ (done_of HT_.out Zi) ?_
            try go_wp2
            go_roundg k2
            case measure => have := HK1.out; have := HK2.out; omega
            case rel => exact ⟨(y226), (wrap64 (x4_1 + 1)), Za, H', ⟨Zac⟩, ⟨by (with_reducible repeat (first | apply Kd.R_alloc | apply Kd.R_drewN | apply Kd.R_drew)); exact Kd.R_mono HO228.out (fun _ hk => trivial)⟩, ⟨Zf⟩⟩
           ·exact nN c41 H
          ·exact nN c38 H
         ·exact nN c37 H
        ·exact nN c36 H
       ·exact nN c35 H
   ·rw [if_neg c4] at H
    have c4b0 := decide_eq_false c4; clear c4; obtain rfl := Option.some.inj H
    go_wp2
    go_ret
    exact ⟨_, Zg, (Zr HO_3), Zf⟩
mutual
def spec_DarkGaps.l0 : Nat → Int → List (List Int) → List (List Int) → List Int → Int → Option ((List (List Int)) × Int)
 | 0, _, _, _, _, _ => none
 | k + 1, x1, x6, x7, x8, x9 => if x9 < (x6.length : Int) then (if 0 ≤ x9 then (if 0 < ((rd_L5 x6 x9).length : Int) then (if x8.length < 17592186044416 then (spec_DarkGaps.l0 k x1 x6 x7 (x8 ++ [rd (rd_L5 x6 x9) 0]) (wrap64 (x9 + 1))) else (none)) else (none)) else (none)) else ((spec_l08Order.f k x8).bind fun t246 => (spec_DarkGaps.l1 k x1 x6 x7 t246 0 0))
def spec_DarkGaps.l1 : Nat → Int → List (List Int) → List (List Int) → List Int → Int → Int → Option ((List (List Int)) × Int)
 | 0, _, _, _, _, _, _ => none
 | k + 1, x1, x6, x7, x10, x11, x12 => if x12 < (x10.length : Int) then (if 0 ≤ x12 then (if 0 ≤ (rd x10 x12) then (if (rd x10 x12) < (x6.length : Int) then (if x12 > 0 then (if 0 < ((rd_L5 x6 (rd x10 x12)).length : Int) then (if (wrap64 ((wrap64 ((rd (rd_L5 x6 (rd x10 x12)) 0) - x11)) - 1)) ≥ x1 then (if x7.length < 5864062014805 then ((some (x7 ++ [(([wrap64 (x11 + 1), wrap64 ((rd (rd_L5 x6 (rd x10 x12)) 0) - 1)] : List Int))] : List (List Int))).bind fun y256 => (if x12 = 0 then (if 1 < ((rd_L5 x6 (rd x10 x12)).length : Int) then (spec_DarkGaps.l1 k x1 x6 y256 x10 (rd (rd_L5 x6 (rd x10 x12)) 1) (wrap64 (x12 + 1))) else (none)) else (if 1 < ((rd_L5 x6 (rd x10 x12)).length : Int) then (if (rd (rd_L5 x6 (rd x10 x12)) 1) > x11 then (spec_DarkGaps.l1 k x1 x6 y256 x10 (rd (rd_L5 x6 (rd x10 x12)) 1) (wrap64 (x12 + 1))) else (spec_DarkGaps.l1 k x1 x6 y256 x10 x11 (wrap64 (x12 + 1)))) else (none)))) else (none)) else (if x12 = 0 then (if 1 < ((rd_L5 x6 (rd x10 x12)).length : Int) then (spec_DarkGaps.l1 k x1 x6 x7 x10 (rd (rd_L5 x6 (rd x10 x12)) 1) (wrap64 (x12 + 1))) else (none)) else (if 1 < ((rd_L5 x6 (rd x10 x12)).length : Int) then (if (rd (rd_L5 x6 (rd x10 x12)) 1) > x11 then (spec_DarkGaps.l1 k x1 x6 x7 x10 (rd (rd_L5 x6 (rd x10 x12)) 1) (wrap64 (x12 + 1))) else (spec_DarkGaps.l1 k x1 x6 x7 x10 x11 (wrap64 (x12 + 1)))) else (none)))) else (none)) else (if x12 = 0 then (if 1 < ((rd_L5 x6 (rd x10 x12)).length : Int) then (spec_DarkGaps.l1 k x1 x6 x7 x10 (rd (rd_L5 x6 (rd x10 x12)) 1) (wrap64 (x12 + 1))) else (none)) else (if 1 < ((rd_L5 x6 (rd x10 x12)).length : Int) then (if (rd (rd_L5 x6 (rd x10 x12)) 1) > x11 then (spec_DarkGaps.l1 k x1 x6 x7 x10 (rd (rd_L5 x6 (rd x10 x12)) 1) (wrap64 (x12 + 1))) else (spec_DarkGaps.l1 k x1 x6 x7 x10 x11 (wrap64 (x12 + 1)))) else (none)))) else (none)) else (none)) else (none)) else (some (x7, 0))
end
def spec_DarkGaps.f (k : Nat) (l0_0 : List (S87)) (l0_1 : List (S91)) (l0_2 : List (S80)) (a1 : Int) : Option ((List (List Int)) × Int) := (spec_IsShow.f k l0_0 l0_1 l0_2).bind fun t230 => (if t230 = true then ((spec_l01In.f a1 1 10000000).bind fun t231 => (if t231 = true then ((spec_l09All.f k l0_0 l0_1 l0_2).bind fun t232 => (spec_DarkGaps.l0 k a1 t232 (([] : List (List Int))) (([] : List Int)) 0)) else (some (([] : List (List Int)), 2)))) else (some (([] : List (List Int)), 1)))
theorem spec_DarkGaps.calls (k : Nat) (A0_0 : Option Addr) (c0_0 : Nat) (l0_0 : List (S87)) (A0_1 : Option Addr) (c0_1 : Nat) (l0_1 : List (S91)) (A0_2 : Option Addr) (c0_2 : Nat) (l0_2 : List (S80)) (a1 : Int) (r1 : List (List Int)) (r2 : Int) (w : World) (hr0_0 : Kd.C k87 w A0_0 l0_0.length l0_0) (hc0_0 : l0_0.length ≤ c0_0) (hr0_1 : Kd.C k91 w A0_1 l0_1.length l0_1) (hc0_1 : l0_1.length ≤ c0_1) (hr0_2 : Kd.C k80 w A0_2 l0_2.length l0_2) (hc0_2 : l0_2.length ≤ c0_2) (h : spec_DarkGaps.f k l0_0 l0_1 l0_2 a1 = some (r1, r2)) :
  Calls Try.prog 6 #[.agg #[.slice A0_0 l0_0.length c0_0, .slice A0_1 l0_1.length c0_1, .slice A0_2 l0_2.length c0_2], .int .i64 a1] w fun e w' => ∃ v0_ : Value, e = .returned (.tuple #[v0_, .int .i64 r2]) ∧ Kd.N (Kd.slice 2 (Kd.int .i64)) 47 w' w.heap.size (fun k_ => (w.heap.size ≤ k_)) v0_ r1 ∧ Below w.heap.size w w' := by
 have hu35 := Try.underlying35; have HR0_0 := am_ hr0_0; have HC0_0 := am_ hc0_0; clear hr0_0 hc0_0; have HR0_1 := am_ hr0_1; have HC0_1 := am_ hc0_1; clear hr0_1 hc0_1; have HR0_2 := am_ hr0_2; have HC0_2 := am_ hc0_2; clear hr0_2 hc0_2; have HB := am_ (Below.refl w.heap.size w); have H : ((spec_IsShow.f k l0_0 l0_1 l0_2).bind fun t230 => (if t230 = true then ((spec_l01In.f a1 1 10000000).bind fun t231 => (if t231 = true then ((spec_l09All.f k l0_0 l0_1 l0_2).bind fun t232 => (spec_DarkGaps.l0 k a1 t232 (([] : List (List Int))) (([] : List Int)) 0)) else (some (([] : List (List Int)), 2)))) else (some (([] : List (List Int)), 1)))) = some (r1, r2) := h; clear h; obtain ⟨t230, A3, H⟩ := bE_ H; have HS_ := am_ H; clear H
 go_enter Try.func6, Try.ntmps6
 go_wp2_with (first | ((with_reducible refine gate_dst (N := 2) rfl ?_); refine boxZ 2 #[.slice A0_0 l0_0.length c0_0, .slice A0_1 l0_1.length c0_1, .slice A0_2 l0_2.length c0_2] 35 ?_; intro gb229 hg w8 hbox hb; replace BK229 := am_ (hbox); replace GW229 := am_ ((Ze : w.heap.size ≤ gb229)); replace GE229 := GW229; replace HB := (bsZ Zf hb); clear hb hbox hg; refine ci3 BK229 ?_; intros) | ((with_reducible refine gate_callee (f := 23) rfl ?_); refine gZ 15 Try.func23 #[.agg #[.slice A0_0 l0_0.length c0_0, .slice A0_1 l0_1.length c0_1, .slice A0_2 l0_2.length c0_2]] ?_; (with_reducible refine (spec_IsShow.calls k _ _ l0_0 _ _ l0_1 _ _ l0_2 t230 _ ?_ ?_ ?_ ?_ ?_ ?_ A3.out).mono ?_); exact (Zl HR0_0); exact HC0_0.out; exact (Zl HR0_1); exact HC0_1.out; exact (Zl HR0_2); exact HC0_2.out; rintro e w10 ⟨rfl, hb⟩; refine ⟨_, rfl, ?_⟩; replace BK229 := (bkZ BK229 hb); replace HB := (bsZ (Zh GE229) hb); clear hb; refine ?roundEnd))
 case roundEnd =>
  by_cases c4 : t230 = true
  ·have H := HS_.out
   clear HS_; subst c4; rw [if_pos rfl] at H; obtain ⟨t231, A5, H⟩ := bE_ H; have HS_ := am_ H; clear H
   by_cases c6 : t231 = true
   ·have H := HS_.out
    clear HS_; subst c6; rw [if_pos rfl] at H; obtain ⟨t232, A7, H⟩ := bE_ H; obtain ⟨y235, hy235⟩ : ∃ y_ : List (List Int), y_ = (([] : List (List Int))) := ⟨_, rfl⟩
    replace H : (spec_DarkGaps.l0 k a1 t232 y235 (([] : List Int)) 0) = some (r1, r2) := by (try rw [hy235]); first | with_reducible exact H | with_reducible exact (Option.bind_some _ _).symm.trans H | exact H
    have Ny235 := am_ hy235; clear hy235; obtain ⟨y238, hy238⟩ : ∃ y_ : List Int, y_ = (([] : List Int)) := ⟨_, rfl⟩
    replace H : (spec_DarkGaps.l0 k a1 t232 y235 y238 0) = some (r1, r2) := by (try rw [hy238]); first | with_reducible exact H | with_reducible exact (Option.bind_some _ _).symm.trans H | exact H
    have Ny238 := am_ hy238; clear hy238; have H' := am_ H; clear H
    go_wp2_with (first | ((with_reducible refine gate_callee (f := 24) rfl ?_); refine gZ 18 Try.func24 #[.int .i64 a1, .int .i64 1, .int .i64 10000000] ?_; (with_reducible refine (spec_l01In.calls a1 1 10000000 true _ A5.out).mono ?_); rintro e w' ⟨rfl, ⟨nd, rfl⟩⟩; refine ⟨_, rfl, ?_⟩; refine ci3 BK229 ?_; intros) | ((with_reducible refine gate_callee (f := 25) rfl ?_); refine gZ 21 Try.func25 #[.agg #[.slice A0_0 l0_0.length c0_0, .slice A0_1 l0_1.length c0_1, .slice A0_2 l0_2.length c0_2]] ?_; (with_reducible refine (spec_l09All.calls k _ _ l0_0 _ _ l0_1 _ _ l0_2 t232 _ ?_ ?_ ?_ ?_ ?_ ?_ A7.out).mono ?_); exact (Zo HR0_0 GE229); exact HC0_0.out; exact (Zo HR0_1 GE229); exact HC0_1.out; exact (Zo HR0_2 GE229); exact HC0_2.out; rintro e w12 ⟨v233, rfl, ho0, hb⟩; refine ⟨_, rfl, ?_⟩; replace HO234 := am_ (Kd.N_lower (Kd.N_mono (ok' := fun k_ => (w.heap.size ≤ k_) ∧ k_ ≠ gb229) ho0 (fun k_ hk_ => ⟨(Nat.le_trans (below_size (Zh GE229)) hk_), (Kd.freshB (g := gb229) (b0Z BK229) k_ hk_)⟩)) (below_size (Zh GE229))); replace BK229 := (bkZ BK229 hb); replace HB := (bsZ (Zh GE229) hb); clear hb ho0) | ((with_reducible refine gate_dst (N := 22) rfl ?_); refine Kd.N_lit (Kd.slice 2 (Kd.int .i64)) _ 47 ?hg (N' := 22) ?hd (xs := ([] : List (List Int))) (inner := []) (ok := (fun k_ => (w.heap.size ≤ k_) ∧ some k_ ≠ (v233 : Value).ownBlock ∧ k_ ≠ gb229)) (okp := (fun k_ => (w.heap.size ≤ k_) ∧ some k_ ≠ (v233 : Value).ownBlock ∧ k_ ≠ gb229)) ?hr ?hp (fun _ hk => hk) ((show ∀ k_, w12.heap.size ≤ k_ → (fun k_ => (w.heap.size ≤ k_) ∧ some k_ ≠ (v233 : Value).ownBlock ∧ k_ ≠ gb229) k_ from fun k_ hk => ⟨(Nat.le_trans (below_size (Zh GE229)) hk), Kd.fresh' (Kd.N_lt (Zaa HO234)) k_ hk, Kd.freshB (g := gb229) (b0Z BK229) k_ hk⟩) _ (Nat.le_refl _)) (Below.refl _ _) (Nat.le_refl _) (by simp) ?_; (case hd => rfl); (case hg => rfl); (case hr => first | (go_simp; done) | (go_simp; rfl)); (case hp => exact (Reps.none _ _)); intro v236 w13 ho14 hb hg_ hnew_; clear hg_ hnew_; (first | rw [← Ny235.out] at ho14 | (simp only [Int.reduceToNat] at ho14; rw [← Ny235.out] at ho14)); replace HO234 := am_ (Kd.N_elder' (Zaa HO234) (Kd.N_base ho14) hb); replace HO237 := am_ (Kd.N_lower ho14 (below_size (Zh GE229))); replace BK229 := (bkZ BK229 hb); replace HB := (bsZ (Zh GE229) hb); clear hb ho14) | ((with_reducible refine gate_dst (N := 23) rfl ?_); refine Kd.R_lit (Kd.int .i64) _ 2 ?hg (N := 23) ?hd (xs := ([] : List Int)) (inner := []) (ok := fun _ => True) (okp := fun _ => True) ?hr ?hp (fun _ hk => hk) trivial (Below.refl _ _) (Nat.le_refl _) (by simp) ?_; (case hd => rfl); (case hg => rfl); (case hr => first | (go_simp; done) | (go_simp; rfl)); (case hp => exact (Reps.none _ _)); intro v239 w15 ho16 hb hg_ hnew_; clear hg_ hnew_; (first | rw [← Ny238.out] at ho16 | (simp only [Int.reduceToNat] at ho16; rw [← Ny238.out] at ho16)); replace HO234 := am_ (Kd.N_elder' (Zaa HO234) (Kd.R_base ho16) hb); replace HO237 := am_ (Kd.N_elder' (Zaa HO237) (Kd.R_base ho16) hb); replace HO240 := am_ (Kd.R_lower (Kd.R_newM (M := fun k_ => (w.heap.size ≤ k_)) ho16 (below_size (Zh GE229)) (fun k_ h_ => h_)) (below_size (Zh GE229))); replace BK229 := (bkZ BK229 hb); replace HB := (bsZ (Zh GE229) hb); clear hb ho16))
    go_loopg [8, 9] k (fun kq v8 v9 w' => ∃ (x8_1 : List Int) (x9_1 : Int), v9 = .int .i64 x9_1 ∧ Aside0 (spec_DarkGaps.l0 kq a1 t232 y235 x8_1 x9_1 = some (r1, r2)) ∧ Aside0 (kq ≤ k) ∧ Aside0 (Kd.N (Kd.slice 2 (Kd.int .i64)) 47 w' w.heap.size (fun k_ => (w.heap.size ≤ k_) ∧ some k_ ≠ (v236 : Value).ownBlock ∧ some k_ ≠ (v8 : Value).ownBlock ∧ k_ ≠ gb229) v233 t232) ∧ Aside0 (Kd.N (Kd.slice 2 (Kd.int .i64)) 47 w' w.heap.size (fun k_ => (w.heap.size ≤ k_) ∧ some k_ ≠ (v233 : Value).ownBlock ∧ some k_ ≠ (v8 : Value).ownBlock ∧ k_ ≠ gb229) v236 y235) ∧ Aside0 (Kd.R (Kd.int .i64) 2 w' w.heap.size (fun k_ => (w.heap.size ≤ k_)) v8 x8_1) ∧ Aside0 (w'.heap[gb229]? = some (.cells #[(.slice A0_0 l0_0.length c0_0), (.slice A0_1 l0_1.length c0_1), (.slice A0_2 l0_2.length c0_2)] 35 (0, 0))) ∧ Aside0 (Below w.heap.size w w'))
    case atStart => exact ⟨(y238), (0), Za, H', ⟨Nat.le_refl _⟩, ⟨by (with_reducible repeat (first | apply Kd.N_alloc | apply Kd.N_drewN | apply Kd.N_drew)); exact Kd.N_mono HO234.out (fun _ hk => ⟨hk.1.1.1, ⟨hk.1.2, ⟨hk.2, hk.1.1.2⟩⟩⟩)⟩, ⟨(Zai HO237)⟩, ⟨(Zaj HO240)⟩, ⟨(Zq BK229)⟩, ⟨(Zh GE229)⟩⟩
    case round =>
     clear H'
     try clear c2
     try clear p2
     try clear c4
     try clear c6
     obtain ⟨x8_1, x9_1, rfl, HA, HK1, HO_6, HO_7, HO_8, BK229, HB⟩ := hrel
     cases gk with
     | zero => exact absurd HA.out (by simp [spec_DarkGaps.l0])
     | succ k1 =>
      have H := HA.out; clear HA; simp only [spec_DarkGaps.l0] at H
      by_cases c17 : x9_1 < (t232.length : Int)
      ·rw [if_pos c17] at H
       have c17b0 := decide_eq_true c17; clear c17
       by_cases c18 : 0 ≤ x9_1
       ·rw [if_pos c18] at H
        have c18b0 := decide_eq_true c18; clear c18
        by_cases c19 : 0 < ((rd_L5 t232 x9_1).length : Int)
        ·rw [if_pos c19] at H
         have c19b0 := decide_eq_true c19; have c19b1 : decide (0 < (rd_L5 t232 x9_1).length) = true := decide_eq_true (by omega); clear c19
         by_cases c20 : x8_1.length < 17592186044416
         ·rw [if_pos c20] at H
          have LMc20 := am_ c20; clear c20; obtain ⟨y243, hy243⟩ : ∃ y_ : List Int, y_ = (x8_1 ++ [rd (rd_L5 t232 x9_1) 0]) := ⟨_, rfl⟩
          (first | (rw [← hy243] at H; with_reducible replace H := bindZ H) | rw [← hy243] at H | skip)
          have Ny243 := am_ hy243; clear hy243; have H' := am_ H; clear H; obtain ⟨Ao21, co21, eo21⟩ := Kd.N_slice HO_6.out; subst eo21; have p241 : 0 ≤ (x9_1 : Int) := of_decide_eq_true Zc; have q241 : x9_1 < (t232.length : Int) := of_decide_eq_true Zc; obtain ⟨ad241, A241_0, c241_0, e241, hx241_0, hl241_0, hi241_0⟩ := at_L5 (Kd.N_reads' HO_6.out).2.2 x9_1 p241 q241
          cases e241
          obtain ⟨ce241, hce241, hMe241, hcc241⟩ := Kd.N_get HO_6.out [] x9_1 p241 (by first | exact q241 | exact of_decide_eq_true Zc | (have e_ := (Kd.N_reads' HO_6.out).1; omega)); obtain ⟨ua241_0, uc241_0, rfl, ul241_0, ge241_0⟩ := Kd.FK_slice_open hMe241; have hv241_0 := hcc241 0 _ rfl; rw [Nat.add_zero, show ((Kd.slice 2 (Kd.int .i64))).sz = 1 from rfl, Nat.mul_one] at hv241_0; replace hv241_0 := Option.some.inj (hv241_0.symm.trans hx241_0); injection hv241_0 with hva_ hvn_ hvc_; rw [hva_] at ge241_0; rw [hvc_] at ul241_0; have HL241_0 := am_ (show Kd.V (Kd.int .i64) 2 _ w.heap.size _ _ (rd_L5 t232 x9_1) from Kd.V_mk ul241_0 ge241_0); clear hva_ hvn_ hvc_ ge241_0 ul241_0; clear hcc241 hce241; have HR241_0 := am_ hi241_0; have HC241_0 := am_ hl241_0; clear hi241_0 hl241_0; replace p241 := eq_true p241; replace q241 := eq_true q241; have p242 : 0 ≤ (0 : Int) := (by omega); have q242 : 0 < ((rd_L5 t232 x9_1).length : Int) := of_decide_eq_true Zc; obtain ⟨ad242, e242, hx242_0⟩ := Kd.at_int (Zad HR241_0) 0 p242 q242
          cases e242
          have qi242 : (0 < (rd_L5 t232 x9_1).length) = True := eq_true (by omega)
          (try rw [show ((0 : Int)).toNat = 0 from rfl] at hx242_0)
          (try rw [Addr.add_zero'] at hx242_0)
          replace p242 := eq_true p242; replace q242 := eq_true q242
          go_wp2_with (first | ((with_reducible refine gate_builtin (b := .append) (xs := #[.tmp 30, .tmp 37]) rfl ?_); at_builtin; refine Kd.R_append (Kd.int .i64) (w0 := w) w.heap.size rfl (.tmp 30) (.tmp 37) 47 2 (.int .i64 0) 8 rfl Try.underlying47 info2 rfl (by decide) (by omega) u8 x8_1 (rd (rd_L5 t232 x9_1) 0) [.int .i64 (rd (rd_L5 t232 x9_1) 0)] (fun k_ => (w.heap.size ≤ k_)) (fun _ => False) rfl rfl ?aP (fun _ hk => hk.elim) ?aF ?aO ?aB ?aS ?aL ?_; (case aP => exact rfl); (case aB => exact (Zh GE229)); (case aF => exact (fun k_ hk => (Nat.le_trans (below_size (Zh GE229)) hk))); (case aO => exact (Zr HO_8)); (case aS => exact (below_size (Zh GE229))); (case aL => have := LMc20.out; omega); intro v244 w22 ho hb hg hat; rw [← Ny243.out] at ho; replace HO_6 := am_ (Kd.N_afterv (ok := (fun k_ => (w.heap.size ≤ k_) ∧ some k_ ≠ (v236 : Value).ownBlock ∧ k_ ≠ gb229)) (by (with_reducible repeat (first | apply Kd.N_alloc | apply Kd.N_drewN | apply Kd.N_drew)); exact Kd.N_mono HO_6.out (fun _ hk => ⟨⟨hk.1, ⟨hk.2.1, hk.2.2.2⟩⟩, hk.2.2.1⟩)) hg hat); replace HO_7 := am_ (Kd.N_afterv (ok := (fun k_ => (w.heap.size ≤ k_) ∧ some k_ ≠ (.slice (some ad241) t232.length co21 : Value).ownBlock ∧ k_ ≠ gb229)) (by (with_reducible repeat (first | apply Kd.N_alloc | apply Kd.N_drewN | apply Kd.N_drew)); exact Kd.N_mono HO_7.out (fun _ hk => ⟨⟨hk.1, ⟨hk.2.1, hk.2.2.2⟩⟩, hk.2.2.1⟩)) hg hat); replace BK229 := am_ (blk_grown (g := gb229) (b0Z BK229) hg (Kd.R_ne HO_8.out BK229.out (by decide))); replace HL241_0 := am_ (Kd.V_afterv (ok := (fun k_ => (w.heap.size ≤ k_) ∧ some k_ ≠ (.slice (some ad241) t232.length co21 : Value).ownBlock ∧ some k_ ≠ (v236 : Value).ownBlock ∧ k_ ≠ gb229)) (by (with_reducible repeat (first | apply Kd.V_alloc | apply Kd.V_drewN | apply Kd.V_drew)); exact Kd.V_mono HL241_0.out (fun _ hk => ⟨⟨hk.1.1, ⟨hk.2, ⟨hk.1.2.1, hk.1.2.2.2⟩⟩⟩, hk.1.2.2.1⟩)) hg hat); replace HB := am_ (hb); replace HO245 := am_ (ho); clear HO_8; clear ho hb hg hat))
          go_roundg k1
          case measure => have := HK1.out; omega
          case rel => exact ⟨(y243), (wrap64 (x9_1 + 1)), Za, H', ⟨Zd⟩, ⟨(Zai HO_6)⟩, ⟨(Zai HO_7)⟩, ⟨(Zr HO245)⟩, ⟨(Zq BK229)⟩, ⟨(Zh GE229)⟩⟩
         ·exact nN c20 H
        ·exact nN c19 H
       ·exact nN c18 H
      ·rw [if_neg c17] at H
       have c17b0 := decide_eq_false c17; clear c17; obtain ⟨t246, A23, H⟩ := bE_ H; have H' := am_ H; clear H; obtain ⟨Ao24, co24, eo24⟩ := Kd.N_slice HO_6.out; subst eo24; obtain ⟨Ao25, co25, eo25⟩ := Kd.R_slice HO_8.out; subst eo25
       go_wp2_with (first | ((with_reducible refine gate_callee (f := 26) rfl ?_); refine gZ 40 Try.func26 #[.slice Ao25 x8_1.length co25] ?_; (with_reducible refine (spec_l08Order.calls k1 _ _ x8_1 t246 _ ?_ ?_ A23.out).mono ?_); exact (Zak HO_8); exact (Kd.R_reads' HO_8.out).2.1; rintro e w26 ⟨v247, rfl, ho0, hb⟩; refine ⟨_, rfl, ?_⟩; replace HO_6 := am_ (Kd.N_elder' (Zaa HO_6) (Kd.R_base ho0) hb); replace HO_7 := am_ (Kd.N_elder' (Zaa HO_7) (Kd.R_base ho0) hb); replace HO248 := am_ (Kd.R_lower (Kd.R_new' (Kd.R_newM (M := fun k_ => (w.heap.size ≤ k_)) ho0 (below_size (Zh GE229)) (fun k_ h_ => h_)) (Kd.R_lt (Zr HO_8))) (below_size (Zh GE229))); replace HO_8 := am_ (Kd.R_elder' (Zr HO_8) (Kd.R_base ho0) hb); replace BK229 := (bkZ BK229 hb); replace HB := (bsZ (Zh GE229) hb); clear hb ho0))
       go_loopg [7, 11, 12] k1 (fun kq v7 v11 v12 w' => ∃ (x7_2 : List (List Int)) (x11_2 : Int) (x12_2 : Int), v11 = .int .i64 x11_2 ∧ v12 = .int .i64 x12_2 ∧ Aside0 (spec_DarkGaps.l1 kq a1 t232 x7_2 t246 x11_2 x12_2 = some (r1, r2)) ∧ Aside0 (kq ≤ k1) ∧ Aside0 (Kd.N (Kd.slice 2 (Kd.int .i64)) 47 w' w.heap.size (fun k_ => (w.heap.size ≤ k_) ∧ some k_ ≠ (v7 : Value).ownBlock ∧ some k_ ≠ (v247 : Value).ownBlock ∧ k_ ≠ gb229) (.slice Ao24 t232.length co24) t232) ∧ Aside0 (Kd.N (Kd.slice 2 (Kd.int .i64)) 47 w' w.heap.size (fun k_ => (w.heap.size ≤ k_) ∧ some k_ ≠ ((.slice Ao24 t232.length co24) : Value).ownBlock ∧ some k_ ≠ (v247 : Value).ownBlock ∧ k_ ≠ gb229) v7 x7_2) ∧ Aside0 (Kd.R (Kd.int .i64) 2 w' w.heap.size (fun k_ => (w.heap.size ≤ k_)) v247 t246) ∧ Aside0 (w'.heap[gb229]? = some (.cells #[(.slice A0_0 l0_0.length c0_0), (.slice A0_1 l0_1.length c0_1), (.slice A0_2 l0_2.length c0_2)] 35 (0, 0))) ∧ Aside0 (Below w.heap.size w w'))
       case atStart => exact ⟨(y235), (0), (0), Za, Za, H', ⟨Nat.le_refl _⟩, ⟨by (with_reducible repeat (first | apply Kd.N_alloc | apply Kd.N_drewN | apply Kd.N_drew)); exact Kd.N_mono HO_6.out (fun _ hk => ⟨hk.1.1, ⟨hk.1.2.1, ⟨hk.2, hk.1.2.2.2⟩⟩⟩)⟩, ⟨by (with_reducible repeat (first | apply Kd.N_alloc | apply Kd.N_drewN | apply Kd.N_drew)); exact Kd.N_mono HO_7.out (fun _ hk => ⟨hk.1.1, ⟨hk.1.2.1, ⟨hk.2, hk.1.2.2.2⟩⟩⟩)⟩, ⟨by (with_reducible repeat (first | apply Kd.R_alloc | apply Kd.R_drewN | apply Kd.R_drew)); exact Kd.R_mono HO248.out (fun _ hk => hk.1.1)⟩, ⟨(Zq BK229)⟩, ⟨(Zh GE229)⟩⟩
       case round =>
        clear H'
        try clear c1
        try clear c2
        try clear p2
        try clear q2
        try clear hx2
        try clear qi2
        try clear c4
        try clear c6
        try clear p6
        try clear c17
        try clear c17b0
        try clear c18
        try clear c18b0
        try clear c19
        try clear c19b0
        try clear c19b1
        try clear c20
        try clear c23
        try clear c24
        try clear p24
        try clear q24
        try clear hx24
        try clear qi24
        try clear c25
        try clear c26
        try clear hx241_0
        try clear hx242_0
        try clear p2
        try clear p241
        try clear p242
        try clear q241
        try clear q242
        obtain ⟨x7_2, x11_2, x12_2, rfl, rfl, HA, HK2, HO_6, HO_7, HO_10, BK229, HB⟩ := hrel
        cases gk with
        | zero => exact absurd HA.out (by simp [spec_DarkGaps.l1])
        | succ k2 =>
         have H := HA.out; clear HA; simp only [spec_DarkGaps.l1] at H
         by_cases c27 : x12_2 < (t246.length : Int)
         ·rw [if_pos c27] at H
          have c27b0 := decide_eq_true c27; clear c27
          by_cases c28 : 0 ≤ x12_2
          ·rw [if_pos c28] at H
           have c28b0 := decide_eq_true c28; clear c28
           by_cases c29 : 0 ≤ (rd t246 x12_2)
           ·rw [if_pos c29] at H
            have c29b0 := decide_eq_true c29; clear c29
            by_cases c30 : (rd t246 x12_2) < (t232.length : Int)
            ·rw [if_pos c30] at H
             have c30b0 := decide_eq_true c30; clear c30
             by_cases c31 : x12_2 > 0
             ·rw [if_pos c31] at H
              have c31b0 : decide (0 < x12_2) = true := decide_eq_true c31; clear c31
              by_cases c32 : 0 < ((rd_L5 t232 (rd t246 x12_2)).length : Int)
              ·rw [if_pos c32] at H
               have c32b0 := decide_eq_true c32; have c32b1 : decide (0 < (rd_L5 t232 (rd t246 x12_2)).length) = true := decide_eq_true (by omega); clear c32
               by_cases c33 : (wrap64 ((wrap64 ((rd (rd_L5 t232 (rd t246 x12_2)) 0) - x11_2)) - 1)) ≥ a1
               ·rw [if_pos c33] at H
                have c33b0 : decide (a1 ≤ (wrap64 ((wrap64 ((rd (rd_L5 t232 (rd t246 x12_2)) 0) - x11_2)) - 1))) = true := decide_eq_true c33; clear c33; obtain ⟨y253, hy253⟩ : ∃ y_ : List Int, y_ = (([wrap64 (x11_2 + 1), wrap64 ((rd (rd_L5 t232 (rd t246 x12_2)) 0) - 1)] : List Int)) := ⟨_, rfl⟩
                (first | (rw [← hy253] at H; with_reducible replace H := bindZ H) | rw [← hy253] at H | skip)
                have Ny253 := am_ hy253; clear hy253
                by_cases c34 : x7_2.length < 5864062014805
                ·rw [if_pos c34] at H
                 have LMc34 := am_ c34; clear c34; obtain ⟨y256, hy256⟩ : ∃ y_ : List (List Int), y_ = (x7_2 ++ [y253]) := ⟨_, rfl⟩
                 (first | (rw [← hy256] at H; with_reducible replace H := bindZ H) | rw [← hy256] at H | skip)
                 have Ny256 := am_ hy256; clear hy256
                 by_cases c35 : x12_2 = 0
                 ·rw [if_pos c35] at H
                  have c35b0 := beq_iff_eq.mpr c35; have c35b1 := bne_eq_false_iff_eq.mpr c35; clear c35
                  by_cases c36 : 1 < ((rd_L5 t232 (rd t246 x12_2)).length : Int)
                  ·rw [if_pos c36] at H
                   have c36b0 := decide_eq_true c36; have c36b1 : decide (1 < (rd_L5 t232 (rd t246 x12_2)).length) = true := decide_eq_true (by omega); clear c36; have H' := am_ H; clear H; obtain ⟨Ao37, co37, eo37⟩ := Kd.R_slice HO_10.out; subst eo37; have p249 : 0 ≤ (x12_2 : Int) := of_decide_eq_true Zc; have q249 : x12_2 < (t246.length : Int) := of_decide_eq_true Zc; obtain ⟨ad249, e249, hx249_0⟩ := Kd.at_int (Kd.R_reads' HO_10.out).2.2 x12_2 p249 q249
                   cases e249
                   replace p249 := eq_true p249; replace q249 := eq_true q249; have p250 : 0 ≤ ((rd t246 x12_2) : Int) := of_decide_eq_true Zc; have q250 : (rd t246 x12_2) < (t232.length : Int) := of_decide_eq_true Zc; obtain ⟨ad250, A250_0, c250_0, e250, hx250_0, hl250_0, hi250_0⟩ := at_L5 (Kd.N_reads' HO_6.out).2.2 (rd t246 x12_2) p250 q250
                   cases e250
                   obtain ⟨ce250, hce250, hMe250, hcc250⟩ := Kd.N_get HO_6.out [] (rd t246 x12_2) p250 (Zal HO_6); obtain ⟨ua250_0, uc250_0, rfl, ul250_0, ge250_0⟩ := Kd.FK_slice_open hMe250; have hv250_0 := hcc250 0 _ rfl; rw [Nat.add_zero, show ((Kd.slice 2 (Kd.int .i64))).sz = 1 from rfl, Nat.mul_one] at hv250_0; replace hv250_0 := Option.some.inj (hv250_0.symm.trans hx250_0); injection hv250_0 with hva_ hvn_ hvc_; rw [hva_] at ge250_0; rw [hvc_] at ul250_0; have HL250_0 := am_ (show Kd.V (Kd.int .i64) 2 _ w.heap.size _ _ (rd_L5 t232 (rd t246 x12_2)) from Kd.V_mk ul250_0 ge250_0); clear hva_ hvn_ hvc_ ge250_0 ul250_0; clear hcc250 hce250; have HR250_0 := am_ hi250_0; have HC250_0 := am_ hl250_0; clear hi250_0 hl250_0; replace p250 := eq_true p250; replace q250 := eq_true q250; have p251 : 0 ≤ (0 : Int) := (by omega); have q251 : 0 < ((rd_L5 t232 (rd t246 x12_2)).length : Int) := of_decide_eq_true Zc; obtain ⟨ad251, e251, hx251_0⟩ := Kd.at_int (Zad HR250_0) 0 p251 q251
                   cases e251
                   have qi251 : (0 < (rd_L5 t232 (rd t246 x12_2)).length) = True := eq_true (by omega)
                   (try rw [show ((0 : Int)).toNat = 0 from rfl] at hx251_0)
                   (try rw [Addr.add_zero'] at hx251_0)
                   replace p251 := eq_true p251; replace q251 := eq_true q251; have p252 : 0 ≤ (0 : Int) := (by omega); have q252 : 0 < ((rd_L5 t232 (rd t246 x12_2)).length : Int) := of_decide_eq_true Zc; obtain ⟨ad252, e252, hx252_0⟩ := Kd.at_int (Zad HR250_0) 0 p252 q252; obtain rfl : ad251 = ad252 := (by injection e252); have qi252 : (0 < (rd_L5 t232 (rd t246 x12_2)).length) = True := eq_true (by omega)
                   (try rw [show ((0 : Int)).toNat = 0 from rfl] at hx252_0)
                   (try rw [Addr.add_zero'] at hx252_0)
                   replace p252 := eq_true p252; replace q252 := eq_true q252
                   go_wp2_with (first | ((with_reducible refine gate_dst (N := 73) rfl ?_); refine Kd.R_lit (Kd.int .i64) _ 2 ?hg (N := 73) ?hd (xs := ([wrap64 (x11_2 + 1), wrap64 ((rd (rd_L5 t232 (rd t246 x12_2)) 0) - 1)] : List Int)) (inner := [.int .i64 (wrap64 (x11_2 + 1)), .int .i64 (wrap64 ((rd (rd_L5 t232 (rd t246 x12_2)) 0) - 1))]) (ok := fun _ => True) (okp := fun _ => True) ?hr ?hp (fun _ hk => hk) trivial (Below.refl _ _) (Nat.le_refl _) (by simp) ?_; (case hd => rfl); (case hg => rfl); (case hr => first | (go_simp; done) | (go_simp; rfl)); (case hp => exact (Reps.one (show Kd.M (Kd.int .i64) _ _ _ (wrap64 (x11_2 + 1)) [.int .i64 (wrap64 (x11_2 + 1))] from rfl) (Reps.one (show Kd.M (Kd.int .i64) _ _ _ (wrap64 ((rd (rd_L5 t232 (rd t246 x12_2)) 0) - 1)) [.int .i64 (wrap64 ((rd (rd_L5 t232 (rd t246 x12_2)) 0) - 1))] from rfl) (Reps.none _ _)))); intro v254 w38 ho39 hb hg_ hnew_; clear hg_ hnew_; (first | rw [← Ny253.out] at ho39 | (simp only [Int.reduceToNat] at ho39; rw [← Ny253.out] at ho39)); replace HO_6 := am_ (Kd.N_elder' (Zaa HO_6) (Kd.R_base ho39) hb); replace HO_7 := am_ (Kd.N_elder' (Zaa HO_7) (Kd.R_base ho39) hb); replace HL250_0 := am_ (Kd.V_elder' (Zam HL250_0) (Kd.R_base ho39) hb); replace HO255 := am_ (Kd.R_lower (Kd.R_new' (Kd.R_newM (M := fun k_ => (w.heap.size ≤ k_)) ho39 (below_size (Zh GE229)) (fun k_ h_ => h_)) (Kd.R_lt (Zr HO_10))) (below_size (Zh GE229))); replace HO_10 := am_ (Kd.R_elder' (Zr HO_10) (Kd.R_base ho39) hb); replace BK229 := (bkZ BK229 hb); replace HR250_0 := am_ (Kd.C_below (Zad HR250_0) hb); replace HB := (bsZ (Zh GE229) hb); clear hb ho39; obtain ⟨Ao41, co41, eo41⟩ := Kd.R_slice HO255.out; subst eo41) | ((with_reducible refine gate_builtin (b := .append) (xs := #[.tmp 66, .tmp 74]) rfl ?_); at_builtin; refine Kd.N_append (Kd.slice 2 (Kd.int .i64)) (w0 := w) w.heap.size rfl (.tmp 66) (.tmp 74) 28 47 (.slice none 0 0) 24 rfl Try.underlying28 info47 rfl (by decide) (by omega) u7 x7_2 y253 [.slice Ao41 y253.length co41] (fun k_ => (w.heap.size ≤ k_) ∧ some k_ ≠ (.slice (some ad250) t232.length co24 : Value).ownBlock ∧ some k_ ≠ (.slice (some ad249) t246.length co37 : Value).ownBlock ∧ k_ ≠ gb229) (fun k_ => ((fun k_ => (w.heap.size ≤ k_) ∧ some k_ ≠ (.slice (some ad250) t232.length co24 : Value).ownBlock ∧ some k_ ≠ (.slice (some ad249) t246.length co37 : Value).ownBlock ∧ k_ ≠ gb229)) k_ ∧ some k_ ≠ (u7 : Value).ownBlock) rfl rfl ?aP (fun _ hk => hk) ?aF ?aO ?aB ?aS ?aL ?_; (case aP => exact (Kd.FK_slice_mk (Kd.R_reads' (Kd.R_mono (ok' := (fun k_ => ((fun k_ => (w.heap.size ≤ k_) ∧ some k_ ≠ (.slice (some ad250) t232.length co24 : Value).ownBlock ∧ some k_ ≠ (.slice (some ad249) t246.length co37 : Value).ownBlock ∧ k_ ≠ gb229)) k_ ∧ some k_ ≠ (u7 : Value).ownBlock)) (Kd.R_types (Kd.R_apart' (Kd.R_apart' (HO255.out) (Kd.N_typed HO_6.out) (by decide)) (Kd.N_typed HO_7.out) (by decide)) BK229.out (by decide)) (fun k_ hk => ⟨⟨hk.1.1.1.1.1, ⟨hk.1.1.2, ⟨hk.1.1.1.2, hk.2⟩⟩⟩, hk.1.2⟩))).2.1 (Kd.R_F (Kd.R_mono (ok' := (fun k_ => ((fun k_ => (w.heap.size ≤ k_) ∧ some k_ ≠ (.slice (some ad250) t232.length co24 : Value).ownBlock ∧ some k_ ≠ (.slice (some ad249) t246.length co37 : Value).ownBlock ∧ k_ ≠ gb229)) k_ ∧ some k_ ≠ (u7 : Value).ownBlock)) (Kd.R_types (Kd.R_apart' (Kd.R_apart' (HO255.out) (Kd.N_typed HO_6.out) (by decide)) (Kd.N_typed HO_7.out) (by decide)) BK229.out (by decide)) (fun k_ hk => ⟨⟨hk.1.1.1.1.1, ⟨hk.1.1.2, ⟨hk.1.1.1.2, hk.2⟩⟩⟩, hk.1.2⟩))))); (case aB => exact (Zh GE229)); (case aF => exact (fun k_ hk => ⟨(Nat.le_trans (below_size (Zh GE229)) hk), Kd.fresh' (Kd.N_lt (Zaa HO_6)) k_ hk, Kd.fresh' (Kd.R_lt (Zr HO_10)) k_ hk, Kd.freshB (g := gb229) (b0Z BK229) k_ hk⟩)); (case aO => exact (Zan HO_7)); (case aS => exact (below_size (Zh GE229))); (case aL => have := LMc34.out; omega); intro v257 w40 ho hb hg hat; rw [← Ny256.out] at ho; replace HO_6 := am_ (Kd.N_afterv (ok := (fun k_ => (w.heap.size ≤ k_) ∧ some k_ ≠ (.slice (some ad249) t246.length co37 : Value).ownBlock ∧ some k_ ≠ (.slice Ao41 y253.length co41 : Value).ownBlock ∧ k_ ≠ gb229)) (Zao HO_6) hg hat); replace HO_10 := am_ (Kd.R_over' (Zr HO_10) (Kd.N_typed (Zaa HO_7)) (by decide) hg); replace BK229 := am_ (blk_grown (g := gb229) (b0Z BK229) hg (Kd.N_ne HO_7.out BK229.out (by decide))); replace HL250_0 := am_ (Kd.V_afterv (ok := (fun k_ => (w.heap.size ≤ k_) ∧ some k_ ≠ (.slice (some ad250) t232.length co24 : Value).ownBlock ∧ some k_ ≠ (.slice (some ad249) t246.length co37 : Value).ownBlock ∧ some k_ ≠ (.slice Ao41 y253.length co41 : Value).ownBlock ∧ k_ ≠ gb229)) (Zap HL250_0) hg hat); replace HB := am_ (hb); replace HO258 := am_ (ho); clear HO_7 HO255; clear ho hb hg hat; have p259 : 0 ≤ (1 : Int) := (by omega); have q259 : 1 < ((rd_L5 t232 (rd t246 x12_2)).length : Int) := of_decide_eq_true Zc; obtain ⟨ad259, e259, hx259_0⟩ := Kd.at_int ((Kd.V_reads' HL250_0.out).2.2) 1 p259 q259; obtain rfl : ad251 = ad259 := (by injection e259); (try simp only [show (1 : Int).toNat = 1 from rfl, Nat.reduceMul, Nat.reduceEqDiff, Go.Addr.add, ↓reduceIte] at hx259_0); have qi259 : (1 < (rd_L5 t232 (rd t246 x12_2)).length) = True := eq_true (by omega); (try rw [show ((1 : Int)).toNat = 1 from rfl] at hx259_0); replace p259 := eq_true p259; replace q259 := eq_true q259))
                   go_roundg k2
                   case measure => have := HK1.out; have := HK2.out; omega
                   case rel => exact ⟨(y256), (rd (rd_L5 t232 (rd t246 x12_2)) 1), (wrap64 (x12_2 + 1)), Za, Za, H', ⟨Zac⟩, ⟨(Zaq HO_6)⟩, ⟨(Zaa HO258)⟩, ⟨(Zaj HO_10)⟩, ⟨(Zq BK229)⟩, ⟨(Zh GE229)⟩⟩
                  ·exact nN c36 H
                 ·rw [if_neg c35] at H
                  have c35b0 := beq_eq_false_iff_ne.mpr c35; have c35b1 := bne_iff_ne.mpr c35
                  by_cases c42 : 1 < ((rd_L5 t232 (rd t246 x12_2)).length : Int)
                  ·rw [if_pos c42] at H
                   have c42b0 := decide_eq_true c42; have c42b1 : decide (1 < (rd_L5 t232 (rd t246 x12_2)).length) = true := decide_eq_true (by omega); clear c42
                   by_cases c43 : (rd (rd_L5 t232 (rd t246 x12_2)) 1) > x11_2
                   ·rw [if_pos c43] at H
                    have c43b0 : decide (x11_2 < (rd (rd_L5 t232 (rd t246 x12_2)) 1)) = true := decide_eq_true c43; clear c43; have H' := am_ H; clear H; obtain ⟨Ao44, co44, eo44⟩ := Kd.R_slice HO_10.out; subst eo44; have p249 : 0 ≤ (x12_2 : Int) := of_decide_eq_true Zc; have q249 : x12_2 < (t246.length : Int) := of_decide_eq_true Zc; obtain ⟨ad249, e249, hx249_0⟩ := Kd.at_int (Kd.R_reads' HO_10.out).2.2 x12_2 p249 q249
                    cases e249
                    replace p249 := eq_true p249; replace q249 := eq_true q249; have p250 : 0 ≤ ((rd t246 x12_2) : Int) := of_decide_eq_true Zc; have q250 : (rd t246 x12_2) < (t232.length : Int) := of_decide_eq_true Zc; obtain ⟨ad250, A250_0, c250_0, e250, hx250_0, hl250_0, hi250_0⟩ := at_L5 (Kd.N_reads' HO_6.out).2.2 (rd t246 x12_2) p250 q250
                    cases e250
                    obtain ⟨ce250, hce250, hMe250, hcc250⟩ := Kd.N_get HO_6.out [] (rd t246 x12_2) p250 (Zal HO_6); obtain ⟨ua250_0, uc250_0, rfl, ul250_0, ge250_0⟩ := Kd.FK_slice_open hMe250; have hv250_0 := hcc250 0 _ rfl; rw [Nat.add_zero, show ((Kd.slice 2 (Kd.int .i64))).sz = 1 from rfl, Nat.mul_one] at hv250_0; replace hv250_0 := Option.some.inj (hv250_0.symm.trans hx250_0); injection hv250_0 with hva_ hvn_ hvc_; rw [hva_] at ge250_0; rw [hvc_] at ul250_0; have HL250_0 := am_ (show Kd.V (Kd.int .i64) 2 _ w.heap.size _ _ (rd_L5 t232 (rd t246 x12_2)) from Kd.V_mk ul250_0 ge250_0); clear hva_ hvn_ hvc_ ge250_0 ul250_0; clear hcc250 hce250; have HR250_0 := am_ hi250_0; have HC250_0 := am_ hl250_0; clear hi250_0 hl250_0; replace p250 := eq_true p250; replace q250 := eq_true q250; have p251 : 0 ≤ (0 : Int) := (by omega); have q251 : 0 < ((rd_L5 t232 (rd t246 x12_2)).length : Int) := of_decide_eq_true Zc; obtain ⟨ad251, e251, hx251_0⟩ := Kd.at_int (Zad HR250_0) 0 p251 q251
                    cases e251
                    have qi251 : (0 < (rd_L5 t232 (rd t246 x12_2)).length) = True := eq_true (by omega)
                    (try rw [show ((0 : Int)).toNat = 0 from rfl] at hx251_0)
                    (try rw [Addr.add_zero'] at hx251_0)
                    replace p251 := eq_true p251; replace q251 := eq_true q251; have p252 : 0 ≤ (0 : Int) := (by omega); have q252 : 0 < ((rd_L5 t232 (rd t246 x12_2)).length : Int) := of_decide_eq_true Zc; obtain ⟨ad252, e252, hx252_0⟩ := Kd.at_int (Zad HR250_0) 0 p252 q252; obtain rfl : ad251 = ad252 := (by injection e252); have qi252 : (0 < (rd_L5 t232 (rd t246 x12_2)).length) = True := eq_true (by omega)
                    (try rw [show ((0 : Int)).toNat = 0 from rfl] at hx252_0)
                    (try rw [Addr.add_zero'] at hx252_0)
                    replace p252 := eq_true p252; replace q252 := eq_true q252
                    go_wp2_with (first | ((with_reducible refine gate_dst (N := 73) rfl ?_); refine Kd.R_lit (Kd.int .i64) _ 2 ?hg (N := 73) ?hd (xs := ([wrap64 (x11_2 + 1), wrap64 ((rd (rd_L5 t232 (rd t246 x12_2)) 0) - 1)] : List Int)) (inner := [.int .i64 (wrap64 (x11_2 + 1)), .int .i64 (wrap64 ((rd (rd_L5 t232 (rd t246 x12_2)) 0) - 1))]) (ok := fun _ => True) (okp := fun _ => True) ?hr ?hp (fun _ hk => hk) trivial (Below.refl _ _) (Nat.le_refl _) (by simp) ?_; (case hd => rfl); (case hg => rfl); (case hr => first | (go_simp; done) | (go_simp; rfl)); (case hp => exact (Reps.one (show Kd.M (Kd.int .i64) _ _ _ (wrap64 (x11_2 + 1)) [.int .i64 (wrap64 (x11_2 + 1))] from rfl) (Reps.one (show Kd.M (Kd.int .i64) _ _ _ (wrap64 ((rd (rd_L5 t232 (rd t246 x12_2)) 0) - 1)) [.int .i64 (wrap64 ((rd (rd_L5 t232 (rd t246 x12_2)) 0) - 1))] from rfl) (Reps.none _ _)))); intro v254 w45 ho46 hb hg_ hnew_; clear hg_ hnew_; (first | rw [← Ny253.out] at ho46 | (simp only [Int.reduceToNat] at ho46; rw [← Ny253.out] at ho46)); replace HO_6 := am_ (Kd.N_elder' (Zaa HO_6) (Kd.R_base ho46) hb); replace HO_7 := am_ (Kd.N_elder' (Zaa HO_7) (Kd.R_base ho46) hb); replace HL250_0 := am_ (Kd.V_elder' (Zam HL250_0) (Kd.R_base ho46) hb); replace HO255 := am_ (Kd.R_lower (Kd.R_new' (Kd.R_newM (M := fun k_ => (w.heap.size ≤ k_)) ho46 (below_size (Zh GE229)) (fun k_ h_ => h_)) (Kd.R_lt (Zr HO_10))) (below_size (Zh GE229))); replace HO_10 := am_ (Kd.R_elder' (Zr HO_10) (Kd.R_base ho46) hb); replace BK229 := (bkZ BK229 hb); replace HR250_0 := am_ (Kd.C_below (Zad HR250_0) hb); replace HB := (bsZ (Zh GE229) hb); clear hb ho46; obtain ⟨Ao48, co48, eo48⟩ := Kd.R_slice HO255.out; subst eo48) | ((with_reducible refine gate_builtin (b := .append) (xs := #[.tmp 66, .tmp 74]) rfl ?_); at_builtin; refine Kd.N_append (Kd.slice 2 (Kd.int .i64)) (w0 := w) w.heap.size rfl (.tmp 66) (.tmp 74) 28 47 (.slice none 0 0) 24 rfl Try.underlying28 info47 rfl (by decide) (by omega) u7 x7_2 y253 [.slice Ao48 y253.length co48] (fun k_ => (w.heap.size ≤ k_) ∧ some k_ ≠ (.slice (some ad250) t232.length co24 : Value).ownBlock ∧ some k_ ≠ (.slice (some ad249) t246.length co44 : Value).ownBlock ∧ k_ ≠ gb229) (fun k_ => ((fun k_ => (w.heap.size ≤ k_) ∧ some k_ ≠ (.slice (some ad250) t232.length co24 : Value).ownBlock ∧ some k_ ≠ (.slice (some ad249) t246.length co44 : Value).ownBlock ∧ k_ ≠ gb229)) k_ ∧ some k_ ≠ (u7 : Value).ownBlock) rfl rfl ?aP (fun _ hk => hk) ?aF ?aO ?aB ?aS ?aL ?_; (case aP => exact (Kd.FK_slice_mk (Kd.R_reads' (Kd.R_mono (ok' := (fun k_ => ((fun k_ => (w.heap.size ≤ k_) ∧ some k_ ≠ (.slice (some ad250) t232.length co24 : Value).ownBlock ∧ some k_ ≠ (.slice (some ad249) t246.length co44 : Value).ownBlock ∧ k_ ≠ gb229)) k_ ∧ some k_ ≠ (u7 : Value).ownBlock)) (Kd.R_types (Kd.R_apart' (Kd.R_apart' (HO255.out) (Kd.N_typed HO_6.out) (by decide)) (Kd.N_typed HO_7.out) (by decide)) BK229.out (by decide)) (fun k_ hk => ⟨⟨hk.1.1.1.1.1, ⟨hk.1.1.2, ⟨hk.1.1.1.2, hk.2⟩⟩⟩, hk.1.2⟩))).2.1 (Kd.R_F (Kd.R_mono (ok' := (fun k_ => ((fun k_ => (w.heap.size ≤ k_) ∧ some k_ ≠ (.slice (some ad250) t232.length co24 : Value).ownBlock ∧ some k_ ≠ (.slice (some ad249) t246.length co44 : Value).ownBlock ∧ k_ ≠ gb229)) k_ ∧ some k_ ≠ (u7 : Value).ownBlock)) (Kd.R_types (Kd.R_apart' (Kd.R_apart' (HO255.out) (Kd.N_typed HO_6.out) (by decide)) (Kd.N_typed HO_7.out) (by decide)) BK229.out (by decide)) (fun k_ hk => ⟨⟨hk.1.1.1.1.1, ⟨hk.1.1.2, ⟨hk.1.1.1.2, hk.2⟩⟩⟩, hk.1.2⟩))))); (case aB => exact (Zh GE229)); (case aF => exact (fun k_ hk => ⟨(Nat.le_trans (below_size (Zh GE229)) hk), Kd.fresh' (Kd.N_lt (Zaa HO_6)) k_ hk, Kd.fresh' (Kd.R_lt (Zr HO_10)) k_ hk, Kd.freshB (g := gb229) (b0Z BK229) k_ hk⟩)); (case aO => exact (Zan HO_7)); (case aS => exact (below_size (Zh GE229))); (case aL => have := LMc34.out; omega); intro v257 w47 ho hb hg hat; rw [← Ny256.out] at ho; replace HO_6 := am_ (Kd.N_afterv (ok := (fun k_ => (w.heap.size ≤ k_) ∧ some k_ ≠ (.slice (some ad249) t246.length co44 : Value).ownBlock ∧ some k_ ≠ (.slice Ao48 y253.length co48 : Value).ownBlock ∧ k_ ≠ gb229)) (Zao HO_6) hg hat); replace HO_10 := am_ (Kd.R_over' (Zr HO_10) (Kd.N_typed (Zaa HO_7)) (by decide) hg); replace BK229 := am_ (blk_grown (g := gb229) (b0Z BK229) hg (Kd.N_ne HO_7.out BK229.out (by decide))); replace HL250_0 := am_ (Kd.V_afterv (ok := (fun k_ => (w.heap.size ≤ k_) ∧ some k_ ≠ (.slice (some ad250) t232.length co24 : Value).ownBlock ∧ some k_ ≠ (.slice (some ad249) t246.length co44 : Value).ownBlock ∧ some k_ ≠ (.slice Ao48 y253.length co48 : Value).ownBlock ∧ k_ ≠ gb229)) (Zap HL250_0) hg hat); replace HB := am_ (hb); replace HO258 := am_ (ho); clear HO_7 HO255; clear ho hb hg hat; have p260 : 0 ≤ (1 : Int) := (by omega); have q260 : 1 < ((rd_L5 t232 (rd t246 x12_2)).length : Int) := of_decide_eq_true Zc; obtain ⟨ad260, e260, hx260_0⟩ := Kd.at_int ((Kd.V_reads' HL250_0.out).2.2) 1 p260 q260; obtain rfl : ad251 = ad260 := (by injection e260); (try simp only [show (1 : Int).toNat = 1 from rfl, Nat.reduceMul, Nat.reduceEqDiff, Go.Addr.add, ↓reduceIte] at hx260_0); have qi260 : (1 < (rd_L5 t232 (rd t246 x12_2)).length) = True := eq_true (by omega); (try rw [show ((1 : Int)).toNat = 1 from rfl] at hx260_0); replace p260 := eq_true p260; replace q260 := eq_true q260; have p261 : 0 ≤ (1 : Int) := (by omega); have q261 : 1 < ((rd_L5 t232 (rd t246 x12_2)).length : Int) := of_decide_eq_true Zc; obtain ⟨ad261, e261, hx261_0⟩ := Kd.at_int ((Kd.V_reads' HL250_0.out).2.2) 1 p261 q261; obtain rfl : ad251 = ad261 := (by injection e261); (try simp only [show (1 : Int).toNat = 1 from rfl, Nat.reduceMul, Nat.reduceEqDiff, Go.Addr.add, ↓reduceIte] at hx261_0); have qi261 : (1 < (rd_L5 t232 (rd t246 x12_2)).length) = True := eq_true (by omega); (try rw [show ((1 : Int)).toNat = 1 from rfl] at hx261_0); replace p261 := eq_true p261; replace q261 := eq_true q261))
                    go_roundg k2
                    case measure => have := HK1.out; have := HK2.out; omega
                    case rel => exact ⟨(y256), (rd (rd_L5 t232 (rd t246 x12_2)) 1), (wrap64 (x12_2 + 1)), Za, Za, H', ⟨Zac⟩, ⟨(Zaq HO_6)⟩, ⟨(Zaa HO258)⟩, ⟨(Zaj HO_10)⟩, ⟨(Zq BK229)⟩, ⟨(Zh GE229)⟩⟩
                   ·rw [if_neg c43] at H
                    have c43b0 : decide (x11_2 < (rd (rd_L5 t232 (rd t246 x12_2)) 1)) = false := decide_eq_false c43; clear c43; have H' := am_ H; clear H; obtain ⟨Ao49, co49, eo49⟩ := Kd.R_slice HO_10.out; subst eo49; have p249 : 0 ≤ (x12_2 : Int) := of_decide_eq_true Zc; have q249 : x12_2 < (t246.length : Int) := of_decide_eq_true Zc; obtain ⟨ad249, e249, hx249_0⟩ := Kd.at_int (Kd.R_reads' HO_10.out).2.2 x12_2 p249 q249
                    cases e249
                    replace p249 := eq_true p249; replace q249 := eq_true q249; have p250 : 0 ≤ ((rd t246 x12_2) : Int) := of_decide_eq_true Zc; have q250 : (rd t246 x12_2) < (t232.length : Int) := of_decide_eq_true Zc; obtain ⟨ad250, A250_0, c250_0, e250, hx250_0, hl250_0, hi250_0⟩ := at_L5 (Kd.N_reads' HO_6.out).2.2 (rd t246 x12_2) p250 q250
                    cases e250
                    obtain ⟨ce250, hce250, hMe250, hcc250⟩ := Kd.N_get HO_6.out [] (rd t246 x12_2) p250 (Zal HO_6); obtain ⟨ua250_0, uc250_0, rfl, ul250_0, ge250_0⟩ := Kd.FK_slice_open hMe250; have hv250_0 := hcc250 0 _ rfl; rw [Nat.add_zero, show ((Kd.slice 2 (Kd.int .i64))).sz = 1 from rfl, Nat.mul_one] at hv250_0; replace hv250_0 := Option.some.inj (hv250_0.symm.trans hx250_0); injection hv250_0 with hva_ hvn_ hvc_; rw [hva_] at ge250_0; rw [hvc_] at ul250_0; have HL250_0 := am_ (show Kd.V (Kd.int .i64) 2 _ w.heap.size _ _ (rd_L5 t232 (rd t246 x12_2)) from Kd.V_mk ul250_0 ge250_0); clear hva_ hvn_ hvc_ ge250_0 ul250_0; clear hcc250 hce250; have HR250_0 := am_ hi250_0; have HC250_0 := am_ hl250_0; clear hi250_0 hl250_0; replace p250 := eq_true p250; replace q250 := eq_true q250; have p251 : 0 ≤ (0 : Int) := (by omega); have q251 : 0 < ((rd_L5 t232 (rd t246 x12_2)).length : Int) := of_decide_eq_true Zc; obtain ⟨ad251, e251, hx251_0⟩ := Kd.at_int (Zad HR250_0) 0 p251 q251
                    cases e251
                    have qi251 : (0 < (rd_L5 t232 (rd t246 x12_2)).length) = True := eq_true (by omega)
                    (try rw [show ((0 : Int)).toNat = 0 from rfl] at hx251_0)
                    (try rw [Addr.add_zero'] at hx251_0)
                    replace p251 := eq_true p251; replace q251 := eq_true q251; have p252 : 0 ≤ (0 : Int) := (by omega); have q252 : 0 < ((rd_L5 t232 (rd t246 x12_2)).length : Int) := of_decide_eq_true Zc; obtain ⟨ad252, e252, hx252_0⟩ := Kd.at_int (Zad HR250_0) 0 p252 q252; obtain rfl : ad251 = ad252 := (by injection e252); have qi252 : (0 < (rd_L5 t232 (rd t246 x12_2)).length) = True := eq_true (by omega)
                    (try rw [show ((0 : Int)).toNat = 0 from rfl] at hx252_0)
                    (try rw [Addr.add_zero'] at hx252_0)
                    replace p252 := eq_true p252; replace q252 := eq_true q252
                    go_wp2_with (first | ((with_reducible refine gate_dst (N := 73) rfl ?_); refine Kd.R_lit (Kd.int .i64) _ 2 ?hg (N := 73) ?hd (xs := ([wrap64 (x11_2 + 1), wrap64 ((rd (rd_L5 t232 (rd t246 x12_2)) 0) - 1)] : List Int)) (inner := [.int .i64 (wrap64 (x11_2 + 1)), .int .i64 (wrap64 ((rd (rd_L5 t232 (rd t246 x12_2)) 0) - 1))]) (ok := fun _ => True) (okp := fun _ => True) ?hr ?hp (fun _ hk => hk) trivial (Below.refl _ _) (Nat.le_refl _) (by simp) ?_; (case hd => rfl); (case hg => rfl); (case hr => first | (go_simp; done) | (go_simp; rfl)); (case hp => exact (Reps.one (show Kd.M (Kd.int .i64) _ _ _ (wrap64 (x11_2 + 1)) [.int .i64 (wrap64 (x11_2 + 1))] from rfl) (Reps.one (show Kd.M (Kd.int .i64) _ _ _ (wrap64 ((rd (rd_L5 t232 (rd t246 x12_2)) 0) - 1)) [.int .i64 (wrap64 ((rd (rd_L5 t232 (rd t246 x12_2)) 0) - 1))] from rfl) (Reps.none _ _)))); intro v254 w50 ho51 hb hg_ hnew_; clear hg_ hnew_; (first | rw [← Ny253.out] at ho51 | (simp only [Int.reduceToNat] at ho51; rw [← Ny253.out] at ho51)); replace HO_6 := am_ (Kd.N_elder' (Zaa HO_6) (Kd.R_base ho51) hb); replace HO_7 := am_ (Kd.N_elder' (Zaa HO_7) (Kd.R_base ho51) hb); replace HL250_0 := am_ (Kd.V_elder' (Zam HL250_0) (Kd.R_base ho51) hb); replace HO255 := am_ (Kd.R_lower (Kd.R_new' (Kd.R_newM (M := fun k_ => (w.heap.size ≤ k_)) ho51 (below_size (Zh GE229)) (fun k_ h_ => h_)) (Kd.R_lt (Zr HO_10))) (below_size (Zh GE229))); replace HO_10 := am_ (Kd.R_elder' (Zr HO_10) (Kd.R_base ho51) hb); replace BK229 := (bkZ BK229 hb); replace HR250_0 := am_ (Kd.C_below (Zad HR250_0) hb); replace HB := (bsZ (Zh GE229) hb); clear hb ho51; obtain ⟨Ao53, co53, eo53⟩ := Kd.R_slice HO255.out; subst eo53) | ((with_reducible refine gate_builtin (b := .append) (xs := #[.tmp 66, .tmp 74]) rfl ?_); at_builtin; refine Kd.N_append (Kd.slice 2 (Kd.int .i64)) (w0 := w) w.heap.size rfl (.tmp 66) (.tmp 74) 28 47 (.slice none 0 0) 24 rfl Try.underlying28 info47 rfl (by decide) (by omega) u7 x7_2 y253 [.slice Ao53 y253.length co53] (fun k_ => (w.heap.size ≤ k_) ∧ some k_ ≠ (.slice (some ad250) t232.length co24 : Value).ownBlock ∧ some k_ ≠ (.slice (some ad249) t246.length co49 : Value).ownBlock ∧ k_ ≠ gb229) (fun k_ => ((fun k_ => (w.heap.size ≤ k_) ∧ some k_ ≠ (.slice (some ad250) t232.length co24 : Value).ownBlock ∧ some k_ ≠ (.slice (some ad249) t246.length co49 : Value).ownBlock ∧ k_ ≠ gb229)) k_ ∧ some k_ ≠ (u7 : Value).ownBlock) rfl rfl ?aP (fun _ hk => hk) ?aF ?aO ?aB ?aS ?aL ?_; (case aP => exact (Kd.FK_slice_mk (Kd.R_reads' (Kd.R_mono (ok' := (fun k_ => ((fun k_ => (w.heap.size ≤ k_) ∧ some k_ ≠ (.slice (some ad250) t232.length co24 : Value).ownBlock ∧ some k_ ≠ (.slice (some ad249) t246.length co49 : Value).ownBlock ∧ k_ ≠ gb229)) k_ ∧ some k_ ≠ (u7 : Value).ownBlock)) (Kd.R_types (Kd.R_apart' (Kd.R_apart' (HO255.out) (Kd.N_typed HO_6.out) (by decide)) (Kd.N_typed HO_7.out) (by decide)) BK229.out (by decide)) (fun k_ hk => ⟨⟨hk.1.1.1.1.1, ⟨hk.1.1.2, ⟨hk.1.1.1.2, hk.2⟩⟩⟩, hk.1.2⟩))).2.1 (Kd.R_F (Kd.R_mono (ok' := (fun k_ => ((fun k_ => (w.heap.size ≤ k_) ∧ some k_ ≠ (.slice (some ad250) t232.length co24 : Value).ownBlock ∧ some k_ ≠ (.slice (some ad249) t246.length co49 : Value).ownBlock ∧ k_ ≠ gb229)) k_ ∧ some k_ ≠ (u7 : Value).ownBlock)) (Kd.R_types (Kd.R_apart' (Kd.R_apart' (HO255.out) (Kd.N_typed HO_6.out) (by decide)) (Kd.N_typed HO_7.out) (by decide)) BK229.out (by decide)) (fun k_ hk => ⟨⟨hk.1.1.1.1.1, ⟨hk.1.1.2, ⟨hk.1.1.1.2, hk.2⟩⟩⟩, hk.1.2⟩))))); (case aB => exact (Zh GE229)); (case aF => exact (fun k_ hk => ⟨(Nat.le_trans (below_size (Zh GE229)) hk), Kd.fresh' (Kd.N_lt (Zaa HO_6)) k_ hk, Kd.fresh' (Kd.R_lt (Zr HO_10)) k_ hk, Kd.freshB (g := gb229) (b0Z BK229) k_ hk⟩)); (case aO => exact (Zan HO_7)); (case aS => exact (below_size (Zh GE229))); (case aL => have := LMc34.out; omega); intro v257 w52 ho hb hg hat; rw [← Ny256.out] at ho; replace HO_6 := am_ (Kd.N_afterv (ok := (fun k_ => (w.heap.size ≤ k_) ∧ some k_ ≠ (.slice (some ad249) t246.length co49 : Value).ownBlock ∧ some k_ ≠ (.slice Ao53 y253.length co53 : Value).ownBlock ∧ k_ ≠ gb229)) (Zao HO_6) hg hat); replace HO_10 := am_ (Kd.R_over' (Zr HO_10) (Kd.N_typed (Zaa HO_7)) (by decide) hg); replace BK229 := am_ (blk_grown (g := gb229) (b0Z BK229) hg (Kd.N_ne HO_7.out BK229.out (by decide))); replace HL250_0 := am_ (Kd.V_afterv (ok := (fun k_ => (w.heap.size ≤ k_) ∧ some k_ ≠ (.slice (some ad250) t232.length co24 : Value).ownBlock ∧ some k_ ≠ (.slice (some ad249) t246.length co49 : Value).ownBlock ∧ some k_ ≠ (.slice Ao53 y253.length co53 : Value).ownBlock ∧ k_ ≠ gb229)) (Zap HL250_0) hg hat); replace HB := am_ (hb); replace HO258 := am_ (ho); clear HO_7 HO255; clear ho hb hg hat; have p260 : 0 ≤ (1 : Int) := (by omega); have q260 : 1 < ((rd_L5 t232 (rd t246 x12_2)).length : Int) := of_decide_eq_true Zc; obtain ⟨ad260, e260, hx260_0⟩ := Kd.at_int ((Kd.V_reads' HL250_0.out).2.2) 1 p260 q260; obtain rfl : ad251 = ad260 := (by injection e260); (try simp only [show (1 : Int).toNat = 1 from rfl, Nat.reduceMul, Nat.reduceEqDiff, Go.Addr.add, ↓reduceIte] at hx260_0); have qi260 : (1 < (rd_L5 t232 (rd t246 x12_2)).length) = True := eq_true (by omega); (try rw [show ((1 : Int)).toNat = 1 from rfl] at hx260_0); replace p260 := eq_true p260; replace q260 := eq_true q260))
                    go_roundg k2
                    case measure => have := HK1.out; have := HK2.out; omega
                    case rel => exact ⟨(y256), (x11_2), (wrap64 (x12_2 + 1)), Za, Za, H', ⟨Zac⟩, ⟨(Zaq HO_6)⟩, ⟨(Zaa HO258)⟩, ⟨(Zaj HO_10)⟩, ⟨(Zq BK229)⟩, ⟨(Zh GE229)⟩⟩
                  ·exact nN c42 H
                ·exact nN c34 H
               ·rw [if_neg c33] at H
                have c33b0 : decide (a1 ≤ (wrap64 ((wrap64 ((rd (rd_L5 t232 (rd t246 x12_2)) 0) - x11_2)) - 1))) = false := decide_eq_false c33; clear c33
                by_cases c54 : x12_2 = 0
                ·rw [if_pos c54] at H
                 have c54b0 := beq_iff_eq.mpr c54; have c54b1 := bne_eq_false_iff_eq.mpr c54; clear c54
                 by_cases c55 : 1 < ((rd_L5 t232 (rd t246 x12_2)).length : Int)
                 ·rw [if_pos c55] at H
                  have c55b0 := decide_eq_true c55; have c55b1 : decide (1 < (rd_L5 t232 (rd t246 x12_2)).length) = true := decide_eq_true (by omega); clear c55; have H' := am_ H; clear H; obtain ⟨Ao56, co56, eo56⟩ := Kd.R_slice HO_10.out; subst eo56; have p249 : 0 ≤ (x12_2 : Int) := of_decide_eq_true Zc; have q249 : x12_2 < (t246.length : Int) := of_decide_eq_true Zc; obtain ⟨ad249, e249, hx249_0⟩ := Kd.at_int (Kd.R_reads' HO_10.out).2.2 x12_2 p249 q249
                  cases e249
                  replace p249 := eq_true p249; replace q249 := eq_true q249; have p250 : 0 ≤ ((rd t246 x12_2) : Int) := of_decide_eq_true Zc; have q250 : (rd t246 x12_2) < (t232.length : Int) := of_decide_eq_true Zc; obtain ⟨ad250, A250_0, c250_0, e250, hx250_0, hl250_0, hi250_0⟩ := at_L5 (Kd.N_reads' HO_6.out).2.2 (rd t246 x12_2) p250 q250
                  cases e250
                  obtain ⟨ce250, hce250, hMe250, hcc250⟩ := Kd.N_get HO_6.out [] (rd t246 x12_2) p250 (Zal HO_6); obtain ⟨ua250_0, uc250_0, rfl, ul250_0, ge250_0⟩ := Kd.FK_slice_open hMe250; have hv250_0 := hcc250 0 _ rfl; rw [Nat.add_zero, show ((Kd.slice 2 (Kd.int .i64))).sz = 1 from rfl, Nat.mul_one] at hv250_0; replace hv250_0 := Option.some.inj (hv250_0.symm.trans hx250_0); injection hv250_0 with hva_ hvn_ hvc_; rw [hva_] at ge250_0; rw [hvc_] at ul250_0; have HL250_0 := am_ (show Kd.V (Kd.int .i64) 2 _ w.heap.size _ _ (rd_L5 t232 (rd t246 x12_2)) from Kd.V_mk ul250_0 ge250_0); clear hva_ hvn_ hvc_ ge250_0 ul250_0; clear hcc250 hce250; have HR250_0 := am_ hi250_0; have HC250_0 := am_ hl250_0; clear hi250_0 hl250_0; replace p250 := eq_true p250; replace q250 := eq_true q250; have p251 : 0 ≤ (0 : Int) := (by omega); have q251 : 0 < ((rd_L5 t232 (rd t246 x12_2)).length : Int) := of_decide_eq_true Zc; obtain ⟨ad251, e251, hx251_0⟩ := Kd.at_int (Zad HR250_0) 0 p251 q251
                  cases e251
                  have qi251 : (0 < (rd_L5 t232 (rd t246 x12_2)).length) = True := eq_true (by omega)
                  (try rw [show ((0 : Int)).toNat = 0 from rfl] at hx251_0)
                  (try rw [Addr.add_zero'] at hx251_0)
                  replace p251 := eq_true p251; replace q251 := eq_true q251; have p262 : 0 ≤ (1 : Int) := (by omega); have q262 : 1 < ((rd_L5 t232 (rd t246 x12_2)).length : Int) := of_decide_eq_true Zc; obtain ⟨ad262, e262, hx262_0⟩ := Kd.at_int (Zad HR250_0) 1 p262 q262; obtain rfl : ad251 = ad262 := (by injection e262)
                  (try simp only [show (1 : Int).toNat = 1 from rfl, Nat.reduceMul, Nat.reduceEqDiff, Go.Addr.add, ↓reduceIte] at hx262_0)
                  have qi262 : (1 < (rd_L5 t232 (rd t246 x12_2)).length) = True := eq_true (by omega)
                  (try rw [show ((1 : Int)).toNat = 1 from rfl] at hx262_0)
                  replace p262 := eq_true p262; replace q262 := eq_true q262
                  go_wp2
                  go_roundg k2
                  case measure => have := HK1.out; have := HK2.out; omega
                  case rel => exact ⟨(x7_2), (rd (rd_L5 t232 (rd t246 x12_2)) 1), (wrap64 (x12_2 + 1)), Za, Za, H', ⟨Zac⟩, ⟨(Zaa HO_6)⟩, ⟨(Zaa HO_7)⟩, ⟨(Zr HO_10)⟩, ⟨(Zq BK229)⟩, ⟨(Zh GE229)⟩⟩
                 ·exact nN c55 H
                ·rw [if_neg c54] at H
                 have c54b0 := beq_eq_false_iff_ne.mpr c54; have c54b1 := bne_iff_ne.mpr c54
                 by_cases c57 : 1 < ((rd_L5 t232 (rd t246 x12_2)).length : Int)
                 ·rw [if_pos c57] at H
                  have c57b0 := decide_eq_true c57; have c57b1 : decide (1 < (rd_L5 t232 (rd t246 x12_2)).length) = true := decide_eq_true (by omega); clear c57
                  by_cases c58 : (rd (rd_L5 t232 (rd t246 x12_2)) 1) > x11_2
                  ·rw [if_pos c58] at H
                   have c58b0 : decide (x11_2 < (rd (rd_L5 t232 (rd t246 x12_2)) 1)) = true := decide_eq_true c58; clear c58; have H' := am_ H; clear H; obtain ⟨Ao59, co59, eo59⟩ := Kd.R_slice HO_10.out; subst eo59; have p249 : 0 ≤ (x12_2 : Int) := of_decide_eq_true Zc; have q249 : x12_2 < (t246.length : Int) := of_decide_eq_true Zc; obtain ⟨ad249, e249, hx249_0⟩ := Kd.at_int (Kd.R_reads' HO_10.out).2.2 x12_2 p249 q249
                   cases e249
                   replace p249 := eq_true p249; replace q249 := eq_true q249; have p250 : 0 ≤ ((rd t246 x12_2) : Int) := of_decide_eq_true Zc; have q250 : (rd t246 x12_2) < (t232.length : Int) := of_decide_eq_true Zc; obtain ⟨ad250, A250_0, c250_0, e250, hx250_0, hl250_0, hi250_0⟩ := at_L5 (Kd.N_reads' HO_6.out).2.2 (rd t246 x12_2) p250 q250
                   cases e250
                   obtain ⟨ce250, hce250, hMe250, hcc250⟩ := Kd.N_get HO_6.out [] (rd t246 x12_2) p250 (Zal HO_6); obtain ⟨ua250_0, uc250_0, rfl, ul250_0, ge250_0⟩ := Kd.FK_slice_open hMe250; have hv250_0 := hcc250 0 _ rfl; rw [Nat.add_zero, show ((Kd.slice 2 (Kd.int .i64))).sz = 1 from rfl, Nat.mul_one] at hv250_0; replace hv250_0 := Option.some.inj (hv250_0.symm.trans hx250_0); injection hv250_0 with hva_ hvn_ hvc_; rw [hva_] at ge250_0; rw [hvc_] at ul250_0; have HL250_0 := am_ (show Kd.V (Kd.int .i64) 2 _ w.heap.size _ _ (rd_L5 t232 (rd t246 x12_2)) from Kd.V_mk ul250_0 ge250_0); clear hva_ hvn_ hvc_ ge250_0 ul250_0; clear hcc250 hce250; have HR250_0 := am_ hi250_0; have HC250_0 := am_ hl250_0; clear hi250_0 hl250_0; replace p250 := eq_true p250; replace q250 := eq_true q250; have p251 : 0 ≤ (0 : Int) := (by omega); have q251 : 0 < ((rd_L5 t232 (rd t246 x12_2)).length : Int) := of_decide_eq_true Zc; obtain ⟨ad251, e251, hx251_0⟩ := Kd.at_int (Zad HR250_0) 0 p251 q251
                   cases e251
                   have qi251 : (0 < (rd_L5 t232 (rd t246 x12_2)).length) = True := eq_true (by omega)
                   (try rw [show ((0 : Int)).toNat = 0 from rfl] at hx251_0)
                   (try rw [Addr.add_zero'] at hx251_0)
                   replace p251 := eq_true p251; replace q251 := eq_true q251; have p263 : 0 ≤ (1 : Int) := (by omega); have q263 : 1 < ((rd_L5 t232 (rd t246 x12_2)).length : Int) := of_decide_eq_true Zc; obtain ⟨ad263, e263, hx263_0⟩ := Kd.at_int (Zad HR250_0) 1 p263 q263; obtain rfl : ad251 = ad263 := (by injection e263)
                   (try simp only [show (1 : Int).toNat = 1 from rfl, Nat.reduceMul, Nat.reduceEqDiff, Go.Addr.add, ↓reduceIte] at hx263_0)
                   have qi263 : (1 < (rd_L5 t232 (rd t246 x12_2)).length) = True := eq_true (by omega)
                   (try rw [show ((1 : Int)).toNat = 1 from rfl] at hx263_0)
                   replace p263 := eq_true p263; replace q263 := eq_true q263; have p264 : 0 ≤ (1 : Int) := (by omega); have q264 : 1 < ((rd_L5 t232 (rd t246 x12_2)).length : Int) := of_decide_eq_true Zc; obtain ⟨ad264, e264, hx264_0⟩ := Kd.at_int (Zad HR250_0) 1 p264 q264; obtain rfl : ad251 = ad264 := (by injection e264)
                   (try simp only [show (1 : Int).toNat = 1 from rfl, Nat.reduceMul, Nat.reduceEqDiff, Go.Addr.add, ↓reduceIte] at hx264_0)
                   have qi264 : (1 < (rd_L5 t232 (rd t246 x12_2)).length) = True := eq_true (by omega)
                   (try rw [show ((1 : Int)).toNat = 1 from rfl] at hx264_0)
                   replace p264 := eq_true p264; replace q264 := eq_true q264
                   go_wp2
                   go_roundg k2
                   case measure => have := HK1.out; have := HK2.out; omega
                   case rel => exact ⟨(x7_2), (rd (rd_L5 t232 (rd t246 x12_2)) 1), (wrap64 (x12_2 + 1)), Za, Za, H', ⟨Zac⟩, ⟨(Zaa HO_6)⟩, ⟨(Zaa HO_7)⟩, ⟨(Zr HO_10)⟩, ⟨(Zq BK229)⟩, ⟨(Zh GE229)⟩⟩
                  ·rw [if_neg c58] at H
                   have c58b0 : decide (x11_2 < (rd (rd_L5 t232 (rd t246 x12_2)) 1)) = false := decide_eq_false c58; clear c58; have H' := am_ H; clear H; obtain ⟨Ao60, co60, eo60⟩ := Kd.R_slice HO_10.out; subst eo60; have p249 : 0 ≤ (x12_2 : Int) := of_decide_eq_true Zc; have q249 : x12_2 < (t246.length : Int) := of_decide_eq_true Zc; obtain ⟨ad249, e249, hx249_0⟩ := Kd.at_int (Kd.R_reads' HO_10.out).2.2 x12_2 p249 q249
                   cases e249
                   replace p249 := eq_true p249; replace q249 := eq_true q249; have p250 : 0 ≤ ((rd t246 x12_2) : Int) := of_decide_eq_true Zc; have q250 : (rd t246 x12_2) < (t232.length : Int) := of_decide_eq_true Zc; obtain ⟨ad250, A250_0, c250_0, e250, hx250_0, hl250_0, hi250_0⟩ := at_L5 (Kd.N_reads' HO_6.out).2.2 (rd t246 x12_2) p250 q250
                   cases e250
                   obtain ⟨ce250, hce250, hMe250, hcc250⟩ := Kd.N_get HO_6.out [] (rd t246 x12_2) p250 (Zal HO_6); obtain ⟨ua250_0, uc250_0, rfl, ul250_0, ge250_0⟩ := Kd.FK_slice_open hMe250; have hv250_0 := hcc250 0 _ rfl; rw [Nat.add_zero, show ((Kd.slice 2 (Kd.int .i64))).sz = 1 from rfl, Nat.mul_one] at hv250_0; replace hv250_0 := Option.some.inj (hv250_0.symm.trans hx250_0); injection hv250_0 with hva_ hvn_ hvc_; rw [hva_] at ge250_0; rw [hvc_] at ul250_0; have HL250_0 := am_ (show Kd.V (Kd.int .i64) 2 _ w.heap.size _ _ (rd_L5 t232 (rd t246 x12_2)) from Kd.V_mk ul250_0 ge250_0); clear hva_ hvn_ hvc_ ge250_0 ul250_0; clear hcc250 hce250; have HR250_0 := am_ hi250_0; have HC250_0 := am_ hl250_0; clear hi250_0 hl250_0; replace p250 := eq_true p250; replace q250 := eq_true q250; have p251 : 0 ≤ (0 : Int) := (by omega); have q251 : 0 < ((rd_L5 t232 (rd t246 x12_2)).length : Int) := of_decide_eq_true Zc; obtain ⟨ad251, e251, hx251_0⟩ := Kd.at_int (Zad HR250_0) 0 p251 q251
                   cases e251
                   have qi251 : (0 < (rd_L5 t232 (rd t246 x12_2)).length) = True := eq_true (by omega)
                   (try rw [show ((0 : Int)).toNat = 0 from rfl] at hx251_0)
                   (try rw [Addr.add_zero'] at hx251_0)
                   replace p251 := eq_true p251; replace q251 := eq_true q251; have p263 : 0 ≤ (1 : Int) := (by omega); have q263 : 1 < ((rd_L5 t232 (rd t246 x12_2)).length : Int) := of_decide_eq_true Zc; obtain ⟨ad263, e263, hx263_0⟩ := Kd.at_int (Zad HR250_0) 1 p263 q263; obtain rfl : ad251 = ad263 := (by injection e263)
                   (try simp only [show (1 : Int).toNat = 1 from rfl, Nat.reduceMul, Nat.reduceEqDiff, Go.Addr.add, ↓reduceIte] at hx263_0)
                   have qi263 : (1 < (rd_L5 t232 (rd t246 x12_2)).length) = True := eq_true (by omega)
                   (try rw [show ((1 : Int)).toNat = 1 from rfl] at hx263_0)
                   replace p263 := eq_true p263; replace q263 := eq_true q263
                   go_wp2
                   go_roundg k2
                   case measure => have := HK1.out; have := HK2.out; omega
                   case rel => exact ⟨(x7_2), (x11_2), (wrap64 (x12_2 + 1)), Za, Za, H', ⟨Zac⟩, ⟨(Zaa HO_6)⟩, ⟨(Zaa HO_7)⟩, ⟨(Zr HO_10)⟩, ⟨(Zq BK229)⟩, ⟨(Zh GE229)⟩⟩
                 ·exact nN c57 H
              ·exact nN c32 H
             ·rw [if_neg c31] at H
              have c31b0 : decide (0 < x12_2) = false := decide_eq_false c31; clear c31
              by_cases c61 : x12_2 = 0
              ·rw [if_pos c61] at H
               have c61b0 := beq_iff_eq.mpr c61; have c61b1 := bne_eq_false_iff_eq.mpr c61; clear c61
               by_cases c62 : 1 < ((rd_L5 t232 (rd t246 x12_2)).length : Int)
               ·rw [if_pos c62] at H
                have c62b0 := decide_eq_true c62; have c62b1 : decide (1 < (rd_L5 t232 (rd t246 x12_2)).length) = true := decide_eq_true (by omega); clear c62; have H' := am_ H; clear H; obtain ⟨Ao63, co63, eo63⟩ := Kd.R_slice HO_10.out; subst eo63; have p249 : 0 ≤ (x12_2 : Int) := of_decide_eq_true Zc; have q249 : x12_2 < (t246.length : Int) := of_decide_eq_true Zc; obtain ⟨ad249, e249, hx249_0⟩ := Kd.at_int (Kd.R_reads' HO_10.out).2.2 x12_2 p249 q249
                cases e249
                replace p249 := eq_true p249; replace q249 := eq_true q249; have p250 : 0 ≤ ((rd t246 x12_2) : Int) := of_decide_eq_true Zc; have q250 : (rd t246 x12_2) < (t232.length : Int) := of_decide_eq_true Zc; obtain ⟨ad250, A250_0, c250_0, e250, hx250_0, hl250_0, hi250_0⟩ := at_L5 (Kd.N_reads' HO_6.out).2.2 (rd t246 x12_2) p250 q250
                cases e250
                obtain ⟨ce250, hce250, hMe250, hcc250⟩ := Kd.N_get HO_6.out [] (rd t246 x12_2) p250 (Zal HO_6); obtain ⟨ua250_0, uc250_0, rfl, ul250_0, ge250_0⟩ := Kd.FK_slice_open hMe250; have hv250_0 := hcc250 0 _ rfl; rw [Nat.add_zero, show ((Kd.slice 2 (Kd.int .i64))).sz = 1 from rfl, Nat.mul_one] at hv250_0; replace hv250_0 := Option.some.inj (hv250_0.symm.trans hx250_0); injection hv250_0 with hva_ hvn_ hvc_; rw [hva_] at ge250_0; rw [hvc_] at ul250_0; have HL250_0 := am_ (show Kd.V (Kd.int .i64) 2 _ w.heap.size _ _ (rd_L5 t232 (rd t246 x12_2)) from Kd.V_mk ul250_0 ge250_0); clear hva_ hvn_ hvc_ ge250_0 ul250_0; clear hcc250 hce250; have HR250_0 := am_ hi250_0; have HC250_0 := am_ hl250_0; clear hi250_0 hl250_0; replace p250 := eq_true p250; replace q250 := eq_true q250; have p265 : 0 ≤ (1 : Int) := (by omega); have q265 : 1 < ((rd_L5 t232 (rd t246 x12_2)).length : Int) := of_decide_eq_true Zc; obtain ⟨ad265, e265, hx265_0⟩ := Kd.at_int (Zad HR250_0) 1 p265 q265
                cases e265
                (try simp only [show (1 : Int).toNat = 1 from rfl, Nat.reduceMul, Nat.reduceEqDiff, Go.Addr.add, ↓reduceIte] at hx265_0)
                have qi265 : (1 < (rd_L5 t232 (rd t246 x12_2)).length) = True := eq_true (by omega)
                (try rw [show ((1 : Int)).toNat = 1 from rfl] at hx265_0)
                replace p265 := eq_true p265; replace q265 := eq_true q265
                go_wp2
                go_roundg k2
                case measure => have := HK1.out; have := HK2.out; omega
                case rel => exact ⟨(x7_2), (rd (rd_L5 t232 (rd t246 x12_2)) 1), (wrap64 (x12_2 + 1)), Za, Za, H', ⟨Zac⟩, ⟨(Zaa HO_6)⟩, ⟨(Zaa HO_7)⟩, ⟨(Zr HO_10)⟩, ⟨(Zq BK229)⟩, ⟨(Zh GE229)⟩⟩
               ·exact nN c62 H
              ·rw [if_neg c61] at H
               have c61b0 := beq_eq_false_iff_ne.mpr c61; have c61b1 := bne_iff_ne.mpr c61
               by_cases c64 : 1 < ((rd_L5 t232 (rd t246 x12_2)).length : Int)
               ·rw [if_pos c64] at H
                have c64b0 := decide_eq_true c64; have c64b1 : decide (1 < (rd_L5 t232 (rd t246 x12_2)).length) = true := decide_eq_true (by omega); clear c64
                by_cases c65 : (rd (rd_L5 t232 (rd t246 x12_2)) 1) > x11_2
                ·rw [if_pos c65] at H
                 have c65b0 : decide (x11_2 < (rd (rd_L5 t232 (rd t246 x12_2)) 1)) = true := decide_eq_true c65; clear c65; have H' := am_ H; clear H; obtain ⟨Ao66, co66, eo66⟩ := Kd.R_slice HO_10.out; subst eo66; have p249 : 0 ≤ (x12_2 : Int) := of_decide_eq_true Zc; have q249 : x12_2 < (t246.length : Int) := of_decide_eq_true Zc; obtain ⟨ad249, e249, hx249_0⟩ := Kd.at_int (Kd.R_reads' HO_10.out).2.2 x12_2 p249 q249
                 cases e249
                 replace p249 := eq_true p249; replace q249 := eq_true q249; have p250 : 0 ≤ ((rd t246 x12_2) : Int) := of_decide_eq_true Zc; have q250 : (rd t246 x12_2) < (t232.length : Int) := of_decide_eq_true Zc; obtain ⟨ad250, A250_0, c250_0, e250, hx250_0, hl250_0, hi250_0⟩ := at_L5 (Kd.N_reads' HO_6.out).2.2 (rd t246 x12_2) p250 q250
                 cases e250
                 obtain ⟨ce250, hce250, hMe250, hcc250⟩ := Kd.N_get HO_6.out [] (rd t246 x12_2) p250 (Zal HO_6); obtain ⟨ua250_0, uc250_0, rfl, ul250_0, ge250_0⟩ := Kd.FK_slice_open hMe250; have hv250_0 := hcc250 0 _ rfl; rw [Nat.add_zero, show ((Kd.slice 2 (Kd.int .i64))).sz = 1 from rfl, Nat.mul_one] at hv250_0; replace hv250_0 := Option.some.inj (hv250_0.symm.trans hx250_0); injection hv250_0 with hva_ hvn_ hvc_; rw [hva_] at ge250_0; rw [hvc_] at ul250_0; have HL250_0 := am_ (show Kd.V (Kd.int .i64) 2 _ w.heap.size _ _ (rd_L5 t232 (rd t246 x12_2)) from Kd.V_mk ul250_0 ge250_0); clear hva_ hvn_ hvc_ ge250_0 ul250_0; clear hcc250 hce250; have HR250_0 := am_ hi250_0; have HC250_0 := am_ hl250_0; clear hi250_0 hl250_0; replace p250 := eq_true p250; replace q250 := eq_true q250; have p266 : 0 ≤ (1 : Int) := (by omega); have q266 : 1 < ((rd_L5 t232 (rd t246 x12_2)).length : Int) := of_decide_eq_true Zc; obtain ⟨ad266, e266, hx266_0⟩ := Kd.at_int (Zad HR250_0) 1 p266 q266
                 cases e266
                 (try simp only [show (1 : Int).toNat = 1 from rfl, Nat.reduceMul, Nat.reduceEqDiff, Go.Addr.add, ↓reduceIte] at hx266_0)
                 have qi266 : (1 < (rd_L5 t232 (rd t246 x12_2)).length) = True := eq_true (by omega)
                 (try rw [show ((1 : Int)).toNat = 1 from rfl] at hx266_0)
                 replace p266 := eq_true p266; replace q266 := eq_true q266; have p267 : 0 ≤ (1 : Int) := (by omega); have q267 : 1 < ((rd_L5 t232 (rd t246 x12_2)).length : Int) := of_decide_eq_true Zc; obtain ⟨ad267, e267, hx267_0⟩ := Kd.at_int (Zad HR250_0) 1 p267 q267; obtain rfl : ad266 = ad267 := (by injection e267)
                 (try simp only [show (1 : Int).toNat = 1 from rfl, Nat.reduceMul, Nat.reduceEqDiff, Go.Addr.add, ↓reduceIte] at hx267_0)
                 have qi267 : (1 < (rd_L5 t232 (rd t246 x12_2)).length) = True := eq_true (by omega)
                 (try rw [show ((1 : Int)).toNat = 1 from rfl] at hx267_0)
                 replace p267 := eq_true p267; replace q267 := eq_true q267
                 go_wp2
                 go_roundg k2
                 case measure => have := HK1.out; have := HK2.out; omega
                 case rel => exact ⟨(x7_2), (rd (rd_L5 t232 (rd t246 x12_2)) 1), (wrap64 (x12_2 + 1)), Za, Za, H', ⟨Zac⟩, ⟨(Zaa HO_6)⟩, ⟨(Zaa HO_7)⟩, ⟨(Zr HO_10)⟩, ⟨(Zq BK229)⟩, ⟨(Zh GE229)⟩⟩
                ·rw [if_neg c65] at H
                 have c65b0 : decide (x11_2 < (rd (rd_L5 t232 (rd t246 x12_2)) 1)) = false := decide_eq_false c65; clear c65; have H' := am_ H; clear H; obtain ⟨Ao67, co67, eo67⟩ := Kd.R_slice HO_10.out; subst eo67; have p249 : 0 ≤ (x12_2 : Int) := of_decide_eq_true Zc; have q249 : x12_2 < (t246.length : Int) := of_decide_eq_true Zc; obtain ⟨ad249, e249, hx249_0⟩ := Kd.at_int (Kd.R_reads' HO_10.out).2.2 x12_2 p249 q249
                 cases e249
                 replace p249 := eq_true p249; replace q249 := eq_true q249; have p250 : 0 ≤ ((rd t246 x12_2) : Int) := of_decide_eq_true Zc; have q250 : (rd t246 x12_2) < (t232.length : Int) := of_decide_eq_true Zc; obtain ⟨ad250, A250_0, c250_0, e250, hx250_0, hl250_0, hi250_0⟩ := at_L5 (Kd.N_reads' HO_6.out).2.2 (rd t246 x12_2) p250 q250
                 cases e250
                 obtain ⟨ce250, hce250, hMe250, hcc250⟩ := Kd.N_get HO_6.out [] (rd t246 x12_2) p250 (Zal HO_6); obtain ⟨ua250_0, uc250_0, rfl, ul250_0, ge250_0⟩ := Kd.FK_slice_open hMe250; have hv250_0 := hcc250 0 _ rfl; rw [Nat.add_zero, show ((Kd.slice 2 (Kd.int .i64))).sz = 1 from rfl, Nat.mul_one] at hv250_0; replace hv250_0 := Option.some.inj (hv250_0.symm.trans hx250_0); injection hv250_0 with hva_ hvn_ hvc_; rw [hva_] at ge250_0; rw [hvc_] at ul250_0; have HL250_0 := am_ (show Kd.V (Kd.int .i64) 2 _ w.heap.size _ _ (rd_L5 t232 (rd t246 x12_2)) from Kd.V_mk ul250_0 ge250_0); clear hva_ hvn_ hvc_ ge250_0 ul250_0; clear hcc250 hce250; have HR250_0 := am_ hi250_0; have HC250_0 := am_ hl250_0; clear hi250_0 hl250_0; replace p250 := eq_true p250; replace q250 := eq_true q250; have p266 : 0 ≤ (1 : Int) := (by omega); have q266 : 1 < ((rd_L5 t232 (rd t246 x12_2)).length : Int) := of_decide_eq_true Zc; obtain ⟨ad266, e266, hx266_0⟩ := Kd.at_int (Zad HR250_0) 1 p266 q266
                 cases e266
                 (try simp only [show (1 : Int).toNat = 1 from rfl, Nat.reduceMul, Nat.reduceEqDiff, Go.Addr.add, ↓reduceIte] at hx266_0)
                 have qi266 : (1 < (rd_L5 t232 (rd t246 x12_2)).length) = True := eq_true (by omega)
                 (try rw [show ((1 : Int)).toNat = 1 from rfl] at hx266_0)
                 replace p266 := eq_true p266; replace q266 := eq_true q266
                 go_wp2
                 go_roundg k2
                 case measure => have := HK1.out; have := HK2.out; omega
                 case rel => exact ⟨(x7_2), (x11_2), (wrap64 (x12_2 + 1)), Za, Za, H', ⟨Zac⟩, ⟨(Zaa HO_6)⟩, ⟨(Zaa HO_7)⟩, ⟨(Zr HO_10)⟩, ⟨(Zq BK229)⟩, ⟨(Zh GE229)⟩⟩
               ·exact nN c64 H
            ·exact nN c30 H
           ·exact nN c29 H
          ·exact nN c28 H
         ·rw [if_neg c27] at H
          have c27b0 := decide_eq_false c27; clear c27; simp only [Option.some.injEq, Prod.mk.injEq] at H; obtain ⟨rfl, rfl⟩ := H; obtain ⟨Ao68, co68, eo68⟩ := Kd.R_slice HO_10.out; subst eo68
          go_wp2
          go_ret2
          exact ⟨_, Zg, (Zab HO_7), (Zh GE229)⟩
   ·have H := HS_.out
    clear HS_; replace c6 := Bool.eq_false_iff.mpr c6; subst c6; rw [if_neg fnt_] at H; simp only [Option.some.injEq, Prod.mk.injEq] at H; obtain ⟨rfl, rfl⟩ := H
    go_wp2_with (first | ((with_reducible refine gate_callee (f := 24) rfl ?_); refine gZ 18 Try.func24 #[.int .i64 a1, .int .i64 1, .int .i64 10000000] ?_; (with_reducible refine (spec_l01In.calls a1 1 10000000 false _ A5.out).mono ?_); rintro e w' ⟨rfl, ⟨nd, rfl⟩⟩; refine ⟨_, rfl, ?_⟩))
    go_ret2
    exact ⟨_, Zg, Zar, (Zh GE229)⟩
  ·have H := HS_.out
   clear HS_; replace c4 := Bool.eq_false_iff.mpr c4; subst c4; rw [if_neg fnt_] at H; simp only [Option.some.injEq, Prod.mk.injEq] at H; obtain ⟨rfl, rfl⟩ := H
   go_wp2_with (first | fail)
   go_ret2
   exact ⟨_, Zg, Zar, (Zh GE229)⟩
def impl_within.f (a0 : Int) (a1 : Int) (a2 : Int) : Option (Bool) := if a1 ≤ a0 then (some (decide (a0 ≤ a2))) else (some false)
theorem impl_within.calls (a0 : Int) (a1 : Int) (a2 : Int) (r : Bool) (w : World) (h : impl_within.f a0 a1 a2 = some r) :
  Calls Try.prog 31 #[.int .i64 a0, .int .i64 a1, .int .i64 a2] w fun e w' => e = .returned (.bool r) ∧ Drawn0 w w' := by
 have H : (if a1 ≤ a0 then (some (decide (a0 ≤ a2))) else (some false)) = some r := h; clear h
 by_cases c4 : a1 ≤ a0
 ·rw [if_pos c4] at H
  have c4b0 := decide_eq_true c4; clear c4; obtain rfl := Option.some.inj H
  go_enter Try.func31, Try.ntmps31
  go_wp2
  go_ret
  exact ⟨Za, Zb⟩
 ·rw [if_neg c4] at H
  have c4b0 := decide_eq_false c4; clear c4; obtain rfl := Option.some.inj H
  go_enter Try.func31, Try.ntmps31
  go_wp2
  go_ret
  exact ⟨Za, Zb⟩
mutual
def impl_IsScore.j0 : Nat → List (S87) → Bool → Option (Bool)
 | 0, _, _ => none
 | k + 1, x0, x12 => if x12 = true then (some false) else (impl_IsScore.l0 k x0 (x0.length : Int) 0)
def impl_IsScore.l0 : Nat → List (S87) → Int → Int → Option (Bool)
 | 0, _, _, _ => none
 | k + 1, x13, x14, x15 => if x15 < x14 then (if 0 ≤ x15 then (if x15 < (x13.length : Int) then ((impl_within.f ((rd_T87 x13 x15).f0) 1 16).bind fun t270 => (if t270 = true then ((impl_within.f ((rd_T87 x13 x15).f1) 100 5000).bind fun t271 => (if t271 = true then (impl_IsScore.l0 k x13 x14 (wrap64 (x15 + 1))) else (some false))) else (some false))) else (none)) else (none)) else (some true)
end
def impl_IsScore.f (k : Nat) (l0 : List (S87)) : Option (Bool) := if (l0.length : Int) < 1 then (impl_IsScore.j0 k l0 true) else (impl_IsScore.j0 k l0 (decide ((l0.length : Int) > 20)))
theorem impl_IsScore.calls (k : Nat) (A0 : Option Addr) (c0 : Nat) (l0 : List (S87)) (r : Bool) (w : World) (hr0 : Kd.C k87 w A0 l0.length l0) (hc0 : l0.length ≤ c0) (h : impl_IsScore.f k l0 = some r) :
  Calls Try.prog 62 #[.slice A0 l0.length c0] w fun e w' => e = .returned (.bool r) ∧ Below w.heap.size w w' := by
 have hu87 := Try.underlying87; have HR0 := am_ hr0; have HC0 := am_ hc0; clear hr0 hc0; have HB := am_ (Below.refl w.heap.size w); have H : (if (l0.length : Int) < 1 then (impl_IsScore.j0 k l0 true) else (impl_IsScore.j0 k l0 (decide ((l0.length : Int) > 20)))) = some r := h; clear h; have HC2 := am_ H; clear H
 go_enter Try.func62, Try.ntmps62
 go_upto_region 1 with (fail)
 go_cut [12] (fun v12 wc => ∃ (kq : Nat) (x12_1 : Bool), v12 = .bool x12_1 ∧ Aside0 (impl_IsScore.j0 kq l0 x12_1 = some r) ∧ Aside0 (kq ≤ k) ∧ Aside0 (Below w.heap.size w wc))
 case first =>
  have H := HC2.out; clear HC2
  by_cases c3 : (l0.length : Int) < 1
  ·rw [if_pos c3] at H
   have c3b0 := decide_eq_true c3; have c3b1 : decide (l0.length < 1) = true := decide_eq_true (by omega); clear c3
   (first | rw [c3b0] | (simp only [i64_w, i32_w]; rw [c3b0]) | skip)
   have H' := am_ H; clear H
   go_wp2
   go_meet
   case rel => exact ⟨_, (true), Za, H', ⟨Zp⟩, ⟨Zf⟩⟩
  ·rw [if_neg c3] at H
   have c3b0 := decide_eq_false c3; have c3b1 : decide (l0.length < 1) = false := decide_eq_false (by omega); clear c3
   (first | rw [c3b0] | (simp only [i64_w, i32_w]; rw [c3b0]) | skip)
   have H' := am_ H; clear H
   go_wp2
   go_meet
   case rel => exact ⟨_, (decide ((l0.length : Int) > 20)), Za, H', ⟨Zp⟩, ⟨Zf⟩⟩
 case rest =>
  clear HC2
  try clear p2
  try clear c3
  try clear c3b0
  try clear c3b1
  obtain ⟨kq, x12_1, rfl, HA, HJ1, HB⟩ := hcut
  cases kq with
  | zero => exact absurd HA.out (by simp [impl_IsScore.j0])
  | succ kj1 =>
   have H := HA.out; clear HA; simp only [impl_IsScore.j0] at H
   by_cases c4 : x12_1 = true
   ·subst c4
    rw [if_pos rfl] at H; obtain rfl := Option.some.inj H
    go_wp2
    go_ret
    exact ⟨Zg, Zf⟩
   ·replace c4 := Bool.eq_false_iff.mpr c4
    subst c4; rw [if_neg fnt_] at H; have H' := am_ H; clear H
    go_wp2
    go_loopg [15] kj1 (fun kq v15 w' => ∃ (x15_2 : Int), v15 = .int .i64 x15_2 ∧ Aside0 (impl_IsScore.l0 kq l0 (l0.length : Int) x15_2 = some r) ∧ Aside0 (kq ≤ kj1) ∧ Aside0 (Below w.heap.size w w'))
    case atStart => exact ⟨(0), Za, H', ⟨Nat.le_refl _⟩, ⟨Zf⟩⟩
    case round =>
     clear H'
     try clear p2
     try clear c3
     try clear c3b0
     try clear c3b1
     try clear c4
     try clear p2
     obtain ⟨x15_2, rfl, HA, HK2, HB⟩ := hrel
     cases gk with
     | zero => exact absurd HA.out (by simp [impl_IsScore.l0])
     | succ k2 =>
      have H := HA.out; clear HA; simp only [impl_IsScore.l0] at H
      by_cases c5 : x15_2 < (l0.length : Int)
      ·rw [if_pos c5] at H
       have c5b0 := decide_eq_true c5; clear c5
       by_cases c6 : 0 ≤ x15_2
       ·rw [if_pos c6] at H
        have c6b0 := decide_eq_true c6; clear c6
        by_cases c7 : x15_2 < (l0.length : Int)
        ·rw [if_pos c7] at H
         have c7b0 := decide_eq_true c7; clear c7; obtain ⟨t270, A8, H⟩ := bE_ H; have HS_ := am_ H; clear H; have p268 : 0 ≤ (x15_2 : Int) := of_decide_eq_true Zc; have q268 : x15_2 < (l0.length : Int) := of_decide_eq_true Zc; obtain ⟨ad268, e268, hx268_0, hx268_1⟩ := at_T87 HR0.out x15_2 p268 q268
         cases e268
         replace hx268_0 := cbH HB hx268_0; replace hx268_1 := cbH HB hx268_1; replace p268 := eq_true p268; replace q268 := eq_true q268
         go_wp2_with (first | ((with_reducible refine gate_dst (N := 4) rfl ?_); (try (refine gate_guard (by rfl) ?_; dsimp only)); refine boxZ 4 #[.int .i64 0, .int .i64 0] 87 ?_; intro gb269 hg w12 hbox hb; replace BK269 := am_ (hbox); replace GW269 := am_ ((Ze : w.heap.size ≤ gb269)); replace GE269 := GW269; replace HB := (bsZ Zf hb); clear hb hbox hg; refine ci2 BK269 ?_; intros) | ((with_reducible refine gate_callee (f := 31) rfl ?_); refine gZ 21 Try.func31 #[.int .i64 ((rd_T87 l0 x15_2).f0), .int .i64 1, .int .i64 16] ?_; (with_reducible refine (impl_within.calls ((rd_T87 l0 x15_2).f0) 1 16 t270 _ A8.out).mono ?_); rintro e w' ⟨rfl, ⟨nd, rfl⟩⟩; refine ⟨_, rfl, ?_⟩; refine ?roundEnd))
         case roundEnd =>
          by_cases c9 : t270 = true
          ·have H := HS_.out
           clear HS_; subst c9; rw [if_pos rfl] at H; obtain ⟨t271, A10, H⟩ := bE_ H; have HS_ := am_ H; clear H
           go_wp2_with (first | (go_at_call 31; (with_reducible refine (impl_within.calls ((rd_T87 l0 x15_2).f1) 100 5000 t271 _ A10.out).mono ?_); rintro e w' ⟨rfl, ⟨nd, rfl⟩⟩; refine ?roundEnd))
           case roundEnd =>
            by_cases c11 : t271 = true
            ·have H := HS_.out
             clear HS_; subst c11; rw [if_pos rfl] at H; have H' := am_ H; clear H
             go_wp2_with (first | fail)
             go_roundg k2
             case measure => have := HJ1.out; have := HK2.out; omega
             case rel => exact ⟨(wrap64 (x15_2 + 1)), Za, H', ⟨by have := HJ1.out; have := HK2.out; omega⟩, ⟨(Zh GE269)⟩⟩
            ·have H := HS_.out
             clear HS_; replace c11 := Bool.eq_false_iff.mpr c11; subst c11; rw [if_neg fnt_] at H; obtain rfl := Option.some.inj H
             go_wp2_with (first | fail)
             go_ret
             exact ⟨Zg, (Zh GE269)⟩
          ·have H := HS_.out
           clear HS_; replace c9 := Bool.eq_false_iff.mpr c9; subst c9; rw [if_neg fnt_] at H; obtain rfl := Option.some.inj H
           go_wp2_with (first | fail)
           go_ret
           exact ⟨Zg, (Zh GE269)⟩
        ·exact nN c7 H
       ·exact nN c6 H
      ·rw [if_neg c5] at H
       have c5b0 := decide_eq_false c5; clear c5; obtain rfl := Option.some.inj H
       go_wp2
       go_ret
       exact ⟨Zg, Zf⟩
mutual
def impl_IsWord.j0 : Nat → ByteArray → Bool → Option (Bool)
 | 0, _, _ => none
 | k + 1, x0, x11 => if x11 = true then (some false) else (impl_IsWord.l0 k x0 0)
def impl_IsWord.l0 : Nat → ByteArray → Int → Option (Bool)
 | 0, _, _ => none
 | k + 1, x0, x3 => if x3 < (x0.size : Int) then (if 0 ≤ x3 then (if (bt x0 x3) < 97 then (some false) else (if (bt x0 x3) > 122 then (some false) else (impl_IsWord.l0 k x0 (wrap64 (x3 + 1))))) else (none)) else (some true)
end
def impl_IsWord.f (k : Nat) (a0 : ByteArray) : Option (Bool) := if (a0.size : Int) < 1 then (impl_IsWord.j0 k a0 true) else (impl_IsWord.j0 k a0 (decide ((a0.size : Int) > 16)))
theorem impl_IsWord.calls (k : Nat) (a0 : ByteArray) (r : Bool) (w : World) (h : impl_IsWord.f k a0 = some r) :
  Calls Try.prog 91 #[.string a0] w fun e w' => e = .returned (.bool r) ∧ Drawn0 w w' := by
 have H : (if (a0.size : Int) < 1 then (impl_IsWord.j0 k a0 true) else (impl_IsWord.j0 k a0 (decide ((a0.size : Int) > 16)))) = some r := h; clear h; have HC2 := am_ H; clear H
 go_enter Try.func91, Try.ntmps91
 go_upto_region 1 with (fail)
 go_cut [11] (fun v11 wc => ∃ (kq : Nat) (x11_1 : Bool), v11 = .bool x11_1 ∧ Aside0 (impl_IsWord.j0 kq a0 x11_1 = some r) ∧ Aside0 (kq ≤ k) ∧ Drawn0 w wc)
 case first =>
  have H := HC2.out; clear HC2
  by_cases c3 : (a0.size : Int) < 1
  ·rw [if_pos c3] at H
   have c3b0 := decide_eq_true c3; have c3b1 : decide (a0.size < 1) = true := decide_eq_true (by omega); clear c3
   (first | rw [c3b0] | (simp only [i64_w, i32_w]; rw [c3b0]) | skip)
   have H' := am_ H; clear H
   go_wp2
   go_meet
   case rel => exact ⟨_, (true), Za, H', ⟨Zp⟩, Zb⟩
  ·rw [if_neg c3] at H
   have c3b0 := decide_eq_false c3; have c3b1 : decide (a0.size < 1) = false := decide_eq_false (by omega); clear c3
   (first | rw [c3b0] | (simp only [i64_w, i32_w]; rw [c3b0]) | skip)
   have H' := am_ H; clear H
   go_wp2
   go_meet
   case rel => exact ⟨_, (decide ((a0.size : Int) > 16)), Za, H', ⟨Zp⟩, Zb⟩
 case rest =>
  clear HC2
  try clear p2
  try clear c3
  try clear c3b0
  try clear c3b1
  obtain ⟨kq, x11_1, rfl, HA, HJ1, ⟨mc1, rfl⟩⟩ := hcut
  cases kq with
  | zero => exact absurd HA.out (by simp [impl_IsWord.j0])
  | succ kj1 =>
   have H := HA.out; clear HA; simp only [impl_IsWord.j0] at H
   by_cases c4 : x11_1 = true
   ·subst c4
    rw [if_pos rfl] at H; obtain rfl := Option.some.inj H
    go_wp2
    go_ret
    exact ⟨Za, Zb⟩
   ·replace c4 := Bool.eq_false_iff.mpr c4
    subst c4; rw [if_neg fnt_] at H; have H' := am_ H; clear H
    go_wp2
    go_loopg [3] kj1 (fun kq v3 w' => ∃ (x3_2 : Int), v3 = .int .i64 x3_2 ∧ Aside0 (impl_IsWord.l0 kq a0 x3_2 = some r) ∧ Aside0 (kq ≤ kj1) ∧ Drawn0 w w')
    case atStart => exact ⟨(0), Za, H', ⟨Nat.le_refl _⟩, Zb⟩
    case round =>
     clear H'
     try clear c1
     try clear p2
     try clear c3
     try clear c3b0
     try clear c3b1
     try clear c4
     try clear p2
     obtain ⟨x3_2, rfl, HA, HK2, ⟨m2, rfl⟩⟩ := hrel
     cases gk with
     | zero => exact absurd HA.out (by simp [impl_IsWord.l0])
     | succ k2 =>
      have H := HA.out; clear HA; simp only [impl_IsWord.l0] at H
      by_cases c5 : x3_2 < (a0.size : Int)
      ·rw [if_pos c5] at H
       have c5b0 := decide_eq_true c5; clear c5
       by_cases c6 : 0 ≤ x3_2
       ·rw [if_pos c6] at H
        have c6b0 := decide_eq_true c6; clear c6
        by_cases c8 : (bt a0 x3_2) < 97
        ·rw [if_pos c8] at H
         have c8b0 := decide_eq_true c8; clear c8; obtain rfl := Option.some.inj H; have p7 : 0 ≤ (x3_2 : Int) := of_decide_eq_true Zc; have q7 : x3_2 < (a0.size : Int) := of_decide_eq_true Zc; have hx7 := bt_at a0 x3_2; replace p7 := eq_true p7; replace q7 := eq_true q7
         go_wp2
         go_ret
         exact ⟨Za, Zb⟩
        ·rw [if_neg c8] at H
         have c8b0 := decide_eq_false c8; clear c8
         by_cases c10 : (bt a0 x3_2) > 122
         ·rw [if_pos c10] at H
          have c10b0 : decide (122 < (bt a0 x3_2)) = true := decide_eq_true c10; clear c10; obtain rfl := Option.some.inj H; have p7 : 0 ≤ (x3_2 : Int) := of_decide_eq_true Zc; have q7 : x3_2 < (a0.size : Int) := of_decide_eq_true Zc; have hx7 := bt_at a0 x3_2; replace p7 := eq_true p7; replace q7 := eq_true q7; have p9 : 0 ≤ (x3_2 : Int) := of_decide_eq_true Zc; have q9 : x3_2 < (a0.size : Int) := of_decide_eq_true Zc; have hx9 := bt_at a0 x3_2; replace p9 := eq_true p9; replace q9 := eq_true q9
          go_wp2
          go_ret
          exact ⟨Za, Zb⟩
         ·rw [if_neg c10] at H
          have c10b0 : decide (122 < (bt a0 x3_2)) = false := decide_eq_false c10; clear c10; have H' := am_ H; clear H; have p7 : 0 ≤ (x3_2 : Int) := of_decide_eq_true Zc; have q7 : x3_2 < (a0.size : Int) := of_decide_eq_true Zc; have hx7 := bt_at a0 x3_2; replace p7 := eq_true p7; replace q7 := eq_true q7; have p9 : 0 ≤ (x3_2 : Int) := of_decide_eq_true Zc; have q9 : x3_2 < (a0.size : Int) := of_decide_eq_true Zc; have hx9 := bt_at a0 x3_2; replace p9 := eq_true p9; replace q9 := eq_true q9
          go_wp2
          go_roundg k2
          case measure => have := HJ1.out; have := HK2.out; omega
          case rel => exact ⟨(wrap64 (x3_2 + 1)), Za, H', ⟨by have := HJ1.out; have := HK2.out; omega⟩, Zb⟩
       ·exact nN c6 H
      ·rw [if_neg c5] at H
       have c5b0 := decide_eq_false c5; clear c5; obtain rfl := Option.some.inj H
       go_wp2
       go_ret
       exact ⟨Za, Zb⟩
def impl_IsArticle.f (k : Nat) (a0_0 : ByteArray) (a0_1 : Int) (a0_2 : Int) (a0_3 : Int) (a0_4 : Int) (a0_5 : Int) (a0_6 : Int) (a0_7 : Int) (a0_8 : Int) : Option (Bool) := (impl_IsWord.f k a0_0).bind fun t273 => (if t273 = true then ((impl_within.f a0_1 0 3).bind fun t274 => (if t274 = true then ((impl_within.f a0_2 20 300).bind fun t275 => (if t275 = true then ((impl_within.f a0_3 0 10000).bind fun t276 => (if t276 = true then ((impl_within.f a0_4 0 a0_3).bind fun t277 => (if t277 = true then ((impl_within.f a0_5 1 50).bind fun t278 => (if t278 = true then ((impl_within.f a0_6 0 10000).bind fun t279 => (if t279 = true then ((impl_within.f a0_7 1 100000).bind fun t280 => (if t280 = true then ((impl_within.f a0_8 0 3).bind fun t281 => (some t281)) else (some false))) else (some false))) else (some false))) else (some false))) else (some false))) else (some false))) else (some false))) else (some false))
theorem impl_IsArticle.calls (k : Nat) (a0_0 : ByteArray) (a0_1 : Int) (a0_2 : Int) (a0_3 : Int) (a0_4 : Int) (a0_5 : Int) (a0_6 : Int) (a0_7 : Int) (a0_8 : Int) (r : Bool) (w : World) (h : impl_IsArticle.f k a0_0 a0_1 a0_2 a0_3 a0_4 a0_5 a0_6 a0_7 a0_8 = some r) :
  Calls Try.prog 76 #[.agg #[.string a0_0, .int .i64 a0_1, .int .i64 a0_2, .int .i64 a0_3, .int .i64 a0_4, .int .i64 a0_5, .int .i64 a0_6, .int .i64 a0_7, .int .i64 a0_8]] w fun e w' => e = .returned (.bool r) ∧ Below w.heap.size w w' := by
 have hu91 := Try.underlying91; have HB := am_ (Below.refl w.heap.size w); have H : ((impl_IsWord.f k a0_0).bind fun t273 => (if t273 = true then ((impl_within.f a0_1 0 3).bind fun t274 => (if t274 = true then ((impl_within.f a0_2 20 300).bind fun t275 => (if t275 = true then ((impl_within.f a0_3 0 10000).bind fun t276 => (if t276 = true then ((impl_within.f a0_4 0 a0_3).bind fun t277 => (if t277 = true then ((impl_within.f a0_5 1 50).bind fun t278 => (if t278 = true then ((impl_within.f a0_6 0 10000).bind fun t279 => (if t279 = true then ((impl_within.f a0_7 1 100000).bind fun t280 => (if t280 = true then ((impl_within.f a0_8 0 3).bind fun t281 => (some t281)) else (some false))) else (some false))) else (some false))) else (some false))) else (some false))) else (some false))) else (some false))) else (some false))) = some r := h; clear h; obtain ⟨t273, A2, H⟩ := bE_ H; have HS_ := am_ H; clear H
 go_enter Try.func76, Try.ntmps76
 go_wp2_with (first | ((with_reducible refine gate_dst (N := 1) rfl ?_); refine boxZ 1 #[.string a0_0, .int .i64 a0_1, .int .i64 a0_2, .int .i64 a0_3, .int .i64 a0_4, .int .i64 a0_5, .int .i64 a0_6, .int .i64 a0_7, .int .i64 a0_8] 91 ?_; intro gb272 hg w19 hbox hb; replace BK272 := am_ (hbox); replace GW272 := am_ ((Ze : w.heap.size ≤ gb272)); replace GE272 := GW272; replace HB := (bsZ Zf hb); clear hb hbox hg; refine ci9 BK272 ?_; intros) | ((with_reducible refine gate_callee (f := 91) rfl ?_); refine gZ 5 Try.func91 #[.string a0_0] ?_; (with_reducible refine (impl_IsWord.calls k a0_0 t273 _ A2.out).mono ?_); rintro e w' ⟨rfl, ⟨nd, rfl⟩⟩; refine ⟨_, rfl, ?_⟩; refine ?roundEnd))
 case roundEnd =>
  by_cases c3 : t273 = true
  ·have H := HS_.out
   clear HS_; subst c3; rw [if_pos rfl] at H; obtain ⟨t274, A4, H⟩ := bE_ H; have HS_ := am_ H; clear H
   go_wp2_with (first | (go_at_call 31; (with_reducible refine (impl_within.calls a0_1 0 3 t274 _ A4.out).mono ?_); rintro e w' ⟨rfl, ⟨nd, rfl⟩⟩; refine ?roundEnd))
   case roundEnd =>
    by_cases c5 : t274 = true
    ·have H := HS_.out
     clear HS_; subst c5; rw [if_pos rfl] at H; obtain ⟨t275, A6, H⟩ := bE_ H; have HS_ := am_ H; clear H
     go_wp2_with (first | (go_at_call 31; (with_reducible refine (impl_within.calls a0_2 20 300 t275 _ A6.out).mono ?_); rintro e w' ⟨rfl, ⟨nd, rfl⟩⟩; refine ?roundEnd))
     case roundEnd =>
      by_cases c7 : t275 = true
      ·have H := HS_.out
       clear HS_; subst c7; rw [if_pos rfl] at H; obtain ⟨t276, A8, H⟩ := bE_ H; have HS_ := am_ H; clear H
       go_wp2_with (first | (go_at_call 31; (with_reducible refine (impl_within.calls a0_3 0 10000 t276 _ A8.out).mono ?_); rintro e w' ⟨rfl, ⟨nd, rfl⟩⟩; refine ?roundEnd))
       case roundEnd =>
        by_cases c9 : t276 = true
        ·have H := HS_.out
         clear HS_; subst c9; rw [if_pos rfl] at H; obtain ⟨t277, A10, H⟩ := bE_ H; have HS_ := am_ H; clear H
         go_wp2_with (first | (go_at_call 31; (with_reducible refine (impl_within.calls a0_4 0 a0_3 t277 _ A10.out).mono ?_); rintro e w' ⟨rfl, ⟨nd, rfl⟩⟩; refine ?roundEnd))
         case roundEnd =>
          by_cases c11 : t277 = true
          ·have H := HS_.out
           clear HS_; subst c11; rw [if_pos rfl] at H; obtain ⟨t278, A12, H⟩ := bE_ H; have HS_ := am_ H; clear H
           go_wp2_with (first | (go_at_call 31; (with_reducible refine (impl_within.calls a0_5 1 50 t278 _ A12.out).mono ?_); rintro e w' ⟨rfl, ⟨nd, rfl⟩⟩; refine ?roundEnd))
           case roundEnd =>
            by_cases c13 : t278 = true
            ·have H := HS_.out
             clear HS_; subst c13; rw [if_pos rfl] at H; obtain ⟨t279, A14, H⟩ := bE_ H; have HS_ := am_ H; clear H
             go_wp2_with (first | (go_at_call 31; (with_reducible refine (impl_within.calls a0_6 0 10000 t279 _ A14.out).mono ?_); rintro e w' ⟨rfl, ⟨nd, rfl⟩⟩; refine ?roundEnd))
             case roundEnd =>
              by_cases c15 : t279 = true
              ·have H := HS_.out
               clear HS_; subst c15; rw [if_pos rfl] at H; obtain ⟨t280, A16, H⟩ := bE_ H; have HS_ := am_ H; clear H
               go_wp2_with (first | (go_at_call 31; (with_reducible refine (impl_within.calls a0_7 1 100000 t280 _ A16.out).mono ?_); rintro e w' ⟨rfl, ⟨nd, rfl⟩⟩; refine ?roundEnd))
               case roundEnd =>
                by_cases c17 : t280 = true
                ·have H := HS_.out
                 clear HS_; subst c17; rw [if_pos rfl] at H; obtain ⟨t281, A18, H⟩ := bE_ H; obtain rfl := Option.some.inj H
                 go_wp2_with (first | (go_at_call 31; (with_reducible refine (impl_within.calls a0_8 0 3 t281 _ A18.out).mono ?_); rintro e w' ⟨rfl, ⟨nd, rfl⟩⟩))
                 go_ret
                 exact ⟨Zg, (Zh GE272)⟩
                ·have H := HS_.out
                 clear HS_; replace c17 := Bool.eq_false_iff.mpr c17; subst c17; rw [if_neg fnt_] at H; obtain rfl := Option.some.inj H
                 go_wp2_with (first | fail)
                 go_ret
                 exact ⟨Zg, (Zh GE272)⟩
              ·have H := HS_.out
               clear HS_; replace c15 := Bool.eq_false_iff.mpr c15; subst c15; rw [if_neg fnt_] at H; obtain rfl := Option.some.inj H
               go_wp2_with (first | fail)
               go_ret
               exact ⟨Zg, (Zh GE272)⟩
            ·have H := HS_.out
             clear HS_; replace c13 := Bool.eq_false_iff.mpr c13; subst c13; rw [if_neg fnt_] at H; obtain rfl := Option.some.inj H
             go_wp2_with (first | fail)
             go_ret
             exact ⟨Zg, (Zh GE272)⟩
          ·have H := HS_.out
           clear HS_; replace c11 := Bool.eq_false_iff.mpr c11; subst c11; rw [if_neg fnt_] at H; obtain rfl := Option.some.inj H
           go_wp2_with (first | fail)
           go_ret
           exact ⟨Zg, (Zh GE272)⟩
        ·have H := HS_.out
         clear HS_; replace c9 := Bool.eq_false_iff.mpr c9; subst c9; rw [if_neg fnt_] at H; obtain rfl := Option.some.inj H
         go_wp2_with (first | fail)
         go_ret
         exact ⟨Zg, (Zh GE272)⟩
      ·have H := HS_.out
       clear HS_; replace c7 := Bool.eq_false_iff.mpr c7; subst c7; rw [if_neg fnt_] at H; obtain rfl := Option.some.inj H
       go_wp2_with (first | fail)
       go_ret
       exact ⟨Zg, (Zh GE272)⟩
    ·have H := HS_.out
     clear HS_; replace c5 := Bool.eq_false_iff.mpr c5; subst c5; rw [if_neg fnt_] at H; obtain rfl := Option.some.inj H
     go_wp2_with (first | fail)
     go_ret
     exact ⟨Zg, (Zh GE272)⟩
  ·have H := HS_.out
   clear HS_; replace c3 := Bool.eq_false_iff.mpr c3; subst c3; rw [if_neg fnt_] at H; obtain rfl := Option.some.inj H
   go_wp2_with (first | fail)
   go_ret
   exact ⟨Zg, (Zh GE272)⟩
def impl_AreArticles.l0 : Nat → List (S91) → List (S91) → Int → Int → Option (Bool)
 | 0, _, _, _, _ => none
 | k + 1, x0, x8, x9, x10 => if x10 < x9 then (if 0 ≤ x10 then (if x10 < (x8.length : Int) then ((impl_IsArticle.f k ((rd_T91 x8 x10).f0) ((rd_T91 x8 x10).f1) ((rd_T91 x8 x10).f2) ((rd_T91 x8 x10).f3) ((rd_T91 x8 x10).f4) ((rd_T91 x8 x10).f5) ((rd_T91 x8 x10).f6) ((rd_T91 x8 x10).f7) ((rd_T91 x8 x10).f8)).bind fun t284 => (if t284 = true then (if x10 > 0 then (if 0 ≤ (wrap64 (x10 - 1)) then (if (wrap64 (x10 - 1)) < (x0.length : Int) then (if ((Op.bytesLess (((rd_T91 x0 (wrap64 (x10 - 1))).f0).toList) (((rd_T91 x8 x10).f0).toList)) = true) then (impl_AreArticles.l0 k x0 x8 x9 (wrap64 (x10 + 1))) else (some false)) else (none)) else (none)) else (impl_AreArticles.l0 k x0 x8 x9 (wrap64 (x10 + 1)))) else (some false))) else (none)) else (none)) else (some true)
def impl_AreArticles.f (k : Nat) (l0 : List (S91)) : Option (Bool) := if (l0.length : Int) > 12 then (some false) else (impl_AreArticles.l0 k l0 l0 (l0.length : Int) 0)
def impl_AreArticles.T6 : Bool × List (List Nat × List Nat) := (true, [([], []), ([0], [0]), ([1], [1]), ([2, 1], [2]), ([3], [3]), ([4, 3], [3, 4]), ([5, 3, 3], [3, 5]), ([6], [6]), ([6], [6]), ([8, 6], [6, 8]), ([7, 9, 6], [6, 7, 9]), ([10, 6], [6, 10]), ([11, 6], [6, 11]), ([6], [6]), ([13, 6], [6, 13]), ([12, 14, 6], [6, 12, 14]), ([6, 15, 3], [3, 6, 15]), ([3, 16], [3, 16])])
def impl_AreArticles.B6 : List Nat := [0, 1, 3, 7, 15, 31, 63, 127, 127, 383, 1023, 2047, 4095, 127, 8319, 32767, 65535, 131071]
theorem impl_AreArticles.tab6 : rtab .any (opsOf Try.f63 6) = impl_AreArticles.T6 := by kernel_rfl
theorem impl_AreArticles.bits6 : waitsOk impl_AreArticles.T6.2 impl_AreArticles.B6 = true := by kernel_rfl
theorem impl_AreArticles.calls (k : Nat) (A0 : Option Addr) (c0 : Nat) (l0 : List (S91)) (r : Bool) (w : World) (hr0 : Kd.C k91 w A0 l0.length l0) (hc0 : l0.length ≤ c0) (h : impl_AreArticles.f k l0 = some r) :
  Calls Try.prog 63 #[.slice A0 l0.length c0] w fun e w' => e = .returned (.bool r) ∧ Below w.heap.size w w' := by
 have hu91 := Try.underlying91; have HR0 := am_ hr0; have HC0 := am_ hc0; clear hr0 hc0; have HB := am_ (Below.refl w.heap.size w); have H : (if (l0.length : Int) > 12 then (some false) else (impl_AreArticles.l0 k l0 l0 (l0.length : Int) 0)) = some r := h; clear h
 by_cases c2 : (l0.length : Int) > 12
 ·rw [if_pos c2] at H
  have c2b0 : decide (12 < (l0.length : Int)) = true := decide_eq_true c2; have c2b1 : decide (12 < l0.length) = true := decide_eq_true (by omega); clear c2; obtain rfl := Option.some.inj H
  go_enter Try.func63, Try.ntmps63
  go_wp2
  go_ret
  exact ⟨Zg, Zf⟩
 ·rw [if_neg c2] at H
  have c2b0 : decide (12 < (l0.length : Int)) = false := decide_eq_false c2; have c2b1 : decide (12 < l0.length) = false := decide_eq_false (by omega); clear c2; have H' := am_ H; clear H
  go_enter Try.func63, Try.ntmps63
  go_wp2
  go_loopg [10] k (fun kq v10 w' => ∃ (x10_1 : Int), v10 = .int .i64 x10_1 ∧ Aside0 (impl_AreArticles.l0 kq l0 l0 (l0.length : Int) x10_1 = some r) ∧ Aside0 (kq ≤ k) ∧ Aside0 (Below w.heap.size w w'))
  case atStart => exact ⟨(0), Za, H', ⟨Nat.le_refl _⟩, ⟨Zf⟩⟩
  case round =>
   clear H'
   try clear c2
   try clear c2b0
   try clear c2b1
   try clear p2
   obtain ⟨x10_1, rfl, HA, HK1, HB⟩ := hrel
   cases gk with
   | zero => exact absurd HA.out (by simp [impl_AreArticles.l0])
   | succ k1 =>
    have H := HA.out; clear HA; simp only [impl_AreArticles.l0] at H
    by_cases c3 : x10_1 < (l0.length : Int)
    ·rw [if_pos c3] at H
     have c3b0 := decide_eq_true c3; clear c3
     by_cases c4 : 0 ≤ x10_1
     ·rw [if_pos c4] at H
      have c4b0 := decide_eq_true c4; clear c4
      by_cases c5 : x10_1 < (l0.length : Int)
      ·rw [if_pos c5] at H
       have c5b0 := decide_eq_true c5; clear c5; obtain ⟨t284, A6, H⟩ := bE_ H
       by_cases c7 : t284 = true
       ·subst c7
        rw [if_pos rfl] at H
        by_cases c8 : x10_1 > 0
        ·rw [if_pos c8] at H
         have c8b0 : decide (0 < x10_1) = true := decide_eq_true c8; clear c8; obtain ⟨ji9, hji9⟩ : ∃ j_ : Int, (wrap64 (x10_1 - 1)) = j_ := ⟨_, rfl⟩
         replace H : (if 0 ≤ (ji9) then (if (ji9) < (l0.length : Int) then (if ((Op.bytesLess (((rd_T91 l0 (ji9)).f0).toList) (((rd_T91 l0 x10_1).f0).toList)) = true) then (impl_AreArticles.l0 k1 l0 l0 (l0.length : Int) (wrap64 (x10_1 + 1))) else (some false)) else (none)) else (none)) = some r := by first | (rw [hji9] at H; exact H) | (simp only [hji9] at H ⊢; exact H)
         (try rw [hji9] at A6)
         have hji9w : (IntKind.i64.wrap (x10_1 - 1)) = ji9 := (i64_w _).trans hji9
         by_cases c10 : 0 ≤ (ji9)
         ·rw [if_pos c10] at H
          have c10b0 := decide_eq_true c10; clear c10
          by_cases c11 : (ji9) < (l0.length : Int)
          ·rw [if_pos c11] at H
           have c11b0 := decide_eq_true c11; clear c11; have HS_ := am_ H; clear H; have p282 : 0 ≤ (x10_1 : Int) := of_decide_eq_true Zc; have q282 : x10_1 < (l0.length : Int) := of_decide_eq_true Zc; obtain ⟨ad282, e282, hx282_0, hx282_1, hx282_2, hx282_3, hx282_4, hx282_5, hx282_6, hx282_7, hx282_8⟩ := at_T91 HR0.out x10_1 p282 q282
           cases e282
           replace hx282_0 := cbH HB hx282_0; replace hx282_1 := cbH HB hx282_1; replace hx282_2 := cbH HB hx282_2; replace hx282_3 := cbH HB hx282_3; replace hx282_4 := cbH HB hx282_4; replace hx282_5 := cbH HB hx282_5; replace hx282_6 := cbH HB hx282_6; replace hx282_7 := cbH HB hx282_7; replace hx282_8 := cbH HB hx282_8; replace p282 := eq_true p282; replace q282 := eq_true q282
           try go_wp2_with (first | ((with_reducible refine gate_dst (N := 4) rfl ?_); refine boxZ 4 #[.string (⟨#[]⟩ : ByteArray), .int .i64 0, .int .i64 0, .int .i64 0, .int .i64 0, .int .i64 0, .int .i64 0, .int .i64 0, .int .i64 0] 91 ?_; intro gb283 hg w13 hbox hb; replace BK283 := am_ (hbox); replace GW283 := am_ ((Ze : w.heap.size ≤ gb283)); replace GE283 := GW283; replace HB := (bsZ Zf hb); clear hb hbox hg; refine ci9 BK283 ?_; intros))
           have n0_ : Aside0 ((((((((((w13.setCell ⟨gb283, 0, none⟩ (.string ((rd_T91 l0 x10_1).f0))).setCell ⟨gb283, 1, none⟩ (.int .i64 ((rd_T91 l0 x10_1).f1))).setCell ⟨gb283, 2, none⟩ (.int .i64 ((rd_T91 l0 x10_1).f2))).setCell ⟨gb283, 3, none⟩ (.int .i64 ((rd_T91 l0 x10_1).f3))).setCell ⟨gb283, 4, none⟩ (.int .i64 ((rd_T91 l0 x10_1).f4))).setCell ⟨gb283, 5, none⟩ (.int .i64 ((rd_T91 l0 x10_1).f5))).setCell ⟨gb283, 6, none⟩ (.int .i64 ((rd_T91 l0 x10_1).f6))).setCell ⟨gb283, 7, none⟩ (.int .i64 ((rd_T91 l0 x10_1).f7))).setCell ⟨gb283, 8, none⟩ (.int .i64 ((rd_T91 l0 x10_1).f8))).heap[gb283]? = some (.cells #[.string ((rd_T91 l0 x10_1).f0), .int .i64 ((rd_T91 l0 x10_1).f1), .int .i64 ((rd_T91 l0 x10_1).f2), .int .i64 ((rd_T91 l0 x10_1).f3), .int .i64 ((rd_T91 l0 x10_1).f4), .int .i64 ((rd_T91 l0 x10_1).f5), .int .i64 ((rd_T91 l0 x10_1).f6), .int .i64 ((rd_T91 l0 x10_1).f7), .int .i64 ((rd_T91 l0 x10_1).f8)] 91 (0, 0))) := ⟨(Zas BK283)⟩; have n1_ : Aside0 (Below w.heap.size w (((((((((w13.setCell ⟨gb283, 0, none⟩ (.string ((rd_T91 l0 x10_1).f0))).setCell ⟨gb283, 1, none⟩ (.int .i64 ((rd_T91 l0 x10_1).f1))).setCell ⟨gb283, 2, none⟩ (.int .i64 ((rd_T91 l0 x10_1).f2))).setCell ⟨gb283, 3, none⟩ (.int .i64 ((rd_T91 l0 x10_1).f3))).setCell ⟨gb283, 4, none⟩ (.int .i64 ((rd_T91 l0 x10_1).f4))).setCell ⟨gb283, 5, none⟩ (.int .i64 ((rd_T91 l0 x10_1).f5))).setCell ⟨gb283, 6, none⟩ (.int .i64 ((rd_T91 l0 x10_1).f6))).setCell ⟨gb283, 7, none⟩ (.int .i64 ((rd_T91 l0 x10_1).f7))).setCell ⟨gb283, 8, none⟩ (.int .i64 ((rd_T91 l0 x10_1).f8)))) := ⟨(Zh GE283)⟩
           (try clear BK283)
           (try clear HB)
           generalize (((((((((w13.setCell ⟨gb283, 0, none⟩ (.string ((rd_T91 l0 x10_1).f0))).setCell ⟨gb283, 1, none⟩ (.int .i64 ((rd_T91 l0 x10_1).f1))).setCell ⟨gb283, 2, none⟩ (.int .i64 ((rd_T91 l0 x10_1).f2))).setCell ⟨gb283, 3, none⟩ (.int .i64 ((rd_T91 l0 x10_1).f3))).setCell ⟨gb283, 4, none⟩ (.int .i64 ((rd_T91 l0 x10_1).f4))).setCell ⟨gb283, 5, none⟩ (.int .i64 ((rd_T91 l0 x10_1).f5))).setCell ⟨gb283, 6, none⟩ (.int .i64 ((rd_T91 l0 x10_1).f6))).setCell ⟨gb283, 7, none⟩ (.int .i64 ((rd_T91 l0 x10_1).f7))).setCell ⟨gb283, 8, none⟩ (.int .i64 ((rd_T91 l0 x10_1).f8))) = w15 at n0_ n1_ ⊢; have BK283 := n0_; have HB := n1_; clear n0_ n1_; replace BK283 := am_ (blk_drew BK283.out); replace HB := am_ (below_drew1 HB.out); have p285 : 0 ≤ ((ji9) : Int) := of_decide_eq_true Zc; have q285 : (ji9) < (l0.length : Int) := of_decide_eq_true Zc; obtain ⟨ad285, e285, hx285_0, hx285_1, hx285_2, hx285_3, hx285_4, hx285_5, hx285_6, hx285_7, hx285_8⟩ := at_T91 HR0.out (ji9) p285 q285; have hw285_8 := hx285_8; have hw285_7 := hx285_7; have hw285_6 := hx285_6; have hw285_5 := hx285_5; have hw285_4 := hx285_4; have hw285_3 := hx285_3; have hw285_2 := hx285_2; have hw285_1 := hx285_1; have hw285_0 := hx285_0; obtain rfl : ad282 = ad285 := (by injection e285); replace hx285_0 := cbH HB hx285_0; replace hx285_1 := cbH HB hx285_1; replace hx285_2 := cbH HB hx285_2; replace hx285_3 := cbH HB hx285_3; replace hx285_4 := cbH HB hx285_4; replace hx285_5 := cbH HB hx285_5; replace hx285_6 := cbH HB hx285_6; replace hx285_7 := cbH HB hx285_7; replace hx285_8 := cbH HB hx285_8; replace p285 := eq_true p285; replace q285 := eq_true q285; refine start_ (n := 18) (S := fun w' => w'.cell? ⟨gb283, 0, none⟩ = some (.string ((rd_T91 l0 x10_1).f0)) ∧ w'.cell? ⟨gb283, 1, none⟩ = some (.int .i64 ((rd_T91 l0 x10_1).f1)) ∧ w'.cell? ⟨gb283, 2, none⟩ = some (.int .i64 ((rd_T91 l0 x10_1).f2)) ∧ w'.cell? ⟨gb283, 3, none⟩ = some (.int .i64 ((rd_T91 l0 x10_1).f3)) ∧ w'.cell? ⟨gb283, 4, none⟩ = some (.int .i64 ((rd_T91 l0 x10_1).f4)) ∧ w'.cell? ⟨gb283, 5, none⟩ = some (.int .i64 ((rd_T91 l0 x10_1).f5)) ∧ w'.cell? ⟨gb283, 6, none⟩ = some (.int .i64 ((rd_T91 l0 x10_1).f6)) ∧ w'.cell? ⟨gb283, 7, none⟩ = some (.int .i64 ((rd_T91 l0 x10_1).f7)) ∧ w'.cell? ⟨gb283, 8, none⟩ = some (.int .i64 ((rd_T91 l0 x10_1).f8)) ∧ w'.cell? (ad282.add (((ji9)).toNat * 9)) = some (.string ((rd_T91 l0 (ji9)).f0)) ∧ w'.cell? ⟨(ad282.add (((ji9)).toNat * 9)).block, (ad282.add (((ji9)).toNat * 9)).off + 1, none⟩ = some (.int .i64 ((rd_T91 l0 (ji9)).f1)) ∧ w'.cell? ⟨(ad282.add (((ji9)).toNat * 9)).block, (ad282.add (((ji9)).toNat * 9)).off + 2, none⟩ = some (.int .i64 ((rd_T91 l0 (ji9)).f2)) ∧ w'.cell? ⟨(ad282.add (((ji9)).toNat * 9)).block, (ad282.add (((ji9)).toNat * 9)).off + 3, none⟩ = some (.int .i64 ((rd_T91 l0 (ji9)).f3)) ∧ w'.cell? ⟨(ad282.add (((ji9)).toNat * 9)).block, (ad282.add (((ji9)).toNat * 9)).off + 4, none⟩ = some (.int .i64 ((rd_T91 l0 (ji9)).f4)) ∧ w'.cell? ⟨(ad282.add (((ji9)).toNat * 9)).block, (ad282.add (((ji9)).toNat * 9)).off + 5, none⟩ = some (.int .i64 ((rd_T91 l0 (ji9)).f5)) ∧ w'.cell? ⟨(ad282.add (((ji9)).toNat * 9)).block, (ad282.add (((ji9)).toNat * 9)).off + 6, none⟩ = some (.int .i64 ((rd_T91 l0 (ji9)).f6)) ∧ w'.cell? ⟨(ad282.add (((ji9)).toNat * 9)).block, (ad282.add (((ji9)).toNat * 9)).off + 7, none⟩ = some (.int .i64 ((rd_T91 l0 (ji9)).f7)) ∧ w'.cell? ⟨(ad282.add (((ji9)).toNat * 9)).block, (ad282.add (((ji9)).toNat * 9)).off + 8, none⟩ = some (.int .i64 ((rd_T91 l0 (ji9)).f8))) (ds := []) (bT 18 0) Zi rfl rfl ⟨(blk_cell BK283.out 0).trans rfl, (blk_cell BK283.out 1).trans rfl, (blk_cell BK283.out 2).trans rfl, (blk_cell BK283.out 3).trans rfl, (blk_cell BK283.out 4).trans rfl, (blk_cell BK283.out 5).trans rfl, (blk_cell BK283.out 6).trans rfl, (blk_cell BK283.out 7).trans rfl, (blk_cell BK283.out 8).trans rfl, (cbH HB hw285_0 :), (cbH HB hw285_1 :), (cbH HB hw285_2 :), (cbH HB hw285_3 :), (cbH HB hw285_4 :), (cbH HB hw285_5 :), (cbH HB hw285_6 :), (cbH HB hw285_7 :), (cbH HB hw285_8 :)⟩ (fun hHeld => ?_); refine with_tabW impl_AreArticles.tab6 impl_AreArticles.bits6 (fun HT_ HW_ => ?_)
           generalize w15.drew = w16 at BK283 HB hx285_0 hx285_1 hx285_2 hx285_3 hx285_4 hx285_5 hx285_6 hx285_7 hx285_8 hHeld ⊢; refine takeZ18 HT_ HW_ 0 (some 15) (bT 18 1) hHeld ?_; refine one_ (i := 1) (N := some 16) (bT 18 2) rfl rfl (one_of HT_.out Zi) (by decide) (fun K hK => ?_); refine goes_ Try.func76 Zi rfl #[.agg #[.string ((rd_T91 l0 x10_1).f0), .int .i64 ((rd_T91 l0 x10_1).f1), .int .i64 ((rd_T91 l0 x10_1).f2), .int .i64 ((rd_T91 l0 x10_1).f3), .int .i64 ((rd_T91 l0 x10_1).f4), .int .i64 ((rd_T91 l0 x10_1).f5), .int .i64 ((rd_T91 l0 x10_1).f6), .int .i64 ((rd_T91 l0 x10_1).f7), .int .i64 ((rd_T91 l0 x10_1).f8)]] (by rfl) rfl rfl Zj ?_
           with_reducible refine (impl_IsArticle.calls k1 ((rd_T91 l0 x10_1).f0) ((rd_T91 l0 x10_1).f1) ((rd_T91 l0 x10_1).f2) ((rd_T91 l0 x10_1).f3) ((rd_T91 l0 x10_1).f4) ((rd_T91 l0 x10_1).f5) ((rd_T91 l0 x10_1).f6) ((rd_T91 l0 x10_1).f7) ((rd_T91 l0 x10_1).f8) true _ A6.out).mono ?_
           rintro e w17 ⟨rfl, hb⟩; refine ⟨_, rfl, ?_⟩; replace BK283 := (bkZ BK283 hb); replace HB := (bsZ (Zh GE283) hb)
           (try clear hb)
           (try clear hb2)
           (try clear hk)
           (try clear hi)
           refine hK.out _ _ (by exact ⟨(blk_cell BK283.out 0).trans rfl, (blk_cell BK283.out 1).trans rfl, (blk_cell BK283.out 2).trans rfl, (blk_cell BK283.out 3).trans rfl, (blk_cell BK283.out 4).trans rfl, (blk_cell BK283.out 5).trans rfl, (blk_cell BK283.out 6).trans rfl, (blk_cell BK283.out 7).trans rfl, (blk_cell BK283.out 8).trans rfl, (cbH HB hw285_0 :), (cbH HB hw285_1 :), (cbH HB hw285_2 :), (cbH HB hw285_3 :), (cbH HB hw285_4 :), (cbH HB hw285_5 :), (cbH HB hw285_6 :), (cbH HB hw285_7 :), (cbH HB hw285_8 :)⟩) (fun hHeld => ?_); clear hK K; refine normZ 16 ?_; refine pureZ HT_ 2 (some 17) (bT 18 3) ?_; refine pureZ HT_ 3 (some 18) (bT 18 4) ?_; refine pureZ HT_ 4 (some 19) (bT 18 5) ?_; refine pureZ HT_ 5 (some 20) (bT 18 6) ?_; refine pureZ HT_ 6 (some 21) (bT 18 7) ?_; refine pureZ HT_ 7 (some 22) (bT 18 8) ?_; refine pureZ HT_ 8 (some 23) (bT 18 9) ?_; refine pureZ HT_ 9 (some 24) (bT 18 10) ?_; refine pureZ HT_ 10 (some 25) (bT 18 11) ?_; refine pureZ HT_ 11 (some 26) (bT 18 12) ?_; refine pureZ HT_ 13 (some 28) (bB 18 12287) ?_; refine takeZ18 HT_ HW_ 12 (some 27) (bT 18 14) hHeld ?_; refine takeZ18 HT_ HW_ 14 (some 29) (bT 18 15) hHeld ?_; refine pureZ HT_ 15 (some 30) (bT 18 16) ?_; refine pureZ HT_ 16 (some 31) (bT 18 17) ?_; refine pureZ HT_ 17 (some 32) (bT 18 18) ?_; refine done_ (done_of HT_.out Zi) ?_
           by_cases c12 : ((Op.bytesLess (((rd_T91 l0 (ji9)).f0).toList) (((rd_T91 l0 x10_1).f0).toList)) = true)
           ·have H := HS_.out
            clear HS_; rw [if_pos c12] at H; have c12b0 : (Op.bytesLess (((rd_T91 l0 (ji9)).f0).toList) (((rd_T91 l0 x10_1).f0).toList)) = true := c12; clear c12; have H' := am_ H; clear H
            (try simp only [c12b0, Bool.not_true, Bool.not_false])
            try go_wp2
            go_roundg k1
            case measure => have := HK1.out; omega
            case rel => exact ⟨(wrap64 (x10_1 + 1)), Za, H', ⟨Zd⟩, ⟨(Zh GE283)⟩⟩
           ·have H := HS_.out
            clear HS_; rw [if_neg c12] at H
            have c12b0 : (Op.bytesLess (((rd_T91 l0 (ji9)).f0).toList) (((rd_T91 l0 x10_1).f0).toList)) = false := by simpa using c12
            clear c12; obtain rfl := Option.some.inj H
            (try simp only [c12b0, Bool.not_true, Bool.not_false])
            try go_wp2
            go_ret
            exact ⟨by first | rfl | (simp [errW_none, errW_some] <;> rfl) | (simp only [← hji9]; first | rfl | (simp [errW_none, errW_some] <;> rfl)) | (simp [*, errW_none, errW_some] <;> rfl), (Zh GE283)⟩
          ·exact nN c11 H
         ·exact nN c10 H
        ·rw [if_neg c8] at H
         have c8b0 : decide (0 < x10_1) = false := decide_eq_false c8; clear c8; have H' := am_ H; clear H; have p282 : 0 ≤ (x10_1 : Int) := of_decide_eq_true Zc; have q282 : x10_1 < (l0.length : Int) := of_decide_eq_true Zc; obtain ⟨ad282, e282, hx282_0, hx282_1, hx282_2, hx282_3, hx282_4, hx282_5, hx282_6, hx282_7, hx282_8⟩ := at_T91 HR0.out x10_1 p282 q282
         cases e282
         replace hx282_0 := cbH HB hx282_0; replace hx282_1 := cbH HB hx282_1; replace hx282_2 := cbH HB hx282_2; replace hx282_3 := cbH HB hx282_3; replace hx282_4 := cbH HB hx282_4; replace hx282_5 := cbH HB hx282_5; replace hx282_6 := cbH HB hx282_6; replace hx282_7 := cbH HB hx282_7; replace hx282_8 := cbH HB hx282_8; replace p282 := eq_true p282; replace q282 := eq_true q282
         try go_wp2_with (first | ((with_reducible refine gate_dst (N := 4) rfl ?_); refine boxZ 4 #[.string (⟨#[]⟩ : ByteArray), .int .i64 0, .int .i64 0, .int .i64 0, .int .i64 0, .int .i64 0, .int .i64 0, .int .i64 0, .int .i64 0] 91 ?_; intro gb283 hg w23 hbox hb; replace BK283 := am_ (hbox); replace GW283 := am_ ((Ze : w.heap.size ≤ gb283)); replace GE283 := GW283; replace HB := (bsZ Zf hb); clear hb hbox hg; refine ci9 BK283 ?_; intros))
         have n0_ : Aside0 ((((((((((w23.setCell ⟨gb283, 0, none⟩ (.string ((rd_T91 l0 x10_1).f0))).setCell ⟨gb283, 1, none⟩ (.int .i64 ((rd_T91 l0 x10_1).f1))).setCell ⟨gb283, 2, none⟩ (.int .i64 ((rd_T91 l0 x10_1).f2))).setCell ⟨gb283, 3, none⟩ (.int .i64 ((rd_T91 l0 x10_1).f3))).setCell ⟨gb283, 4, none⟩ (.int .i64 ((rd_T91 l0 x10_1).f4))).setCell ⟨gb283, 5, none⟩ (.int .i64 ((rd_T91 l0 x10_1).f5))).setCell ⟨gb283, 6, none⟩ (.int .i64 ((rd_T91 l0 x10_1).f6))).setCell ⟨gb283, 7, none⟩ (.int .i64 ((rd_T91 l0 x10_1).f7))).setCell ⟨gb283, 8, none⟩ (.int .i64 ((rd_T91 l0 x10_1).f8))).heap[gb283]? = some (.cells #[.string ((rd_T91 l0 x10_1).f0), .int .i64 ((rd_T91 l0 x10_1).f1), .int .i64 ((rd_T91 l0 x10_1).f2), .int .i64 ((rd_T91 l0 x10_1).f3), .int .i64 ((rd_T91 l0 x10_1).f4), .int .i64 ((rd_T91 l0 x10_1).f5), .int .i64 ((rd_T91 l0 x10_1).f6), .int .i64 ((rd_T91 l0 x10_1).f7), .int .i64 ((rd_T91 l0 x10_1).f8)] 91 (0, 0))) := ⟨(Zas BK283)⟩; have n1_ : Aside0 (Below w.heap.size w (((((((((w23.setCell ⟨gb283, 0, none⟩ (.string ((rd_T91 l0 x10_1).f0))).setCell ⟨gb283, 1, none⟩ (.int .i64 ((rd_T91 l0 x10_1).f1))).setCell ⟨gb283, 2, none⟩ (.int .i64 ((rd_T91 l0 x10_1).f2))).setCell ⟨gb283, 3, none⟩ (.int .i64 ((rd_T91 l0 x10_1).f3))).setCell ⟨gb283, 4, none⟩ (.int .i64 ((rd_T91 l0 x10_1).f4))).setCell ⟨gb283, 5, none⟩ (.int .i64 ((rd_T91 l0 x10_1).f5))).setCell ⟨gb283, 6, none⟩ (.int .i64 ((rd_T91 l0 x10_1).f6))).setCell ⟨gb283, 7, none⟩ (.int .i64 ((rd_T91 l0 x10_1).f7))).setCell ⟨gb283, 8, none⟩ (.int .i64 ((rd_T91 l0 x10_1).f8)))) := ⟨(Zh GE283)⟩
         (try clear BK283)
         (try clear HB)
         generalize (((((((((w23.setCell ⟨gb283, 0, none⟩ (.string ((rd_T91 l0 x10_1).f0))).setCell ⟨gb283, 1, none⟩ (.int .i64 ((rd_T91 l0 x10_1).f1))).setCell ⟨gb283, 2, none⟩ (.int .i64 ((rd_T91 l0 x10_1).f2))).setCell ⟨gb283, 3, none⟩ (.int .i64 ((rd_T91 l0 x10_1).f3))).setCell ⟨gb283, 4, none⟩ (.int .i64 ((rd_T91 l0 x10_1).f4))).setCell ⟨gb283, 5, none⟩ (.int .i64 ((rd_T91 l0 x10_1).f5))).setCell ⟨gb283, 6, none⟩ (.int .i64 ((rd_T91 l0 x10_1).f6))).setCell ⟨gb283, 7, none⟩ (.int .i64 ((rd_T91 l0 x10_1).f7))).setCell ⟨gb283, 8, none⟩ (.int .i64 ((rd_T91 l0 x10_1).f8))) = w25 at n0_ n1_ ⊢; have BK283 := n0_; have HB := n1_; clear n0_ n1_; replace BK283 := am_ (blk_drew BK283.out); replace HB := am_ (below_drew1 HB.out); refine start_ (n := 18) (S := fun w' => w'.cell? ⟨gb283, 0, none⟩ = some (.string ((rd_T91 l0 x10_1).f0)) ∧ w'.cell? ⟨gb283, 1, none⟩ = some (.int .i64 ((rd_T91 l0 x10_1).f1)) ∧ w'.cell? ⟨gb283, 2, none⟩ = some (.int .i64 ((rd_T91 l0 x10_1).f2)) ∧ w'.cell? ⟨gb283, 3, none⟩ = some (.int .i64 ((rd_T91 l0 x10_1).f3)) ∧ w'.cell? ⟨gb283, 4, none⟩ = some (.int .i64 ((rd_T91 l0 x10_1).f4)) ∧ w'.cell? ⟨gb283, 5, none⟩ = some (.int .i64 ((rd_T91 l0 x10_1).f5)) ∧ w'.cell? ⟨gb283, 6, none⟩ = some (.int .i64 ((rd_T91 l0 x10_1).f6)) ∧ w'.cell? ⟨gb283, 7, none⟩ = some (.int .i64 ((rd_T91 l0 x10_1).f7)) ∧ w'.cell? ⟨gb283, 8, none⟩ = some (.int .i64 ((rd_T91 l0 x10_1).f8))) (ds := []) (bT 18 0) Zi rfl rfl ⟨(blk_cell BK283.out 0).trans rfl, (blk_cell BK283.out 1).trans rfl, (blk_cell BK283.out 2).trans rfl, (blk_cell BK283.out 3).trans rfl, (blk_cell BK283.out 4).trans rfl, (blk_cell BK283.out 5).trans rfl, (blk_cell BK283.out 6).trans rfl, (blk_cell BK283.out 7).trans rfl, (blk_cell BK283.out 8).trans rfl⟩ (fun hHeld => ?_); refine with_tabW impl_AreArticles.tab6 impl_AreArticles.bits6 (fun HT_ HW_ => ?_); generalize w25.drew = w26 at BK283 HB hHeld ⊢; refine takeZ9 HT_ HW_ 0 (some 15) (bT 18 1) hHeld ?_; refine one_ (i := 1) (N := some 16) (bT 18 2) rfl rfl (one_of HT_.out Zi) (by decide) (fun K hK => ?_); refine goes_ Try.func76 Zi rfl #[.agg #[.string ((rd_T91 l0 x10_1).f0), .int .i64 ((rd_T91 l0 x10_1).f1), .int .i64 ((rd_T91 l0 x10_1).f2), .int .i64 ((rd_T91 l0 x10_1).f3), .int .i64 ((rd_T91 l0 x10_1).f4), .int .i64 ((rd_T91 l0 x10_1).f5), .int .i64 ((rd_T91 l0 x10_1).f6), .int .i64 ((rd_T91 l0 x10_1).f7), .int .i64 ((rd_T91 l0 x10_1).f8)]] (by rfl) rfl rfl Zj ?_
         with_reducible refine (impl_IsArticle.calls k1 ((rd_T91 l0 x10_1).f0) ((rd_T91 l0 x10_1).f1) ((rd_T91 l0 x10_1).f2) ((rd_T91 l0 x10_1).f3) ((rd_T91 l0 x10_1).f4) ((rd_T91 l0 x10_1).f5) ((rd_T91 l0 x10_1).f6) ((rd_T91 l0 x10_1).f7) ((rd_T91 l0 x10_1).f8) true _ A6.out).mono ?_
         rintro e w27 ⟨rfl, hb⟩; refine ⟨_, rfl, ?_⟩; replace BK283 := (bkZ BK283 hb); replace HB := (bsZ (Zh GE283) hb)
         (try clear hb)
         (try clear hb2)
         (try clear hk)
         (try clear hi)
         refine hK.out _ _ (Zat BK283) (fun hHeld => ?_); clear hK K; refine normZ 16 ?_; refine pureZ HT_ 2 (some 17) (bT 18 3) ?_; refine pureZ HT_ 3 (some 18) (bT 18 4) ?_; refine pureZ HT_ 4 (some 19) (bT 18 5) ?_; refine pureZ HT_ 5 (some 20) (bT 18 6) ?_; refine pureZ HT_ 6 (some 21) (bT 18 7) ?_; refine pureU HT_ 7 (some 22) (bT 18 8) ?_; refine pureU HT_ 8 (some 23) (bT 18 9) ?_; refine pureU HT_ 9 (some 24) (bT 18 10) ?_; refine pureU HT_ 10 (some 25) (bT 18 11) ?_; refine pureU HT_ 11 (some 26) (bT 18 12) ?_; refine pureU HT_ 12 (some 27) (bT 18 13) ?_; refine pureU HT_ 13 (some 28) (bT 18 14) ?_; refine pureU HT_ 14 (some 29) (bT 18 15) ?_; refine pureU HT_ 15 (some 30) (bT 18 16) ?_; refine pureZ HT_ 16 (some 31) (bT 18 17) ?_; refine pureZ HT_ 17 (some 32) (bT 18 18) ?_; refine done_ (done_of HT_.out Zi) ?_
         try go_wp2
         go_roundg k1
         case measure => have := HK1.out; omega
         case rel => exact ⟨(wrap64 (x10_1 + 1)), Za, H', ⟨Zd⟩, ⟨(Zh GE283)⟩⟩
       ·replace c7 := Bool.eq_false_iff.mpr c7
        subst c7; rw [if_neg fnt_] at H; obtain rfl := Option.some.inj H; have p282 : 0 ≤ (x10_1 : Int) := of_decide_eq_true Zc; have q282 : x10_1 < (l0.length : Int) := of_decide_eq_true Zc; obtain ⟨ad282, e282, hx282_0, hx282_1, hx282_2, hx282_3, hx282_4, hx282_5, hx282_6, hx282_7, hx282_8⟩ := at_T91 HR0.out x10_1 p282 q282
        cases e282
        replace hx282_0 := cbH HB hx282_0; replace hx282_1 := cbH HB hx282_1; replace hx282_2 := cbH HB hx282_2; replace hx282_3 := cbH HB hx282_3; replace hx282_4 := cbH HB hx282_4; replace hx282_5 := cbH HB hx282_5; replace hx282_6 := cbH HB hx282_6; replace hx282_7 := cbH HB hx282_7; replace hx282_8 := cbH HB hx282_8; replace p282 := eq_true p282; replace q282 := eq_true q282
        try go_wp2_with (first | ((with_reducible refine gate_dst (N := 4) rfl ?_); refine boxZ 4 #[.string (⟨#[]⟩ : ByteArray), .int .i64 0, .int .i64 0, .int .i64 0, .int .i64 0, .int .i64 0, .int .i64 0, .int .i64 0, .int .i64 0] 91 ?_; intro gb283 hg w28 hbox hb; replace BK283 := am_ (hbox); replace GW283 := am_ ((Ze : w.heap.size ≤ gb283)); replace GE283 := GW283; replace HB := (bsZ Zf hb); clear hb hbox hg; refine ci9 BK283 ?_; intros))
        have n0_ : Aside0 ((((((((((w28.setCell ⟨gb283, 0, none⟩ (.string ((rd_T91 l0 x10_1).f0))).setCell ⟨gb283, 1, none⟩ (.int .i64 ((rd_T91 l0 x10_1).f1))).setCell ⟨gb283, 2, none⟩ (.int .i64 ((rd_T91 l0 x10_1).f2))).setCell ⟨gb283, 3, none⟩ (.int .i64 ((rd_T91 l0 x10_1).f3))).setCell ⟨gb283, 4, none⟩ (.int .i64 ((rd_T91 l0 x10_1).f4))).setCell ⟨gb283, 5, none⟩ (.int .i64 ((rd_T91 l0 x10_1).f5))).setCell ⟨gb283, 6, none⟩ (.int .i64 ((rd_T91 l0 x10_1).f6))).setCell ⟨gb283, 7, none⟩ (.int .i64 ((rd_T91 l0 x10_1).f7))).setCell ⟨gb283, 8, none⟩ (.int .i64 ((rd_T91 l0 x10_1).f8))).heap[gb283]? = some (.cells #[.string ((rd_T91 l0 x10_1).f0), .int .i64 ((rd_T91 l0 x10_1).f1), .int .i64 ((rd_T91 l0 x10_1).f2), .int .i64 ((rd_T91 l0 x10_1).f3), .int .i64 ((rd_T91 l0 x10_1).f4), .int .i64 ((rd_T91 l0 x10_1).f5), .int .i64 ((rd_T91 l0 x10_1).f6), .int .i64 ((rd_T91 l0 x10_1).f7), .int .i64 ((rd_T91 l0 x10_1).f8)] 91 (0, 0))) := ⟨(Zas BK283)⟩; have n1_ : Aside0 (Below w.heap.size w (((((((((w28.setCell ⟨gb283, 0, none⟩ (.string ((rd_T91 l0 x10_1).f0))).setCell ⟨gb283, 1, none⟩ (.int .i64 ((rd_T91 l0 x10_1).f1))).setCell ⟨gb283, 2, none⟩ (.int .i64 ((rd_T91 l0 x10_1).f2))).setCell ⟨gb283, 3, none⟩ (.int .i64 ((rd_T91 l0 x10_1).f3))).setCell ⟨gb283, 4, none⟩ (.int .i64 ((rd_T91 l0 x10_1).f4))).setCell ⟨gb283, 5, none⟩ (.int .i64 ((rd_T91 l0 x10_1).f5))).setCell ⟨gb283, 6, none⟩ (.int .i64 ((rd_T91 l0 x10_1).f6))).setCell ⟨gb283, 7, none⟩ (.int .i64 ((rd_T91 l0 x10_1).f7))).setCell ⟨gb283, 8, none⟩ (.int .i64 ((rd_T91 l0 x10_1).f8)))) := ⟨(Zh GE283)⟩
        (try clear BK283)
        (try clear HB)
        generalize (((((((((w28.setCell ⟨gb283, 0, none⟩ (.string ((rd_T91 l0 x10_1).f0))).setCell ⟨gb283, 1, none⟩ (.int .i64 ((rd_T91 l0 x10_1).f1))).setCell ⟨gb283, 2, none⟩ (.int .i64 ((rd_T91 l0 x10_1).f2))).setCell ⟨gb283, 3, none⟩ (.int .i64 ((rd_T91 l0 x10_1).f3))).setCell ⟨gb283, 4, none⟩ (.int .i64 ((rd_T91 l0 x10_1).f4))).setCell ⟨gb283, 5, none⟩ (.int .i64 ((rd_T91 l0 x10_1).f5))).setCell ⟨gb283, 6, none⟩ (.int .i64 ((rd_T91 l0 x10_1).f6))).setCell ⟨gb283, 7, none⟩ (.int .i64 ((rd_T91 l0 x10_1).f7))).setCell ⟨gb283, 8, none⟩ (.int .i64 ((rd_T91 l0 x10_1).f8))) = w30 at n0_ n1_ ⊢; have BK283 := n0_; have HB := n1_; clear n0_ n1_; replace BK283 := am_ (blk_drew BK283.out); replace HB := am_ (below_drew1 HB.out); refine start_ (n := 18) (S := fun w' => w'.cell? ⟨gb283, 0, none⟩ = some (.string ((rd_T91 l0 x10_1).f0)) ∧ w'.cell? ⟨gb283, 1, none⟩ = some (.int .i64 ((rd_T91 l0 x10_1).f1)) ∧ w'.cell? ⟨gb283, 2, none⟩ = some (.int .i64 ((rd_T91 l0 x10_1).f2)) ∧ w'.cell? ⟨gb283, 3, none⟩ = some (.int .i64 ((rd_T91 l0 x10_1).f3)) ∧ w'.cell? ⟨gb283, 4, none⟩ = some (.int .i64 ((rd_T91 l0 x10_1).f4)) ∧ w'.cell? ⟨gb283, 5, none⟩ = some (.int .i64 ((rd_T91 l0 x10_1).f5)) ∧ w'.cell? ⟨gb283, 6, none⟩ = some (.int .i64 ((rd_T91 l0 x10_1).f6)) ∧ w'.cell? ⟨gb283, 7, none⟩ = some (.int .i64 ((rd_T91 l0 x10_1).f7)) ∧ w'.cell? ⟨gb283, 8, none⟩ = some (.int .i64 ((rd_T91 l0 x10_1).f8))) (ds := []) (bT 18 0) Zi rfl rfl ⟨(blk_cell BK283.out 0).trans rfl, (blk_cell BK283.out 1).trans rfl, (blk_cell BK283.out 2).trans rfl, (blk_cell BK283.out 3).trans rfl, (blk_cell BK283.out 4).trans rfl, (blk_cell BK283.out 5).trans rfl, (blk_cell BK283.out 6).trans rfl, (blk_cell BK283.out 7).trans rfl, (blk_cell BK283.out 8).trans rfl⟩ (fun hHeld => ?_); refine with_tabW impl_AreArticles.tab6 impl_AreArticles.bits6 (fun HT_ HW_ => ?_); generalize w30.drew = w31 at BK283 HB hHeld ⊢; refine takeZ9 HT_ HW_ 0 (some 15) (bT 18 1) hHeld ?_; refine one_ (i := 1) (N := some 16) (bT 18 2) rfl rfl (one_of HT_.out Zi) (by decide) (fun K hK => ?_); refine goes_ Try.func76 Zi rfl #[.agg #[.string ((rd_T91 l0 x10_1).f0), .int .i64 ((rd_T91 l0 x10_1).f1), .int .i64 ((rd_T91 l0 x10_1).f2), .int .i64 ((rd_T91 l0 x10_1).f3), .int .i64 ((rd_T91 l0 x10_1).f4), .int .i64 ((rd_T91 l0 x10_1).f5), .int .i64 ((rd_T91 l0 x10_1).f6), .int .i64 ((rd_T91 l0 x10_1).f7), .int .i64 ((rd_T91 l0 x10_1).f8)]] (by rfl) rfl rfl Zj ?_
        with_reducible refine (impl_IsArticle.calls k1 ((rd_T91 l0 x10_1).f0) ((rd_T91 l0 x10_1).f1) ((rd_T91 l0 x10_1).f2) ((rd_T91 l0 x10_1).f3) ((rd_T91 l0 x10_1).f4) ((rd_T91 l0 x10_1).f5) ((rd_T91 l0 x10_1).f6) ((rd_T91 l0 x10_1).f7) ((rd_T91 l0 x10_1).f8) false _ A6.out).mono ?_
        rintro e w32 ⟨rfl, hb⟩; refine ⟨_, rfl, ?_⟩; replace BK283 := (bkZ BK283 hb); replace HB := (bsZ (Zh GE283) hb)
        (try clear hb)
        (try clear hb2)
        (try clear hk)
        (try clear hi)
        refine hK.out _ _ (Zat BK283) (fun hHeld => ?_); clear hK K; refine normZ 16 ?_; refine pureZ HT_ 2 (some 17) (bT 18 3) ?_; refine pureZ HT_ 3 (some 18) (bT 18 4) ?_; refine pureU HT_ 4 (some 19) (bT 18 5) ?_; refine pureU HT_ 5 (some 20) (bT 18 6) ?_; refine pureU HT_ 6 (some 21) (bT 18 7) ?_; refine pureU HT_ 7 (some 22) (bT 18 8) ?_; refine pureU HT_ 8 (some 23) (bT 18 9) ?_; refine pureU HT_ 9 (some 24) (bT 18 10) ?_; refine pureU HT_ 10 (some 25) (bT 18 11) ?_; refine pureU HT_ 11 (some 26) (bT 18 12) ?_; refine pureU HT_ 12 (some 27) (bT 18 13) ?_; refine pureU HT_ 13 (some 28) (bT 18 14) ?_; refine pureU HT_ 14 (some 29) (bT 18 15) ?_; refine pureU HT_ 15 (some 30) (bT 18 16) ?_; refine pureU HT_ 16 (some 31) (bT 18 17) ?_; refine pureZ HT_ 17 (some 32) (bT 18 18) ?_; refine done_ (done_of HT_.out Zi) ?_
        try go_wp2
        go_ret
        exact ⟨Zg, (Zh GE283)⟩
      ·exact nN c5 H
     ·exact nN c4 H
    ·rw [if_neg c3] at H
     have c3b0 := decide_eq_false c3; clear c3; obtain rfl := Option.some.inj H
     go_wp2
     go_ret
     exact ⟨Zg, Zf⟩
def impl_articleOf.l0 : Nat → ByteArray → List (S91) → Int → Int → Option (Int)
 | 0, _, _, _, _ => none
 | k + 1, x1, x7, x8, x9 => if x9 < x8 then (if 0 ≤ x9 then (if x9 < (x7.length : Int) then (if ((rd_T91 x7 x9).f0).toList = x1.toList then (some x9) else (impl_articleOf.l0 k x1 x7 x8 (wrap64 (x9 + 1)))) else (none)) else (none)) else (some (-1))
def impl_articleOf.f (k : Nat) (l0 : List (S91)) (a1 : ByteArray) : Option (Int) := impl_articleOf.l0 k a1 l0 (l0.length : Int) 0
theorem impl_articleOf.calls (k : Nat) (A0 : Option Addr) (c0 : Nat) (l0 : List (S91)) (a1 : ByteArray) (r : Int) (w : World) (hr0 : Kd.C k91 w A0 l0.length l0) (hc0 : l0.length ≤ c0) (h : impl_articleOf.f k l0 a1 = some r) :
  Calls Try.prog 77 #[.slice A0 l0.length c0, .string a1] w fun e w' => e = .returned (.int .i64 r) ∧ Below w.heap.size w w' := by
 have hu91 := Try.underlying91; have HR0 := am_ hr0; have HC0 := am_ hc0; clear hr0 hc0; have HB := am_ (Below.refl w.heap.size w); have H : (impl_articleOf.l0 k a1 l0 (l0.length : Int) 0) = some r := h; clear h; have H' := am_ H; clear H
 go_enter Try.func77, Try.ntmps77
 go_wp2
 go_loopg [9] k (fun kq v9 w' => ∃ (x9_1 : Int), v9 = .int .i64 x9_1 ∧ Aside0 (impl_articleOf.l0 kq a1 l0 (l0.length : Int) x9_1 = some r) ∧ Aside0 (kq ≤ k) ∧ Aside0 (Below w.heap.size w w'))
 case atStart => exact ⟨(0), Za, H', ⟨Nat.le_refl _⟩, ⟨Zf⟩⟩
 case round =>
  clear H'
  try clear p2
  obtain ⟨x9_1, rfl, HA, HK1, HB⟩ := hrel
  cases gk with
  | zero => exact absurd HA.out (by simp [impl_articleOf.l0])
  | succ k1 =>
   have H := HA.out; clear HA; simp only [impl_articleOf.l0] at H
   by_cases c3 : x9_1 < (l0.length : Int)
   ·rw [if_pos c3] at H
    have c3b0 := decide_eq_true c3; clear c3
    by_cases c4 : 0 ≤ x9_1
    ·rw [if_pos c4] at H
     have c4b0 := decide_eq_true c4; clear c4
     by_cases c5 : x9_1 < (l0.length : Int)
     ·rw [if_pos c5] at H
      have c5b0 := decide_eq_true c5; clear c5
      by_cases c6 : ((rd_T91 l0 x9_1).f0).toList = a1.toList
      ·rw [if_pos c6] at H
       have c6b0 := beq_iff_eq.mpr c6; have c6b1 := bne_eq_false_iff_eq.mpr c6; clear c6; obtain rfl := Option.some.inj H; have p286 : 0 ≤ (x9_1 : Int) := of_decide_eq_true Zc; have q286 : x9_1 < (l0.length : Int) := of_decide_eq_true Zc; obtain ⟨ad286, e286, hx286_0, hx286_1, hx286_2, hx286_3, hx286_4, hx286_5, hx286_6, hx286_7, hx286_8⟩ := at_T91 HR0.out x9_1 p286 q286
       cases e286
       replace hx286_0 := cbH HB hx286_0; replace hx286_1 := cbH HB hx286_1; replace hx286_2 := cbH HB hx286_2; replace hx286_3 := cbH HB hx286_3; replace hx286_4 := cbH HB hx286_4; replace hx286_5 := cbH HB hx286_5; replace hx286_6 := cbH HB hx286_6; replace hx286_7 := cbH HB hx286_7; replace hx286_8 := cbH HB hx286_8; replace p286 := eq_true p286; replace q286 := eq_true q286
       go_wp2_with (first | ((with_reducible refine gate_dst (N := 6) rfl ?_); refine boxZ 6 #[.string (⟨#[]⟩ : ByteArray), .int .i64 0, .int .i64 0, .int .i64 0, .int .i64 0, .int .i64 0, .int .i64 0, .int .i64 0, .int .i64 0] 91 ?_; intro gb287 hg w7 hbox hb; replace BK287 := am_ (hbox); replace GW287 := am_ ((Ze : w.heap.size ≤ gb287)); replace GE287 := GW287; replace HB := (bsZ Zf hb); clear hb hbox hg; refine ci9 BK287 ?_; intros))
       go_ret
       exact ⟨Zg, (Zh GE287)⟩
      ·rw [if_neg c6] at H
       have c6b0 := beq_eq_false_iff_ne.mpr c6; have c6b1 := bne_iff_ne.mpr c6; have H' := am_ H; clear H; have p286 : 0 ≤ (x9_1 : Int) := of_decide_eq_true Zc; have q286 : x9_1 < (l0.length : Int) := of_decide_eq_true Zc; obtain ⟨ad286, e286, hx286_0, hx286_1, hx286_2, hx286_3, hx286_4, hx286_5, hx286_6, hx286_7, hx286_8⟩ := at_T91 HR0.out x9_1 p286 q286
       cases e286
       replace hx286_0 := cbH HB hx286_0; replace hx286_1 := cbH HB hx286_1; replace hx286_2 := cbH HB hx286_2; replace hx286_3 := cbH HB hx286_3; replace hx286_4 := cbH HB hx286_4; replace hx286_5 := cbH HB hx286_5; replace hx286_6 := cbH HB hx286_6; replace hx286_7 := cbH HB hx286_7; replace hx286_8 := cbH HB hx286_8; replace p286 := eq_true p286; replace q286 := eq_true q286
       go_wp2_with (first | ((with_reducible refine gate_dst (N := 6) rfl ?_); refine boxZ 6 #[.string (⟨#[]⟩ : ByteArray), .int .i64 0, .int .i64 0, .int .i64 0, .int .i64 0, .int .i64 0, .int .i64 0, .int .i64 0, .int .i64 0] 91 ?_; intro gb287 hg w9 hbox hb; replace BK287 := am_ (hbox); replace GW287 := am_ ((Ze : w.heap.size ≤ gb287)); replace GE287 := GW287; replace HB := (bsZ Zf hb); clear hb hbox hg; refine ci9 BK287 ?_; intros))
       go_roundg k1
       case measure => have := HK1.out; omega
       case rel => exact ⟨(wrap64 (x9_1 + 1)), Za, H', ⟨Zd⟩, ⟨(Zh GE287)⟩⟩
     ·exact nN c5 H
    ·exact nN c4 H
   ·rw [if_neg c3] at H
    have c3b0 := decide_eq_false c3; clear c3; obtain rfl := Option.some.inj H
    go_wp2
    go_ret
    exact ⟨Zg, Zf⟩
def impl_isIndex.f (a0 : Int) (a1 : Int) : Option (Bool) := (impl_within.f a0 0 (wrap64 (a1 - 1))).bind fun t288 => (some t288)
theorem impl_isIndex.calls (a0 : Int) (a1 : Int) (r : Bool) (w : World) (h : impl_isIndex.f a0 a1 = some r) :
  Calls Try.prog 92 #[.int .i64 a0, .int .i64 a1] w fun e w' => e = .returned (.bool r) ∧ Drawn0 w w' := by
 have H : ((impl_within.f a0 0 (wrap64 (a1 - 1))).bind fun t288 => (some t288)) = some r := h; clear h; obtain ⟨t288, A3, H⟩ := bE_ H; obtain rfl := Option.some.inj H
 go_enter Try.func92, Try.ntmps92
 go_wp2_with (first | ((with_reducible refine gate_callee (f := 31) rfl ?_); refine gZ 8 Try.func31 #[.int .i64 a0, .int .i64 0, .int .i64 (wrap64 (a1 - 1))] ?_; (with_reducible refine (impl_within.calls a0 0 (wrap64 (a1 - 1)) t288 _ A3.out).mono ?_); rintro e w' ⟨rfl, ⟨nd, rfl⟩⟩; refine ⟨_, rfl, ?_⟩))
 go_ret
 exact ⟨Za, Zb⟩
def impl_isBeat.f (l0 : List (S87)) (a1 : Int) (a2 : Int) : Option (Bool) := (impl_isIndex.f a1 (l0.length : Int)).bind fun t289 => (if t289 = true then (if 0 ≤ a1 then (if a1 < (l0.length : Int) then ((impl_within.f a2 0 (wrap64 (((rd_T87 l0 a1).f0) - 1))).bind fun t291 => (some t291)) else (none)) else (none)) else (some false))
theorem impl_isBeat.calls (A0 : Option Addr) (c0 : Nat) (l0 : List (S87)) (a1 : Int) (a2 : Int) (r : Bool) (w : World) (hr0 : Kd.C k87 w A0 l0.length l0) (hc0 : l0.length ≤ c0) (h : impl_isBeat.f l0 a1 a2 = some r) :
  Calls Try.prog 78 #[.slice A0 l0.length c0, .int .i64 a1, .int .i64 a2] w fun e w' => e = .returned (.bool r) ∧ Drawn0 w w' := by
 have HR0 := am_ hr0; have HC0 := am_ hc0; clear hr0 hc0; have H : ((impl_isIndex.f a1 (l0.length : Int)).bind fun t289 => (if t289 = true then (if 0 ≤ a1 then (if a1 < (l0.length : Int) then ((impl_within.f a2 0 (wrap64 (((rd_T87 l0 a1).f0) - 1))).bind fun t291 => (some t291)) else (none)) else (none)) else (some false))) = some r := h; clear h; obtain ⟨t289, A4, H⟩ := bE_ H; have HS_ := am_ H; clear H
 go_enter Try.func78, Try.ntmps78
 go_wp2_with (first | ((with_reducible refine gate_callee (f := 92) rfl ?_); refine gZ 10 Try.func92 #[.int .i64 a1, .int .i64 (l0.length : Int)] ?_; (with_reducible refine (impl_isIndex.calls a1 (l0.length : Int) t289 _ A4.out).mono ?_); rintro e w' ⟨rfl, ⟨nd, rfl⟩⟩; refine ⟨_, rfl, ?_⟩; refine ?roundEnd))
 case roundEnd =>
  by_cases c5 : t289 = true
  ·have H := HS_.out
   clear HS_; subst c5; rw [if_pos rfl] at H
   by_cases c6 : 0 ≤ a1
   ·rw [if_pos c6] at H
    have c6b0 := decide_eq_true c6; clear c6
    by_cases c7 : a1 < (l0.length : Int)
    ·rw [if_pos c7] at H
     have c7b0 := decide_eq_true c7; clear c7; obtain ⟨t291, A8, H⟩ := bE_ H; obtain rfl := Option.some.inj H; have p290 : 0 ≤ (a1 : Int) := of_decide_eq_true Zc; have q290 : a1 < (l0.length : Int) := of_decide_eq_true Zc; obtain ⟨ad290, e290, hx290_0, hx290_1⟩ := at_T87 HR0.out a1 p290 q290
     cases e290
     replace p290 := eq_true p290; replace q290 := eq_true q290
     go_wp2_with (first | (go_at_call 31; (with_reducible refine (impl_within.calls a2 0 (wrap64 (((rd_T87 l0 a1).f0) - 1)) t291 _ A8.out).mono ?_); rintro e w' ⟨rfl, ⟨nd, rfl⟩⟩))
     go_ret
     exact ⟨Za, Zb⟩
    ·exact nN c7 H
   ·exact nN c6 H
  ·have H := HS_.out
   clear HS_; replace c5 := Bool.eq_false_iff.mpr c5; subst c5; rw [if_neg fnt_] at H; obtain rfl := Option.some.inj H
   go_wp2_with (first | fail)
   go_ret
   exact ⟨Za, Zb⟩
def impl_beatTime.l0 : Nat → List (S87) → Int → Int → Int → List (S87) → Int → Int → Option (Int)
 | 0, _, _, _, _, _, _, _ => none
 | k + 1, x0, x1, x2, x7, x12, x13, x14 => if x14 < x13 then (if 0 ≤ x14 then (if x14 < (x12.length : Int) then (impl_beatTime.l0 k x0 x1 x2 (wrap64 (x7 + (wrap64 (((rd_T87 x12 x14).f0) * ((rd_T87 x12 x14).f1))))) x12 x13 (wrap64 (x14 + 1))) else (none)) else (none)) else (if x2 > 0 then (if 0 ≤ x1 then (if x1 < (x0.length : Int) then (some (wrap64 (x7 + (wrap64 (x2 * ((rd_T87 x0 x1).f1)))))) else (none)) else (none)) else (some x7))
def impl_beatTime.f (k : Nat) (l0 : List (S87)) (a1 : Int) (a2 : Int) : Option (Int) := if 0 ≤ a1 then (if a1 ≤ (l0.length : Int) then ((some (l0.take (a1 : Int).toNat : List (S87))).bind fun y292 => (impl_beatTime.l0 k l0 a1 a2 0 y292 (y292.length : Int) 0)) else (none)) else (none)
theorem impl_beatTime.calls (k : Nat) (A0 : Option Addr) (c0 : Nat) (l0 : List (S87)) (a1 : Int) (a2 : Int) (r : Int) (w : World) (hr0 : Kd.C k87 w A0 l0.length l0) (hc0 : l0.length ≤ c0) (h : impl_beatTime.f k l0 a1 a2 = some r) :
  Calls Try.prog 79 #[.slice A0 l0.length c0, .int .i64 a1, .int .i64 a2] w fun e w' => e = .returned (.int .i64 r) ∧ Below w.heap.size w w' := by
 have hu87 := Try.underlying87; have HR0 := am_ hr0; have HC0 := am_ hc0; clear hr0 hc0; have HB := am_ (Below.refl w.heap.size w); have H : (if 0 ≤ a1 then (if a1 ≤ (l0.length : Int) then ((some (l0.take (a1 : Int).toNat : List (S87))).bind fun y292 => (impl_beatTime.l0 k l0 a1 a2 0 y292 (y292.length : Int) 0)) else (none)) else (none)) = some r := h; clear h
 by_cases c4 : 0 ≤ a1
 ·rw [if_pos c4] at H
  have c4b0 := eq_true c4; have c4b1 := decide_eq_true c4; clear c4
  by_cases c5 : a1 ≤ (l0.length : Int)
  ·rw [if_pos c5] at H
   have c5b0 := eq_true c5; have c5b1 := decide_eq_true c5; clear c5; obtain ⟨y292, hy292⟩ : ∃ y_ : List (S87), y_ = (l0.take (a1 : Int).toNat) := ⟨_, rfl⟩
   (first | (rw [← hy292] at H; with_reducible replace H := bindZ H) | rw [← hy292] at H | skip)
   have Ny292 := am_ hy292; clear hy292; have H' := am_ H; clear H; have q6 : (a1 : Int) ≤ ((l0.length : Int) : Int) := of_decide_eq_true Zc; obtain ⟨i06, hi06, _, hsz6, _⟩ := info_parts info87; have hroom6 : l0.length ≤ c0 := HC0.out; have hC6 : Kd.C k87 _ A0 l0.length l0 := HR0.out; have hcut6 := cut_to (P := Try.prog) 31 87 .i64 Try.underlying31 hi06 A0 l0.length c0 a1 (of_decide_eq_true Zc) q6 hroom6; have hr6 := Kd.C_take (m := (a1 : Int).toNat) hC6 (by omega); have hy6 : y292.length = (a1 : Int).toNat := (by rw [Ny292.out, List.length_take]; omega); rw [← Ny292.out] at hr6; rw [← hy6] at hcut6; have HR295 := am_ hr6; have HC295 := am_ (show y292.length ≤ c0 from (by omega)); clear hr6 hC6 hroom6 hi06 hsz6; have KY6 := am_ hy6; clear hy6; replace q6 := eq_true q6
   go_enter Try.func79, Try.ntmps79
   go_wp2
   go_loopg [7, 14] k (fun kq v7 v14 w' => ∃ (x7_1 : Int) (x14_1 : Int), v7 = .int .i64 x7_1 ∧ v14 = .int .i64 x14_1 ∧ Aside0 (impl_beatTime.l0 kq l0 a1 a2 x7_1 y292 (y292.length : Int) x14_1 = some r) ∧ Aside0 (kq ≤ k) ∧ Aside0 (Below w.heap.size w w'))
   case atStart => exact ⟨(0), (0), Za, Za, H', ⟨Nat.le_refl _⟩, ⟨Zf⟩⟩
   case round =>
    clear H'
    try clear p2
    try clear c4
    try clear c4b0
    try clear c4b1
    try clear c5
    try clear c5b0
    try clear c5b1
    try clear q6
    try clear q6
    obtain ⟨x7_1, x14_1, rfl, rfl, HA, HK1, HB⟩ := hrel
    cases gk with
    | zero => exact absurd HA.out (by simp [impl_beatTime.l0])
    | succ k1 =>
     have H := HA.out; clear HA; simp only [impl_beatTime.l0] at H
     by_cases c7 : x14_1 < (y292.length : Int)
     ·rw [if_pos c7] at H
      have c7b0 := decide_eq_true c7; clear c7
      by_cases c8 : 0 ≤ x14_1
      ·rw [if_pos c8] at H
       have c8b0 := decide_eq_true c8; clear c8
       by_cases c9 : x14_1 < (y292.length : Int)
       ·rw [if_pos c9] at H
        have c9b0 := decide_eq_true c9; clear c9; have H' := am_ H; clear H; have p296 : 0 ≤ (x14_1 : Int) := of_decide_eq_true Zc; have q296 : x14_1 < (y292.length : Int) := of_decide_eq_true Zc; obtain ⟨ad296, e296, hx296_0, hx296_1⟩ := at_T87 HR295.out x14_1 p296 q296
        cases e296
        replace hx296_0 := cbH HB hx296_0; replace hx296_1 := cbH HB hx296_1; replace p296 := eq_true p296; replace q296 := eq_true q296
        go_wp2_with (first | ((with_reducible refine gate_dst (N := 9) rfl ?_); refine boxZ 9 #[.int .i64 0, .int .i64 0] 87 ?_; intro gb297 hg w10 hbox hb; replace BK297 := am_ (hbox); replace GW297 := am_ ((Ze : w.heap.size ≤ gb297)); replace GE297 := GW297; replace HB := (bsZ Zf hb); clear hb hbox hg; refine ci2 BK297 ?_; intros))
        go_roundg k1
        case measure => have := HK1.out; omega
        case rel => exact ⟨(wrap64 (x7_1 + (wrap64 (((rd_T87 y292 x14_1).f0) * ((rd_T87 y292 x14_1).f1))))), (wrap64 (x14_1 + 1)), Za, Za, H', ⟨Zd⟩, ⟨(Zh GE297)⟩⟩
       ·exact nN c9 H
      ·exact nN c8 H
     ·rw [if_neg c7] at H
      have c7b0 := decide_eq_false c7; clear c7
      by_cases c12 : a2 > 0
      ·rw [if_pos c12] at H
       have c12b0 : decide (0 < a2) = true := decide_eq_true c12; clear c12
       by_cases c13 : 0 ≤ a1
       ·rw [if_pos c13] at H
        have c13b0 := decide_eq_true c13; clear c13
        by_cases c14 : a1 < (l0.length : Int)
        ·rw [if_pos c14] at H
         have c14b0 := decide_eq_true c14; clear c14; obtain rfl := Option.some.inj H; have p298 : 0 ≤ (a1 : Int) := of_decide_eq_true Zc; have q298 : a1 < (l0.length : Int) := of_decide_eq_true Zc; obtain ⟨ad298, e298, hx298_0, hx298_1⟩ := at_T87 HR0.out a1 p298 q298
         cases e298
         replace hx298_0 := cbH HB hx298_0; replace hx298_1 := cbH HB hx298_1; replace p298 := eq_true p298; replace q298 := eq_true q298
         go_wp2
         go_ret
         exact ⟨Zg, Zf⟩
        ·exact nN c14 H
       ·exact nN c13 H
      ·rw [if_neg c12] at H
       have c12b0 : decide (0 < a2) = false := decide_eq_false c12; clear c12; obtain rfl := Option.some.inj H
       go_wp2
       go_ret
       exact ⟨Zg, Zf⟩
  ·exact nN c5 H
 ·exact nN c4 H
def impl_firedAt.f (k : Nat) (l0_0 : List (S87)) (l0_1 : List (S91)) (l0_2 : List (S80)) (a1_0 : Int) (a1_1 : Int) (a1_2 : ByteArray) (a1_3 : Int) : Option (Int) := (impl_articleOf.f k l0_1 a1_2).bind fun t301 => (if t301 < 0 then (some (-1)) else ((impl_isBeat.f l0_0 a1_0 a1_1).bind fun t302 => (if t302 = true then ((impl_beatTime.f k l0_0 a1_0 a1_1).bind fun t303 => (if 0 ≤ t301 then (if t301 < (l0_1.length : Int) then (some (mx (-1) (wrap64 (t303 - ((rd_T91 l0_1 t301).f3))))) else (none)) else (none))) else (some (-1)))))
def impl_firedAt.T4 : Bool × List (List Nat × List Nat) := (true, [([], []), ([0], [0]), ([], []), ([2], [2]), ([], []), ([4], [4]), ([1, 3, 5], [1, 3, 5]), ([], []), ([7], [7]), ([], []), ([8, 9], [8, 9]), ([10], [10]), ([11], [11]), ([6, 12], [6, 12]), ([13], [13]), ([14, 6, 0, 1, 2, 3, 4, 5, 6, 7, 8, 9, 10, 11, 12, 13, 14], [14])])
def impl_firedAt.B4 : List Nat := [0, 1, 0, 4, 0, 16, 63, 0, 128, 0, 896, 1920, 3968, 8191, 16383, 32767]
theorem impl_firedAt.tab4 : rtab .any (opsOf Try.f64 4) = impl_firedAt.T4 := by kernel_rfl
theorem impl_firedAt.bits4 : waitsOk impl_firedAt.T4.2 impl_firedAt.B4 = true := by kernel_rfl
theorem impl_firedAt.calls (k : Nat) (A0_0 : Option Addr) (c0_0 : Nat) (l0_0 : List (S87)) (A0_1 : Option Addr) (c0_1 : Nat) (l0_1 : List (S91)) (A0_2 : Option Addr) (c0_2 : Nat) (l0_2 : List (S80)) (a1_0 : Int) (a1_1 : Int) (a1_2 : ByteArray) (a1_3 : Int) (r : Int) (w : World) (hr0_0 : Kd.C k87 w A0_0 l0_0.length l0_0) (hc0_0 : l0_0.length ≤ c0_0) (hr0_1 : Kd.C k91 w A0_1 l0_1.length l0_1) (hc0_1 : l0_1.length ≤ c0_1) (hr0_2 : Kd.C k80 w A0_2 l0_2.length l0_2) (hc0_2 : l0_2.length ≤ c0_2) (h : impl_firedAt.f k l0_0 l0_1 l0_2 a1_0 a1_1 a1_2 a1_3 = some r) :
  Calls Try.prog 64 #[.agg #[.slice A0_0 l0_0.length c0_0, .slice A0_1 l0_1.length c0_1, .slice A0_2 l0_2.length c0_2], .agg #[.int .i64 a1_0, .int .i64 a1_1, .string a1_2, .int .i64 a1_3]] w fun e w' => e = .returned (.int .i64 r) ∧ Below w.heap.size w w' := by
 have hu35 := Try.underlying35; have hu80 := Try.underlying80; have HR0_0 := am_ hr0_0; have HC0_0 := am_ hc0_0; clear hr0_0 hc0_0; have HR0_1 := am_ hr0_1; have HC0_1 := am_ hc0_1; clear hr0_1 hc0_1; have HR0_2 := am_ hr0_2; have HC0_2 := am_ hc0_2; clear hr0_2 hc0_2; have HB := am_ (Below.refl w.heap.size w); have H : ((impl_articleOf.f k l0_1 a1_2).bind fun t301 => (if t301 < 0 then (some (-1)) else ((impl_isBeat.f l0_0 a1_0 a1_1).bind fun t302 => (if t302 = true then ((impl_beatTime.f k l0_0 a1_0 a1_1).bind fun t303 => (if 0 ≤ t301 then (if t301 < (l0_1.length : Int) then (some (mx (-1) (wrap64 (t303 - ((rd_T91 l0_1 t301).f3))))) else (none)) else (none))) else (some (-1)))))) = some r := h; clear h; obtain ⟨t301, A3, H⟩ := bE_ H; have HS_ := am_ H; clear H
 go_enter Try.func64, Try.ntmps64
 go_wp2_with (first | ((with_reducible refine gate_dst (N := 2) rfl ?_); refine boxZ 2 #[.slice A0_0 l0_0.length c0_0, .slice A0_1 l0_1.length c0_1, .slice A0_2 l0_2.length c0_2] 35 ?_; intro gb299 hg w5 hbox hb; replace BK299 := am_ (hbox); replace GW299 := am_ ((Ze : w.heap.size ≤ gb299)); replace GE299 := GW299; replace HB := (bsZ Zf hb); clear hb hbox hg) | ((with_reducible refine gate_dst (N := 3) rfl ?_); refine boxZ 3 #[.int .i64 a1_0, .int .i64 a1_1, .string a1_2, .int .i64 a1_3] 80 ?_; intro gb300 hg w6 hbox hb; replace BK300 := am_ (hbox); replace GW300 := am_ (((Zk GE299) : w.heap.size ≤ gb300)); replace GE300 := GW300; replace HB := (bsZ (Zh GE299) hb); replace NB299_300 := am_ ((by rw [hg]; exact Nat.ne_of_lt (blk_lt (g := gb299) (b0Z BK299)) : gb299 ≠ gb300)); replace NB300_299 := am_ ((by rw [hg]; exact Nat.ne_of_gt (blk_lt (g := gb299) (b0Z BK299)) : gb300 ≠ gb299)); replace BK299 := (bkZ BK299 hb); clear hb hbox hg; have hnb7 := NB299_300.out; have hnc7 := NB300_299.out; refine ci3 BK299 ?_; intros; refine ci4 BK300 ?_; intros) | ((with_reducible refine gate_callee (f := 77) rfl ?_); refine gZ 10 Try.func77 #[.slice A0_1 l0_1.length c0_1, .string a1_2] ?_; (with_reducible refine (impl_articleOf.calls k _ _ l0_1 a1_2 t301 _ ?_ ?_ A3.out).mono ?_); exact (Zl HR0_1); exact HC0_1.out; rintro e w10 ⟨rfl, hb⟩; refine ⟨_, rfl, ?_⟩; replace BK299 := (bkZ BK299 hb); replace BK300 := (bkZ BK300 hb); replace HB := (bsZ (Zn GE299 GE300) hb); clear hb; refine ?roundEnd))
 case roundEnd =>
  by_cases c4 : t301 < 0
  ·have H := HS_.out
   clear HS_; rw [if_pos c4] at H; have c4b0 := decide_eq_true c4; clear c4; obtain rfl := Option.some.inj H
   go_wp2_with (first | fail)
   go_ret
   exact ⟨Zg, (Zn GE299 GE300)⟩
  ·have H := HS_.out
   clear HS_; rw [if_neg c4] at H; have c4b0 := decide_eq_false c4; clear c4; obtain ⟨t302, A11, H⟩ := bE_ H; have HS_ := am_ H; clear H; refine ci3 BK299 ?_; intros; refine ci4 BK300 ?_; intros
   try go_wp2_with (first | (go_at_call 78; (with_reducible refine (impl_isBeat.calls _ _ l0_0 a1_0 a1_1 t302 _ ?_ ?_ A11.out).mono ?_); exact (Zl HR0_0); exact HC0_0.out; rintro e w' ⟨rfl, ⟨nd, rfl⟩⟩; refine ?roundEnd))
   case roundEnd =>
    by_cases c12 : t302 = true
    ·have H := HS_.out
     clear HS_; subst c12; rw [if_pos rfl] at H; obtain ⟨t303, A13, H⟩ := bE_ H
     by_cases c14 : 0 ≤ t301
     ·rw [if_pos c14] at H
      have c14b0 := decide_eq_true c14; clear c14
      by_cases c15 : t301 < (l0_1.length : Int)
      ·rw [if_pos c15] at H
       have c15b0 := decide_eq_true c15; clear c15; obtain ⟨ji16, hji16⟩ : ∃ j_ : Int, (mx (-1) (wrap64 (t303 - ((rd_T91 l0_1 t301).f3)))) = j_ := ⟨_, rfl⟩
       replace H : (some ji16) = some r := by first | (rw [hji16] at H; exact H) | (simp only [hji16] at H ⊢; exact H)
       (try rw [hji16] at A3)
       (try rw [hji16] at A11)
       (try rw [hji16] at A13)
       have hji16_ : (if (-1) < (wrap64 (t303 - ((rd_T91 l0_1 t301).f3))) then (wrap64 (t303 - ((rd_T91 l0_1 t301).f3))) else (-1)) = ji16 := hji16; obtain rfl := Option.some.inj H
       try go_wp2_with (first | fail)
       (try (rw [drewN_self w10]; generalize hq_ : World.drewN w10 _ = w10; replace BK299 : Aside0 (w10.heap[gb299]? = some (.cells #[.slice A0_0 l0_0.length c0_0, .slice A0_1 l0_1.length c0_1, .slice A0_2 l0_2.length c0_2] 35 (0, 0))) := ⟨by rw [← hq_]; exact (b0Z BK299)⟩; replace BK300 : Aside0 (w10.heap[gb300]? = some (.cells #[.int .i64 a1_0, .int .i64 a1_1, .string a1_2, .int .i64 a1_3] 80 (0, 0))) := ⟨by rw [← hq_]; exact (b0Z BK300)⟩; replace HB : Aside0 (Below w.heap.size w w10) := ⟨by rw [← hq_]; exact (Zn GE299 GE300)⟩; clear hq_))
       replace BK299 := am_ (blk_drew BK299.out); replace BK300 := am_ (blk_drew BK300.out); replace HB := am_ (below_drew1 HB.out); have p304 : 0 ≤ (t301 : Int) := of_decide_eq_true Zc; have q304 : t301 < (l0_1.length : Int) := of_decide_eq_true Zc; obtain ⟨ad304, e304, hx304_0, hx304_1, hx304_2, hx304_3, hx304_4, hx304_5, hx304_6, hx304_7, hx304_8⟩ := at_T91 HR0_1.out t301 p304 q304; have hw304_8 := hx304_8; have hw304_7 := hx304_7; have hw304_6 := hx304_6; have hw304_5 := hx304_5; have hw304_4 := hx304_4; have hw304_3 := hx304_3; have hw304_2 := hx304_2; have hw304_1 := hx304_1; have hw304_0 := hx304_0
       cases e304
       replace hx304_0 := cbH HB hx304_0; replace hx304_1 := cbH HB hx304_1; replace hx304_2 := cbH HB hx304_2; replace hx304_3 := cbH HB hx304_3; replace hx304_4 := cbH HB hx304_4; replace hx304_5 := cbH HB hx304_5; replace hx304_6 := cbH HB hx304_6; replace hx304_7 := cbH HB hx304_7; replace hx304_8 := cbH HB hx304_8; replace p304 := eq_true p304; replace q304 := eq_true q304; refine start_ (n := 16) (S := fun w' => w'.cell? ⟨gb299, 0, none⟩ = some (.slice A0_0 l0_0.length c0_0) ∧ w'.cell? ⟨gb299, 1, none⟩ = some (.slice (some ad304) l0_1.length c0_1) ∧ w'.cell? ⟨gb299, 2, none⟩ = some (.slice A0_2 l0_2.length c0_2) ∧ w'.cell? ⟨gb300, 0, none⟩ = some (.int .i64 a1_0) ∧ w'.cell? ⟨gb300, 1, none⟩ = some (.int .i64 a1_1) ∧ w'.cell? ⟨gb300, 2, none⟩ = some (.string a1_2) ∧ w'.cell? ⟨gb300, 3, none⟩ = some (.int .i64 a1_3) ∧ w'.cell? (ad304.add ((t301).toNat * 9)) = some (.string ((rd_T91 l0_1 t301).f0)) ∧ w'.cell? ⟨(ad304.add ((t301).toNat * 9)).block, (ad304.add ((t301).toNat * 9)).off + 1, none⟩ = some (.int .i64 ((rd_T91 l0_1 t301).f1)) ∧ w'.cell? ⟨(ad304.add ((t301).toNat * 9)).block, (ad304.add ((t301).toNat * 9)).off + 2, none⟩ = some (.int .i64 ((rd_T91 l0_1 t301).f2)) ∧ w'.cell? ⟨(ad304.add ((t301).toNat * 9)).block, (ad304.add ((t301).toNat * 9)).off + 3, none⟩ = some (.int .i64 ((rd_T91 l0_1 t301).f3)) ∧ w'.cell? ⟨(ad304.add ((t301).toNat * 9)).block, (ad304.add ((t301).toNat * 9)).off + 4, none⟩ = some (.int .i64 ((rd_T91 l0_1 t301).f4)) ∧ w'.cell? ⟨(ad304.add ((t301).toNat * 9)).block, (ad304.add ((t301).toNat * 9)).off + 5, none⟩ = some (.int .i64 ((rd_T91 l0_1 t301).f5)) ∧ w'.cell? ⟨(ad304.add ((t301).toNat * 9)).block, (ad304.add ((t301).toNat * 9)).off + 6, none⟩ = some (.int .i64 ((rd_T91 l0_1 t301).f6)) ∧ w'.cell? ⟨(ad304.add ((t301).toNat * 9)).block, (ad304.add ((t301).toNat * 9)).off + 7, none⟩ = some (.int .i64 ((rd_T91 l0_1 t301).f7)) ∧ w'.cell? ⟨(ad304.add ((t301).toNat * 9)).block, (ad304.add ((t301).toNat * 9)).off + 8, none⟩ = some (.int .i64 ((rd_T91 l0_1 t301).f8))) (ds := []) (bT 16 0) Zi rfl rfl ⟨(blk_cell BK299.out 0).trans rfl, (blk_cell BK299.out 1).trans rfl, (blk_cell BK299.out 2).trans rfl, (blk_cell BK300.out 0).trans rfl, (blk_cell BK300.out 1).trans rfl, (blk_cell BK300.out 2).trans rfl, (blk_cell BK300.out 3).trans rfl, (cbH HB hw304_0 :), (cbH HB hw304_1 :), (cbH HB hw304_2 :), (cbH HB hw304_3 :), (cbH HB hw304_4 :), (cbH HB hw304_5 :), (cbH HB hw304_6 :), (cbH HB hw304_7 :), (cbH HB hw304_8 :)⟩ (fun hHeld => ?_); refine with_tabW impl_firedAt.tab4 impl_firedAt.bits4 (fun HT_ HW_ => ?_); generalize w10.drew = w25 at BK299 BK300 HB hx304_0 hx304_1 hx304_2 hx304_3 hx304_4 hx304_5 hx304_6 hx304_7 hx304_8 hHeld ⊢; refine pureZ HT_ 0 (some 23) (bT 16 1) ?_; refine pureZ HT_ 2 (some 25) (bB 16 5) ?_; refine pureZ HT_ 4 (some 27) (bB 16 21) ?_; refine pureZ HT_ 7 (some 30) (bB 16 149) ?_; refine pureZ HT_ 9 (some 32) (bB 16 661) ?_; refine takeZ16 HT_ HW_ 1 (some 24) (bB 16 663) hHeld ?_; refine takeZ16 HT_ HW_ 3 (some 26) (bB 16 671) hHeld ?_
       refine takeZ16 HT_ HW_ 5 (some 28) (bB 16 703) hHeld ?_; refine takeZ16 HT_ HW_ 8 (some 31) (bB 16 959) hHeld ?_; refine pureZ HT_ 10 (some 33) (bB 16 1983) ?_; refine pureZ HT_ 11 (some 34) (bB 16 4031) ?_; refine takeZ16 HT_ HW_ 12 (some 35) (bB 16 8127) hHeld ?_; refine one_ (i := 6) (N := some 29) (bT 16 13) rfl rfl (one_of HT_.out Zi) (by decide) (fun K hK => ?_); refine goes_ Try.func79 Zi rfl #[.slice A0_0 l0_0.length c0_0, .int .i64 a1_0, .int .i64 a1_1] (by rfl) rfl rfl Zj ?_
       with_reducible refine (impl_beatTime.calls k _ _ l0_0 a1_0 a1_1 t303 _ ?side1 ?side2 A13.out).mono ?_
       (case side1 => exact (Zl HR0_0))
       (case side2 => exact HC0_0.out)
       rintro e w26 ⟨rfl, hb⟩; refine ⟨_, rfl, ?_⟩; replace BK299 := (bkZ BK299 hb); replace BK300 := (bkZ BK300 hb); replace HB := (bsZ (Zn GE299 GE300) hb)
       (try clear hb)
       (try clear hb2)
       (try clear hk)
       (try clear hi)
       refine hK.out _ _ (Zs BK299 BK300 hw304_0 hw304_1 hw304_2 hw304_3 hw304_4 hw304_5 hw304_6 hw304_7 hw304_8) (fun hHeld => ?_); clear hK K; refine normZ 29 ?_; refine pureZ HT_ 13 (some 36) (bT 16 14) ?_; refine pureZ HT_ 14 (some 37) (bT 16 15) ?_; refine pureZ HT_ 15 (some 4) (bT 16 16) ?_; refine done_ (done_of HT_.out Zi) ?_
       try go_wp2
       go_ret
       exact ⟨by first | rfl | (simp [errW_none, errW_some] <;> rfl) | (simp only [← hji16]; first | rfl | (simp [errW_none, errW_some] <;> rfl)) | (simp [*, errW_none, errW_some] <;> rfl), (Zn GE299 GE300)⟩
      ·exact nN c15 H
     ·exact nN c14 H
    ·have H := HS_.out
     clear HS_; replace c12 := Bool.eq_false_iff.mpr c12; subst c12; rw [if_neg fnt_] at H; obtain rfl := Option.some.inj H
     go_wp2_with (first | fail)
     go_ret
     exact ⟨Zg, (Zn GE299 GE300)⟩
mutual
def impl_IsShow.j0 : Nat → Bool → List (S87) → List (S91) → List (S80) → Option (Bool)
 | 0, _, _, _, _ => none
 | k + 1, x20, x306000, x306001, x306002 => if x20 = true then (some false) else (impl_IsShow.l0 k x306002 (x306002.length : Int) 0 x306000 x306001 x306002)
def impl_IsShow.l0 : Nat → List (S80) → Int → Int → List (S87) → List (S91) → List (S80) → Option (Bool)
 | 0, _, _, _, _, _, _ => none
 | k + 1, x22, x23, x24, x306000, x306001, x306002 => if x24 < x23 then (if 0 ≤ x24 then (if x24 < (x22.length : Int) then ((impl_within.f ((rd_T80 x22 x24).f3) 0 11).bind fun t310 => (if t310 = true then ((impl_firedAt.f k x306000 x306001 x306002 ((rd_T80 x22 x24).f0) ((rd_T80 x22 x24).f1) ((rd_T80 x22 x24).f2) ((rd_T80 x22 x24).f3)).bind fun t311 => (if t311 < 0 then (some false) else (impl_IsShow.l0 k x22 x23 (wrap64 (x24 + 1)) x306000 x306001 x306002))) else (some false))) else (none)) else (none)) else (some true)
end
def impl_IsShow.f (k : Nat) (l0_0 : List (S87)) (l0_1 : List (S91)) (l0_2 : List (S80)) : Option (Bool) := (impl_IsScore.f k l0_0).bind fun t306 => (if t306 = true then ((impl_AreArticles.f k l0_1).bind fun t307 => (if t307 = true then (impl_IsShow.j0 k (decide ((l0_2.length : Int) > 20)) l0_0 l0_1 l0_2) else (impl_IsShow.j0 k true l0_0 l0_1 l0_2))) else (impl_IsShow.j0 k true l0_0 l0_1 l0_2))
theorem impl_IsShow.calls (k : Nat) (A0_0 : Option Addr) (c0_0 : Nat) (l0_0 : List (S87)) (A0_1 : Option Addr) (c0_1 : Nat) (l0_1 : List (S91)) (A0_2 : Option Addr) (c0_2 : Nat) (l0_2 : List (S80)) (r : Bool) (w : World) (hr0_0 : Kd.C k87 w A0_0 l0_0.length l0_0) (hc0_0 : l0_0.length ≤ c0_0) (hr0_1 : Kd.C k91 w A0_1 l0_1.length l0_1) (hc0_1 : l0_1.length ≤ c0_1) (hr0_2 : Kd.C k80 w A0_2 l0_2.length l0_2) (hc0_2 : l0_2.length ≤ c0_2) (h : impl_IsShow.f k l0_0 l0_1 l0_2 = some r) :
  Calls Try.prog 30 #[.agg #[.slice A0_0 l0_0.length c0_0, .slice A0_1 l0_1.length c0_1, .slice A0_2 l0_2.length c0_2]] w fun e w' => e = .returned (.bool r) ∧ Below w.heap.size w w' := by
 have hu35 := Try.underlying35; have hu80 := Try.underlying80; have HR0_0 := am_ hr0_0; have HC0_0 := am_ hc0_0; clear hr0_0 hc0_0; have HR0_1 := am_ hr0_1; have HC0_1 := am_ hc0_1; clear hr0_1 hc0_1; have HR0_2 := am_ hr0_2; have HC0_2 := am_ hc0_2; clear hr0_2 hc0_2; have HB := am_ (Below.refl w.heap.size w); have H : ((impl_IsScore.f k l0_0).bind fun t306 => (if t306 = true then ((impl_AreArticles.f k l0_1).bind fun t307 => (if t307 = true then (impl_IsShow.j0 k (decide ((l0_2.length : Int) > 20)) l0_0 l0_1 l0_2) else (impl_IsShow.j0 k true l0_0 l0_1 l0_2))) else (impl_IsShow.j0 k true l0_0 l0_1 l0_2))) = some r := h; clear h; have HC2 := am_ H; clear H
 go_enter Try.func30, Try.ntmps30
 go_upto_region 1 with (first | ((with_reducible refine gate_dst (N := 1) rfl ?_); (try (refine gate_guard (by rfl) ?_; dsimp only)); refine boxZ 1 #[.slice A0_0 l0_0.length c0_0, .slice A0_1 l0_1.length c0_1, .slice A0_2 l0_2.length c0_2] 35 ?_; intro gb305 hg w3 hbox hb; replace BK305 := am_ (hbox); replace GW305 := am_ ((Ze : w.heap.size ≤ gb305)); replace GE305 := GW305; replace HB := (bsZ Zf hb); clear hb hbox hg))
 (try simp only [Act.put, List.setIfInBounds_toArray, List.set_cons_zero, List.set_cons_succ])
 go_cut [20] (fun v20 wc => ∃ (kq : Nat) (x20_1 : Bool), v20 = .bool x20_1 ∧ Aside0 (impl_IsShow.j0 kq x20_1 l0_0 l0_1 l0_2 = some r) ∧ Aside0 (kq ≤ k) ∧ Aside0 (wc.heap[gb305]? = some (.cells #[(.slice A0_0 l0_0.length c0_0), (.slice A0_1 l0_1.length c0_1), (.slice A0_2 l0_2.length c0_2)] 35 (0, 0))) ∧ Aside0 (Below w.heap.size w wc))
 case first =>
  have H := HC2.out; clear HC2; obtain ⟨t306, A4, H⟩ := bE_ H; have HS_ := am_ H; clear H; refine ci3 BK305 ?_; intros
  go_wp2_with (first | ((with_reducible refine gate_callee (f := 62) rfl ?_); refine gZ 7 Try.func62 #[.slice A0_0 l0_0.length c0_0] ?_; (with_reducible refine (impl_IsScore.calls k _ _ l0_0 t306 _ ?_ ?_ A4.out).mono ?_); exact (Zl HR0_0); exact HC0_0.out; rintro e w9 ⟨rfl, hb⟩; refine ⟨_, rfl, ?_⟩; replace BK305 := (bkZ BK305 hb); replace HB := (bsZ (Zh GE305) hb); clear hb; refine ?roundEnd))
  case roundEnd =>
   by_cases c5 : t306 = true
   ·have H := HS_.out
    clear HS_; subst c5; rw [if_pos rfl] at H; obtain ⟨t307, A6, H⟩ := bE_ H; have HS_ := am_ H; clear H; refine ci3 BK305 ?_; intros
    go_wp2_with (first | (go_at_call 63; (with_reducible refine (impl_AreArticles.calls k _ _ l0_1 t307 _ ?_ ?_ A6.out).mono ?_); exact (Zl HR0_1); exact HC0_1.out; rintro e w11 ⟨rfl, hb⟩; replace BK305 := (bkZ BK305 hb); replace HB := (bsZ (Zh GE305) hb); clear hb; refine ?roundEnd))
    case roundEnd =>
     by_cases c7 : t307 = true
     ·have H := HS_.out
      clear HS_; subst c7; rw [if_pos rfl] at H; have H' := am_ H; clear H; refine ci3 BK305 ?_; intros
      go_wp2_with (first | fail)
      go_meet
      case rel => exact ⟨_, (decide ((l0_2.length : Int) > 20)), Za, H', ⟨Zp⟩, ⟨(Zq BK305)⟩, ⟨(Zh GE305)⟩⟩
     ·have H := HS_.out
      clear HS_; replace c7 := Bool.eq_false_iff.mpr c7; subst c7; rw [if_neg fnt_] at H; have H' := am_ H; clear H
      go_wp2_with (first | fail)
      go_meet
      case rel => exact ⟨_, (true), Za, H', ⟨Zp⟩, ⟨(Zq BK305)⟩, ⟨(Zh GE305)⟩⟩
   ·have H := HS_.out
    clear HS_; replace c5 := Bool.eq_false_iff.mpr c5; subst c5; rw [if_neg fnt_] at H; have H' := am_ H; clear H
    go_wp2_with (first | fail)
    go_meet
    case rel => exact ⟨_, (true), Za, H', ⟨Zp⟩, ⟨(Zq BK305)⟩, ⟨(Zh GE305)⟩⟩
 case rest =>
  clear HC2
  try clear p2
  try clear c3
  try clear c5
  try clear c6
  try clear c7
  obtain ⟨kq, x20_1, rfl, HA, HJ1, BK305, HB⟩ := hcut
  cases kq with
  | zero => exact absurd HA.out (by simp [impl_IsShow.j0])
  | succ kj1 =>
   have H := HA.out; clear HA; simp only [impl_IsShow.j0] at H
   by_cases c19 : x20_1 = true
   ·subst c19
    rw [if_pos rfl] at H; obtain rfl := Option.some.inj H
    go_wp2
    go_ret
    exact ⟨Zg, (Zh GE305)⟩
   ·replace c19 := Bool.eq_false_iff.mpr c19
    subst c19; rw [if_neg fnt_] at H; have H' := am_ H; clear H; refine ci3 BK305 ?_; intros
    go_wp2
    go_loopg [24] kj1 (fun kq v24 w' => ∃ (x24_2 : Int), v24 = .int .i64 x24_2 ∧ Aside0 (impl_IsShow.l0 kq l0_2 (l0_2.length : Int) x24_2 l0_0 l0_1 l0_2 = some r) ∧ Aside0 (kq ≤ kj1) ∧ Aside0 (w'.heap[gb305]? = some (.cells #[(.slice A0_0 l0_0.length c0_0), (.slice A0_1 l0_1.length c0_1), (.slice A0_2 l0_2.length c0_2)] 35 (0, 0))) ∧ Aside0 (Below w.heap.size w w'))
    case atStart => exact ⟨(0), Za, H', ⟨Nat.le_refl _⟩, ⟨(Zq BK305)⟩, ⟨(Zh GE305)⟩⟩
    case round =>
     clear H'
     try clear c1
     try clear p2
     try clear c3
     try clear c5
     try clear c6
     try clear c7
     try clear c19
     try clear p2
     obtain ⟨x24_2, rfl, HA, HK2, BK305, HB⟩ := hrel
     cases gk with
     | zero => exact absurd HA.out (by simp [impl_IsShow.l0])
     | succ k2 =>
      have H := HA.out; clear HA; simp only [impl_IsShow.l0] at H
      by_cases c21 : x24_2 < (l0_2.length : Int)
      ·rw [if_pos c21] at H
       have c21b0 := decide_eq_true c21; clear c21
       by_cases c22 : 0 ≤ x24_2
       ·rw [if_pos c22] at H
        have c22b0 := decide_eq_true c22; clear c22
        by_cases c23 : x24_2 < (l0_2.length : Int)
        ·rw [if_pos c23] at H
         have c23b0 := decide_eq_true c23; clear c23; obtain ⟨t310, A24, H⟩ := bE_ H
         by_cases c25 : t310 = true
         ·subst c25
          rw [if_pos rfl] at H; obtain ⟨t311, A26, H⟩ := bE_ H; have HS_ := am_ H; clear H; have p308 : 0 ≤ (x24_2 : Int) := of_decide_eq_true Zc; have q308 : x24_2 < (l0_2.length : Int) := of_decide_eq_true Zc; obtain ⟨ad308, e308, hx308_0, hx308_1, hx308_2, hx308_3⟩ := at_T80 HR0_2.out x24_2 p308 q308
          cases e308
          replace hx308_0 := cbH HB hx308_0; replace hx308_1 := cbH HB hx308_1; replace hx308_2 := cbH HB hx308_2; replace hx308_3 := cbH HB hx308_3; replace p308 := eq_true p308; replace q308 := eq_true q308
          go_wp2_with (first | ((with_reducible refine gate_dst (N := 4) rfl ?_); (try (refine gate_guard (by rfl) ?_; dsimp only)); refine boxZ 4 #[.int .i64 0, .int .i64 0, .string (⟨#[]⟩ : ByteArray), .int .i64 0] 80 ?_; intro gb309 hg w28 hbox hb; replace BK309 := am_ (hbox); replace GW309 := am_ (((Zk GE305) : w.heap.size ≤ gb309)); replace GE309 := GW309; replace HB := (bsZ (Zh GE305) hb); replace NB305_309 := am_ ((by rw [hg]; exact Nat.ne_of_lt (blk_lt (g := gb305) (b0Z BK305)) : gb305 ≠ gb309)); replace NB309_305 := am_ ((by rw [hg]; exact Nat.ne_of_gt (blk_lt (g := gb305) (b0Z BK305)) : gb309 ≠ gb305)); replace BK305 := (bkZ BK305 hb); clear hb hbox hg; have hnb29 := NB309_305.out; have hnc29 := NB305_309.out; refine ci4 BK309 ?_; intros) | ((with_reducible refine gate_callee (f := 31) rfl ?_); refine gZ 30 Try.func31 #[.int .i64 ((rd_T80 l0_2 x24_2).f3), .int .i64 0, .int .i64 11] ?_; (with_reducible refine (impl_within.calls ((rd_T80 l0_2 x24_2).f3) 0 11 true _ A24.out).mono ?_); rintro e w' ⟨rfl, ⟨nd, rfl⟩⟩; refine ⟨_, rfl, ?_⟩; refine ci3 BK305 ?_; intros) | (go_at_call 64; (with_reducible refine (impl_firedAt.calls k2 _ _ l0_0 _ _ l0_1 _ _ l0_2 ((rd_T80 l0_2 x24_2).f0) ((rd_T80 l0_2 x24_2).f1) ((rd_T80 l0_2 x24_2).f2) ((rd_T80 l0_2 x24_2).f3) t311 _ ?_ ?_ ?_ ?_ ?_ ?_ A26.out).mono ?_); exact Kd.C_below HR0_0.out (Zn GE305 GE309); exact HC0_0.out; exact Kd.C_below HR0_1.out (Zn GE305 GE309); exact HC0_1.out; exact Kd.C_below HR0_2.out (Zn GE305 GE309); exact HC0_2.out; rintro e w32 ⟨rfl, hb⟩; replace BK305 := am_ (blk_below (g := gb305) (bfZ BK305 NB305_309) hb); replace BK309 := am_ (blk_below (g := gb309) (o := .cells #[.int .i64 ((rd_T80 l0_2 x24_2).f0), .int .i64 ((rd_T80 l0_2 x24_2).f1), .string ((rd_T80 l0_2 x24_2).f2), .int .i64 ((rd_T80 l0_2 x24_2).f3)] 80 (0, 0)) (bpZ BK309) hb); replace HB := (bsZ (Zn GE305 GE309) hb); clear hb; refine ?roundEnd))
          case roundEnd =>
           by_cases c27 : t311 < 0
           ·have H := HS_.out
            clear HS_; rw [if_pos c27] at H; have c27b0 := decide_eq_true c27; clear c27; obtain rfl := Option.some.inj H
            go_wp2_with (first | fail)
            go_ret
            exact ⟨Zg, (Zn GE305 GE309)⟩
           ·have H := HS_.out
            clear HS_; rw [if_neg c27] at H; have c27b0 := decide_eq_false c27; clear c27; have H' := am_ H; clear H
            go_wp2_with (first | fail)
            go_roundg k2
            case measure => have := HJ1.out; have := HK2.out; omega
            case rel => exact ⟨(wrap64 (x24_2 + 1)), Za, H', ⟨by have := HJ1.out; have := HK2.out; omega⟩, ⟨(Zq BK305)⟩, ⟨(Zn GE305 GE309)⟩⟩
         ·replace c25 := Bool.eq_false_iff.mpr c25
          subst c25; rw [if_neg fnt_] at H; obtain rfl := Option.some.inj H; have p308 : 0 ≤ (x24_2 : Int) := of_decide_eq_true Zc; have q308 : x24_2 < (l0_2.length : Int) := of_decide_eq_true Zc; obtain ⟨ad308, e308, hx308_0, hx308_1, hx308_2, hx308_3⟩ := at_T80 HR0_2.out x24_2 p308 q308
          cases e308
          replace hx308_0 := cbH HB hx308_0; replace hx308_1 := cbH HB hx308_1; replace hx308_2 := cbH HB hx308_2; replace hx308_3 := cbH HB hx308_3; replace p308 := eq_true p308; replace q308 := eq_true q308
          go_wp2_with (first | ((with_reducible refine gate_dst (N := 4) rfl ?_); (try (refine gate_guard (by rfl) ?_; dsimp only)); refine boxZ 4 #[.int .i64 0, .int .i64 0, .string (⟨#[]⟩ : ByteArray), .int .i64 0] 80 ?_; intro gb309 hg w38 hbox hb; replace BK309 := am_ (hbox); replace GW309 := am_ (((Zk GE305) : w.heap.size ≤ gb309)); replace GE309 := GW309; replace HB := (bsZ (Zh GE305) hb); replace NB305_309 := am_ ((by rw [hg]; exact Nat.ne_of_lt (blk_lt (g := gb305) (b0Z BK305)) : gb305 ≠ gb309)); replace NB309_305 := am_ ((by rw [hg]; exact Nat.ne_of_gt (blk_lt (g := gb305) (b0Z BK305)) : gb309 ≠ gb305)); replace BK305 := (bkZ BK305 hb); clear hb hbox hg; have hnb39 := NB309_305.out; have hnc39 := NB305_309.out; refine ci4 BK309 ?_; intros) | ((with_reducible refine gate_callee (f := 31) rfl ?_); refine gZ 30 Try.func31 #[.int .i64 ((rd_T80 l0_2 x24_2).f3), .int .i64 0, .int .i64 11] ?_; (with_reducible refine (impl_within.calls ((rd_T80 l0_2 x24_2).f3) 0 11 false _ A24.out).mono ?_); rintro e w' ⟨rfl, ⟨nd, rfl⟩⟩; refine ⟨_, rfl, ?_⟩))
          go_ret
          exact ⟨Zg, (Zn GE305 GE309)⟩
        ·exact nN c23 H
       ·exact nN c22 H
      ·rw [if_neg c21] at H
       have c21b0 := decide_eq_false c21; clear c21; obtain rfl := Option.some.inj H
       go_wp2
       go_ret
       exact ⟨Zg, (Zh GE305)⟩
def impl_shotWindows.l0 : Nat → Int → List (List Int) → Int → ByteArray → Int → Int → Int → Int → Int → Int → Int → Int → Option ((List (List Int)))
 | 0, _, _, _, _, _, _, _, _, _, _, _, _ => none
 | k + 1, x1, x5, x6, x313000, x313001, x313002, x313003, x313004, x313005, x313006, x313007, x313008 => if x6 < x313005 then (if x5.length < 5864062014805 then (impl_shotWindows.l0 k x1 (x5 ++ [(([wrap64 ((wrap64 ((wrap64 (x1 + x313003)) + (wrap64 (x6 * x313006)))) - x313004), wrap64 ((wrap64 ((wrap64 (x1 + x313003)) + (wrap64 (x6 * x313006)))) + x313004)] : List Int))]) (wrap64 (x6 + 1)) x313000 x313001 x313002 x313003 x313004 x313005 x313006 x313007 x313008) else (none)) else (some x5)
def impl_shotWindows.f (k : Nat) (a0_0 : ByteArray) (a0_1 : Int) (a0_2 : Int) (a0_3 : Int) (a0_4 : Int) (a0_5 : Int) (a0_6 : Int) (a0_7 : Int) (a0_8 : Int) (a1 : Int) : Option ((List (List Int))) := impl_shotWindows.l0 k a1 ([] : List (List Int)) 0 a0_0 a0_1 a0_2 a0_3 a0_4 a0_5 a0_6 a0_7 a0_8
theorem impl_shotWindows.calls (k : Nat) (a0_0 : ByteArray) (a0_1 : Int) (a0_2 : Int) (a0_3 : Int) (a0_4 : Int) (a0_5 : Int) (a0_6 : Int) (a0_7 : Int) (a0_8 : Int) (a1 : Int) (r : List (List Int)) (w : World) (h : impl_shotWindows.f k a0_0 a0_1 a0_2 a0_3 a0_4 a0_5 a0_6 a0_7 a0_8 a1 = some r) :
  Calls Try.prog 80 #[.agg #[.string a0_0, .int .i64 a0_1, .int .i64 a0_2, .int .i64 a0_3, .int .i64 a0_4, .int .i64 a0_5, .int .i64 a0_6, .int .i64 a0_7, .int .i64 a0_8], .int .i64 a1] w fun e w' => ∃ v0_ : Value, e = .returned (v0_) ∧ Kd.S (Kd.slice 2 (Kd.int .i64)) 47 w' w.heap.size (fun _ => True) v0_ r ∧ Below w.heap.size w w' := by
 have hu91 := Try.underlying91; have HB := am_ (Below.refl w.heap.size w); have H : (impl_shotWindows.l0 k a1 ([] : List (List Int)) 0 a0_0 a0_1 a0_2 a0_3 a0_4 a0_5 a0_6 a0_7 a0_8) = some r := h; clear h; have H' := am_ H; clear H
 go_enter Try.func80, Try.ntmps80
 go_wp2_with (first | ((with_reducible refine gate_dst (N := 2) rfl ?_); refine boxZ 2 #[.string a0_0, .int .i64 a0_1, .int .i64 a0_2, .int .i64 a0_3, .int .i64 a0_4, .int .i64 a0_5, .int .i64 a0_6, .int .i64 a0_7, .int .i64 a0_8] 91 ?_; intro gb312 hg w3 hbox hb; replace BK312 := am_ (hbox); replace GW312 := am_ ((Ze : w.heap.size ≤ gb312)); replace GE312 := GW312; replace HB := (bsZ Zf hb); clear hb hbox hg))
 go_loopg [5, 6] k (fun kq v5 v6 w' => ∃ (x5_1 : List (List Int)) (x6_1 : Int), v6 = .int .i64 x6_1 ∧ Aside0 (impl_shotWindows.l0 kq a1 x5_1 x6_1 a0_0 a0_1 a0_2 a0_3 a0_4 a0_5 a0_6 a0_7 a0_8 = some r) ∧ Aside0 (kq ≤ k) ∧ Aside0 (Kd.S (Kd.slice 2 (Kd.int .i64)) 47 w' w.heap.size (fun _ => True) v5 x5_1) ∧ Aside0 (w'.heap[gb312]? = some (.cells #[.string a0_0, .int .i64 a0_1, .int .i64 a0_2, .int .i64 a0_3, .int .i64 a0_4, .int .i64 a0_5, .int .i64 a0_6, .int .i64 a0_7, .int .i64 a0_8] 91 (0, 0))) ∧ Aside0 (Below w.heap.size w w'))
 case atStart => exact ⟨(([] : List (List Int))), (0), Za, H', ⟨Nat.le_refl _⟩, ⟨Zar⟩, ⟨(Zq BK312)⟩, ⟨(Zh GE312)⟩⟩
 case round =>
  clear H'
  try clear p2
  obtain ⟨x5_1, x6_1, rfl, HA, HK1, HO_5, BK312, HB⟩ := hrel
  cases gk with
  | zero => exact absurd HA.out (by simp [impl_shotWindows.l0])
  | succ k1 =>
   have H := HA.out; clear HA; simp only [impl_shotWindows.l0] at H
   by_cases c4 : x6_1 < a0_5
   ·rw [if_pos c4] at H
    have c4b0 := decide_eq_true c4; clear c4; obtain ⟨y313, hy313⟩ : ∃ y_ : List Int, y_ = (([wrap64 ((wrap64 ((wrap64 (a1 + a0_3)) + (wrap64 (x6_1 * a0_6)))) - a0_4), wrap64 ((wrap64 ((wrap64 (a1 + a0_3)) + (wrap64 (x6_1 * a0_6)))) + a0_4)] : List Int)) := ⟨_, rfl⟩
    (first | (rw [← hy313] at H; with_reducible replace H := bindZ H) | rw [← hy313] at H | skip)
    have Ny313 := am_ hy313; clear hy313
    by_cases c5 : x5_1.length < 5864062014805
    ·rw [if_pos c5] at H
     have LMc5 := am_ c5; clear c5; obtain ⟨y316, hy316⟩ : ∃ y_ : List (List Int), y_ = (x5_1 ++ [y313]) := ⟨_, rfl⟩
     (first | (rw [← hy316] at H; with_reducible replace H := bindZ H) | rw [← hy316] at H | skip)
     have Ny316 := am_ hy316; clear hy316; have H' := am_ H; clear H; refine ci9 BK312 ?_; intros
     go_wp2_with (first | ((with_reducible refine gate_dst (N := 32) rfl ?_); refine Kd.R_lit (Kd.int .i64) _ 2 ?hg (N := 32) ?hd (xs := ([wrap64 ((wrap64 ((wrap64 (a1 + a0_3)) + (wrap64 (x6_1 * a0_6)))) - a0_4), wrap64 ((wrap64 ((wrap64 (a1 + a0_3)) + (wrap64 (x6_1 * a0_6)))) + a0_4)] : List Int)) (inner := [.int .i64 (wrap64 ((wrap64 ((wrap64 (a1 + a0_3)) + (wrap64 (x6_1 * a0_6)))) - a0_4)), .int .i64 (wrap64 ((wrap64 ((wrap64 (a1 + a0_3)) + (wrap64 (x6_1 * a0_6)))) + a0_4))]) (ok := fun _ => True) (okp := fun _ => True) ?hr ?hp (fun _ hk => hk) trivial (Below.refl _ _) (Nat.le_refl _) (by simp) ?_; (case hd => rfl); (case hg => rfl); (case hr => first | (go_simp; done) | (go_simp; rfl)); (case hp => exact (Reps.one (show Kd.M (Kd.int .i64) _ _ _ (wrap64 ((wrap64 ((wrap64 (a1 + a0_3)) + (wrap64 (x6_1 * a0_6)))) - a0_4)) [.int .i64 (wrap64 ((wrap64 ((wrap64 (a1 + a0_3)) + (wrap64 (x6_1 * a0_6)))) - a0_4))] from rfl) (Reps.one (show Kd.M (Kd.int .i64) _ _ _ (wrap64 ((wrap64 ((wrap64 (a1 + a0_3)) + (wrap64 (x6_1 * a0_6)))) + a0_4)) [.int .i64 (wrap64 ((wrap64 ((wrap64 (a1 + a0_3)) + (wrap64 (x6_1 * a0_6)))) + a0_4))] from rfl) (Reps.none _ _)))); intro v314 w7 ho8 hb hg_ hnew_; clear hg_ hnew_; (first | rw [← Ny313.out] at ho8 | (simp only [Int.reduceToNat] at ho8; rw [← Ny313.out] at ho8)); replace HO_5 := am_ (Kd.S_elder' (Zx HO_5) (Kd.R_base ho8) hb); replace HO315 := am_ (Kd.R_lower ho8 (below_size (Zh GE312))); replace BK312 := (bkZ BK312 hb); replace HB := (bsZ (Zh GE312) hb); clear hb ho8; obtain ⟨Ao10, co10, eo10⟩ := Kd.R_slice HO315.out; subst eo10) | ((with_reducible refine gate_builtin (b := .append) (xs := #[.tmp 23, .tmp 33]) rfl ?_); at_builtin; refine Kd.S_append (Kd.slice 2 (Kd.int .i64)) (w0 := w) w.heap.size rfl (.tmp 23) (.tmp 33) 28 47 (.slice none 0 0) 24 rfl Try.underlying28 info47 rfl (by decide) (by omega) u5 x5_1 y313 [.slice Ao10 y313.length co10] (fun _ => True) (fun k_ => some k_ = (.slice Ao10 y313.length co10 : Value).ownBlock) rfl rfl ?aP (fun k_ hk_ => ((Kd.R_mono (ok' := fun k_ => ((fun _ => True)) k_ ∧ some k_ ≠ (u5 : Value).ownBlock) (Kd.R_apart' (HO315.out) (Kd.S_typed HO_5.out) (by decide)) (fun k_ hk => ⟨trivial, hk.2⟩))).1 k_ hk_.symm) ?aF ?aO ?aB ?aS ?aL ?_; (case aP => exact Kd.M_row (Kd.R_mono (Kd.R_tight rfl (Kd.R_mono (ok' := fun k_ => ((fun _ => True)) k_ ∧ some k_ ≠ (u5 : Value).ownBlock) (Kd.R_apart' (HO315.out) (Kd.S_typed HO_5.out) (by decide)) (fun k_ hk => ⟨trivial, hk.2⟩))) (fun _ h_ => h_))); (case aB => exact (Zh GE312)); (case aF => exact (fun _ _ => trivial)); (case aO => exact (by (with_reducible repeat (first | apply Kd.S_alloc | apply Kd.S_drewN | apply Kd.S_drew)); exact Kd.S_mono HO_5.out (fun k_ hk => ⟨trivial, fun e_ => hk.2 e_⟩))); (case aS => exact (below_size (Zh GE312))); (case aL => have := LMc5.out; omega); intro v317 w9 ho hb hg hat; rw [← Ny316.out] at ho; replace BK312 := am_ (blk_grown (g := gb312) (b0Z BK312) hg (Kd.S_ne HO_5.out BK312.out (by decide))); replace HB := am_ (hb); replace HO318 := am_ (ho); clear HO_5 HO315; clear ho hb hg hat))
     go_roundg k1
     case measure => have := HK1.out; omega
     case rel => exact ⟨(y316), (wrap64 (x6_1 + 1)), Za, H', ⟨Zd⟩, ⟨(Zx HO318)⟩, ⟨(Zq BK312)⟩, ⟨(Zh GE312)⟩⟩
    ·exact nN c5 H
   ·rw [if_neg c4] at H
    have c4b0 := decide_eq_false c4; clear c4; obtain rfl := Option.some.inj H; refine ci9 BK312 ?_; intros
    go_wp2
    go_ret
    exact ⟨_, Zg, (Zx HO_5), (Zh GE312)⟩
def impl_articleFor.f (k : Nat) (l0_0 : List (S87)) (l0_1 : List (S91)) (l0_2 : List (S80)) (a1_0 : Int) (a1_1 : Int) (a1_2 : ByteArray) (a1_3 : Int) : Option (ByteArray × Int × Int × Int × Int × Int × Int × Int × Int) := (impl_articleOf.f k l0_1 a1_2).bind fun t322 => (if 0 ≤ t322 then (if t322 < (l0_1.length : Int) then (some ((rd_T91 l0_1 t322).f0, (rd_T91 l0_1 t322).f1, (rd_T91 l0_1 t322).f2, (rd_T91 l0_1 t322).f3, (rd_T91 l0_1 t322).f4, (rd_T91 l0_1 t322).f5, (rd_T91 l0_1 t322).f6, (rd_T91 l0_1 t322).f7, (rd_T91 l0_1 t322).f8)) else (none)) else (none))
def impl_articleFor.T1 : Bool × List (List Nat × List Nat) := (true, [([], []), ([0], [0]), ([], []), ([2], [2]), ([], []), ([4], [4]), ([3, 5], [3, 5]), ([1, 6], [1, 6]), ([7], [7]), ([8, 6, 0, 1, 2, 3, 4, 5, 6, 7, 8], [8])])
def impl_articleFor.B1 : List Nat := [0, 1, 0, 4, 0, 16, 60, 127, 255, 511]
theorem impl_articleFor.tab1 : rtab .any (opsOf Try.f81 1) = impl_articleFor.T1 := by kernel_rfl
theorem impl_articleFor.bits1 : waitsOk impl_articleFor.T1.2 impl_articleFor.B1 = true := by kernel_rfl
theorem impl_articleFor.calls (k : Nat) (A0_0 : Option Addr) (c0_0 : Nat) (l0_0 : List (S87)) (A0_1 : Option Addr) (c0_1 : Nat) (l0_1 : List (S91)) (A0_2 : Option Addr) (c0_2 : Nat) (l0_2 : List (S80)) (a1_0 : Int) (a1_1 : Int) (a1_2 : ByteArray) (a1_3 : Int) (r1 : ByteArray) (r2 : Int) (r3 : Int) (r4 : Int) (r5 : Int) (r6 : Int) (r7 : Int) (r8 : Int) (r9 : Int) (w : World) (hr0_0 : Kd.C k87 w A0_0 l0_0.length l0_0) (hc0_0 : l0_0.length ≤ c0_0) (hr0_1 : Kd.C k91 w A0_1 l0_1.length l0_1) (hc0_1 : l0_1.length ≤ c0_1) (hr0_2 : Kd.C k80 w A0_2 l0_2.length l0_2) (hc0_2 : l0_2.length ≤ c0_2) (h : impl_articleFor.f k l0_0 l0_1 l0_2 a1_0 a1_1 a1_2 a1_3 = some (r1, r2, r3, r4, r5, r6, r7, r8, r9)) :
  Calls Try.prog 81 #[.agg #[.slice A0_0 l0_0.length c0_0, .slice A0_1 l0_1.length c0_1, .slice A0_2 l0_2.length c0_2], .agg #[.int .i64 a1_0, .int .i64 a1_1, .string a1_2, .int .i64 a1_3]] w fun e w' => e = .returned (.agg #[.string r1, .int .i64 r2, .int .i64 r3, .int .i64 r4, .int .i64 r5, .int .i64 r6, .int .i64 r7, .int .i64 r8, .int .i64 r9]) ∧ Below w.heap.size w w' := by
 have hu35 := Try.underlying35; have hu80 := Try.underlying80; have hu91 := Try.underlying91; have HR0_0 := am_ hr0_0; have HC0_0 := am_ hc0_0; clear hr0_0 hc0_0; have HR0_1 := am_ hr0_1; have HC0_1 := am_ hc0_1; clear hr0_1 hc0_1; have HR0_2 := am_ hr0_2; have HC0_2 := am_ hc0_2; clear hr0_2 hc0_2; have HB := am_ (Below.refl w.heap.size w); have H : ((impl_articleOf.f k l0_1 a1_2).bind fun t322 => (if 0 ≤ t322 then (if t322 < (l0_1.length : Int) then (some ((rd_T91 l0_1 t322).f0, (rd_T91 l0_1 t322).f1, (rd_T91 l0_1 t322).f2, (rd_T91 l0_1 t322).f3, (rd_T91 l0_1 t322).f4, (rd_T91 l0_1 t322).f5, (rd_T91 l0_1 t322).f6, (rd_T91 l0_1 t322).f7, (rd_T91 l0_1 t322).f8)) else (none)) else (none))) = some (r1, r2, r3, r4, r5, r6, r7, r8, r9) := h; clear h; obtain ⟨t322, A3, H⟩ := bE_ H
 by_cases c4 : 0 ≤ t322
 ·rw [if_pos c4] at H
  have c4b0 := decide_eq_true c4; clear c4
  by_cases c5 : t322 < (l0_1.length : Int)
  ·rw [if_pos c5] at H
   have c5b0 := decide_eq_true c5; clear c5; simp only [Option.some.injEq, Prod.mk.injEq] at H; obtain ⟨rfl, rfl, rfl, rfl, rfl, rfl, rfl, rfl, rfl⟩ := H
   go_enter Try.func81, Try.ntmps81
   try go_wp2_with (first | ((with_reducible refine gate_dst (N := 2) rfl ?_); refine boxZ 2 #[.slice A0_0 l0_0.length c0_0, .slice A0_1 l0_1.length c0_1, .slice A0_2 l0_2.length c0_2] 35 ?_; intro gb319 hg w6 hbox hb; replace BK319 := am_ (hbox); replace GW319 := am_ ((Ze : w.heap.size ≤ gb319)); replace GE319 := GW319; replace HB := (bsZ Zf hb); clear hb hbox hg) | ((with_reducible refine gate_dst (N := 3) rfl ?_); refine boxZ 3 #[.int .i64 a1_0, .int .i64 a1_1, .string a1_2, .int .i64 a1_3] 80 ?_; intro gb320 hg w7 hbox hb; replace BK320 := am_ (hbox); replace GW320 := am_ (((Zk GE319) : w.heap.size ≤ gb320)); replace GE320 := GW320; replace HB := (bsZ (Zh GE319) hb); replace NB319_320 := am_ ((by rw [hg]; exact Nat.ne_of_lt (blk_lt (g := gb319) (b0Z BK319)) : gb319 ≠ gb320)); replace NB320_319 := am_ ((by rw [hg]; exact Nat.ne_of_gt (blk_lt (g := gb319) (b0Z BK319)) : gb320 ≠ gb319)); replace BK319 := (bkZ BK319 hb); clear hb hbox hg) | ((with_reducible refine gate_dst (N := 4) rfl ?_); refine boxZ 4 #[.string (⟨#[]⟩ : ByteArray), .int .i64 0, .int .i64 0, .int .i64 0, .int .i64 0, .int .i64 0, .int .i64 0, .int .i64 0, .int .i64 0] 91 ?_; intro gb321 hg w8 hbox hb; replace BK321 := am_ (hbox); replace GW321 := am_ (((Zt GE319 GE320) : w.heap.size ≤ gb321)); replace GE321 := GW321; replace HB := (bsZ (Zn GE319 GE320) hb); replace NB319_321 := am_ ((by rw [hg]; exact Nat.ne_of_lt (blk_lt (g := gb319) (b0Z BK319)) : gb319 ≠ gb321)); replace NB321_319 := am_ ((by rw [hg]; exact Nat.ne_of_gt (blk_lt (g := gb319) (b0Z BK319)) : gb321 ≠ gb319)); replace BK319 := (bkZ BK319 hb); replace NB320_321 := am_ ((by rw [hg]; exact Nat.ne_of_lt (blk_lt (g := gb320) (b0Z BK320)) : gb320 ≠ gb321)); replace NB321_320 := am_ ((by rw [hg]; exact Nat.ne_of_gt (blk_lt (g := gb320) (b0Z BK320)) : gb321 ≠ gb320)); replace BK320 := (bkZ BK320 hb); clear hb hbox hg))
   replace BK319 := am_ (blk_drew BK319.out); replace BK320 := am_ (blk_drew BK320.out); replace BK321 := am_ (blk_drew BK321.out); replace HB := am_ (below_drew1 HB.out); have p323 : 0 ≤ (t322 : Int) := of_decide_eq_true Zc; have q323 : t322 < (l0_1.length : Int) := of_decide_eq_true Zc; obtain ⟨ad323, e323, hx323_0, hx323_1, hx323_2, hx323_3, hx323_4, hx323_5, hx323_6, hx323_7, hx323_8⟩ := at_T91 HR0_1.out t322 p323 q323; have hw323_8 := hx323_8; have hw323_7 := hx323_7; have hw323_6 := hx323_6; have hw323_5 := hx323_5; have hw323_4 := hx323_4; have hw323_3 := hx323_3; have hw323_2 := hx323_2; have hw323_1 := hx323_1; have hw323_0 := hx323_0
   cases e323
   replace hx323_0 := cbH HB hx323_0; replace hx323_1 := cbH HB hx323_1; replace hx323_2 := cbH HB hx323_2; replace hx323_3 := cbH HB hx323_3; replace hx323_4 := cbH HB hx323_4; replace hx323_5 := cbH HB hx323_5; replace hx323_6 := cbH HB hx323_6; replace hx323_7 := cbH HB hx323_7; replace hx323_8 := cbH HB hx323_8; replace p323 := eq_true p323; replace q323 := eq_true q323; refine start_ (n := 10) (S := fun w' => w'.cell? ⟨gb319, 0, none⟩ = some (.slice A0_0 l0_0.length c0_0) ∧ w'.cell? ⟨gb319, 1, none⟩ = some (.slice (some ad323) l0_1.length c0_1) ∧ w'.cell? ⟨gb319, 2, none⟩ = some (.slice A0_2 l0_2.length c0_2) ∧ w'.cell? ⟨gb320, 0, none⟩ = some (.int .i64 a1_0) ∧ w'.cell? ⟨gb320, 1, none⟩ = some (.int .i64 a1_1) ∧ w'.cell? ⟨gb320, 2, none⟩ = some (.string a1_2) ∧ w'.cell? ⟨gb320, 3, none⟩ = some (.int .i64 a1_3) ∧ w'.cell? (ad323.add ((t322).toNat * 9)) = some (.string ((rd_T91 l0_1 t322).f0)) ∧ w'.cell? ⟨(ad323.add ((t322).toNat * 9)).block, (ad323.add ((t322).toNat * 9)).off + 1, none⟩ = some (.int .i64 ((rd_T91 l0_1 t322).f1)) ∧ w'.cell? ⟨(ad323.add ((t322).toNat * 9)).block, (ad323.add ((t322).toNat * 9)).off + 2, none⟩ = some (.int .i64 ((rd_T91 l0_1 t322).f2)) ∧ w'.cell? ⟨(ad323.add ((t322).toNat * 9)).block, (ad323.add ((t322).toNat * 9)).off + 3, none⟩ = some (.int .i64 ((rd_T91 l0_1 t322).f3)) ∧ w'.cell? ⟨(ad323.add ((t322).toNat * 9)).block, (ad323.add ((t322).toNat * 9)).off + 4, none⟩ = some (.int .i64 ((rd_T91 l0_1 t322).f4)) ∧ w'.cell? ⟨(ad323.add ((t322).toNat * 9)).block, (ad323.add ((t322).toNat * 9)).off + 5, none⟩ = some (.int .i64 ((rd_T91 l0_1 t322).f5)) ∧ w'.cell? ⟨(ad323.add ((t322).toNat * 9)).block, (ad323.add ((t322).toNat * 9)).off + 6, none⟩ = some (.int .i64 ((rd_T91 l0_1 t322).f6)) ∧ w'.cell? ⟨(ad323.add ((t322).toNat * 9)).block, (ad323.add ((t322).toNat * 9)).off + 7, none⟩ = some (.int .i64 ((rd_T91 l0_1 t322).f7)) ∧ w'.cell? ⟨(ad323.add ((t322).toNat * 9)).block, (ad323.add ((t322).toNat * 9)).off + 8, none⟩ = some (.int .i64 ((rd_T91 l0_1 t322).f8))) (ds := []) (bT 10 0) Zi rfl rfl ⟨(blk_cell BK319.out 0).trans rfl, (blk_cell BK319.out 1).trans rfl, (blk_cell BK319.out 2).trans rfl, (blk_cell BK320.out 0).trans rfl, (blk_cell BK320.out 1).trans rfl, (blk_cell BK320.out 2).trans rfl, (blk_cell BK320.out 3).trans rfl, (cbH HB hw323_0 :), (cbH HB hw323_1 :), (cbH HB hw323_2 :), (cbH HB hw323_3 :), (cbH HB hw323_4 :), (cbH HB hw323_5 :), (cbH HB hw323_6 :), (cbH HB hw323_7 :), (cbH HB hw323_8 :)⟩ (fun hHeld => ?_); refine with_tabW impl_articleFor.tab1 impl_articleFor.bits1 (fun HT_ HW_ => ?_); generalize w8.drew = w9 at BK319 BK320 BK321 HB hx323_0 hx323_1 hx323_2 hx323_3 hx323_4 hx323_5 hx323_6 hx323_7 hx323_8 hHeld ⊢; refine pureZ HT_ 0 (some 5) (bT 10 1) ?_; refine pureZ HT_ 2 (some 7) (bB 10 5) ?_; refine pureZ HT_ 4 (some 9) (bB 10 21) ?_; refine takeZ16 HT_ HW_ 1 (some 6) (bB 10 23) hHeld ?_; refine takeZ16 HT_ HW_ 3 (some 8) (bT 10 5) hHeld ?_; refine takeZ16 HT_ HW_ 5 (some 10) (bT 10 6) hHeld ?_; refine one_ (i := 6) (N := some 11) (bT 10 7) rfl rfl (one_of HT_.out Zi) (by decide) (fun K hK => ?_)
   refine goes_ Try.func77 Zi rfl #[.slice (some ad323) l0_1.length c0_1, .string a1_2] (by rfl) rfl rfl Zj ?_
   with_reducible refine (impl_articleOf.calls k _ _ l0_1 a1_2 t322 _ ?side1 ?side2 A3.out).mono ?_
   (case side1 => exact (Zl HR0_1))
   (case side2 => exact HC0_1.out)
   rintro e w10 ⟨rfl, hb⟩; refine ⟨_, rfl, ?_⟩; replace BK319 := (bkZ BK319 hb); replace BK320 := (bkZ BK320 hb); replace BK321 := (bkZ BK321 hb); replace HB := (bsZ (Zv GE319 GE320 GE321) hb)
   (try clear hb)
   (try clear hb2)
   (try clear hk)
   (try clear hi)
   refine hK.out _ _ (Zs BK319 BK320 hw323_0 hw323_1 hw323_2 hw323_3 hw323_4 hw323_5 hw323_6 hw323_7 hw323_8) (fun hHeld => ?_); clear hK K; refine normZ 11 ?_; refine pureZ HT_ 7 (some 12) (bT 10 8) ?_; refine takeZ16 HT_ HW_ 8 (some 13) (bT 10 9) hHeld ?_; refine one_ (i := 9) (N := none) (bT 10 10) rfl rfl (one_of HT_.out Zi) (by decide) (fun K hK => ?_); have hs11 : w10.cell? ⟨gb321, 0, none⟩ = some (.string (⟨#[]⟩ : ByteArray)) := (blk_cell BK321.out 0).trans rfl; have hfs11 := blk_frozen BK321.out 0; have hns11_0 := NB319_321.out; have hns11_1 := NB320_321.out; have hms11_0 := NB321_319.out; have hms11_1 := NB321_320.out; have hs12 : w10.cell? ⟨gb321, 1, none⟩ = some (.int .i64 0) := (blk_cell BK321.out 1).trans rfl; have hfs12 := blk_frozen BK321.out 1; have hns12_0 := NB319_321.out; have hns12_1 := NB320_321.out; have hms12_0 := NB321_319.out; have hms12_1 := NB321_320.out; have hs13 : w10.cell? ⟨gb321, 2, none⟩ = some (.int .i64 0) := (blk_cell BK321.out 2).trans rfl; have hfs13 := blk_frozen BK321.out 2; have hns13_0 := NB319_321.out; have hns13_1 := NB320_321.out; have hms13_0 := NB321_319.out; have hms13_1 := NB321_320.out; have hs14 : w10.cell? ⟨gb321, 3, none⟩ = some (.int .i64 0) := (blk_cell BK321.out 3).trans rfl; have hfs14 := blk_frozen BK321.out 3; have hns14_0 := NB319_321.out; have hns14_1 := NB320_321.out; have hms14_0 := NB321_319.out; have hms14_1 := NB321_320.out; have hs15 : w10.cell? ⟨gb321, 4, none⟩ = some (.int .i64 0) := (blk_cell BK321.out 4).trans rfl; have hfs15 := blk_frozen BK321.out 4; have hns15_0 := NB319_321.out; have hns15_1 := NB320_321.out; have hms15_0 := NB321_319.out; have hms15_1 := NB321_320.out; have hs16 : w10.cell? ⟨gb321, 5, none⟩ = some (.int .i64 0) := (blk_cell BK321.out 5).trans rfl; have hfs16 := blk_frozen BK321.out 5; have hns16_0 := NB319_321.out; have hns16_1 := NB320_321.out; have hms16_0 := NB321_319.out; have hms16_1 := NB321_320.out; have hs17 : w10.cell? ⟨gb321, 6, none⟩ = some (.int .i64 0) := (blk_cell BK321.out 6).trans rfl; have hfs17 := blk_frozen BK321.out 6; have hns17_0 := NB319_321.out; have hns17_1 := NB320_321.out; have hms17_0 := NB321_319.out; have hms17_1 := NB321_320.out; have hs18 : w10.cell? ⟨gb321, 7, none⟩ = some (.int .i64 0) := (blk_cell BK321.out 7).trans rfl; have hfs18 := blk_frozen BK321.out 7; have hns18_0 := NB319_321.out; have hns18_1 := NB320_321.out; have hms18_0 := NB321_319.out; have hms18_1 := NB321_320.out; have hs19 : w10.cell? ⟨gb321, 8, none⟩ = some (.int .i64 0) := (blk_cell BK321.out 8).trans rfl; have hfs19 := blk_frozen BK321.out 8; have hns19_0 := NB319_321.out; have hns19_1 := NB320_321.out; have hms19_0 := NB321_319.out; have hms19_1 := NB321_320.out; refine skip_ (w1 := ?_) (by rfl) rfl ?_ ?_; rotate_left
   ·go_simp
    rfl
   refine hK.out _ _ ⟨(cg1 (hHeld.1) NB319_321), (cg1 (hHeld.2.1) NB319_321), (cg1 (hHeld.2.2.1) NB319_321), (cg1 (hHeld.2.2.2.1) NB320_321), (cg1 (hHeld.2.2.2.2.1) NB320_321), (cg1 (hHeld.2.2.2.2.2.1) NB320_321), (cg1 (hHeld.2.2.2.2.2.2.1) NB320_321), (cfZ gb321 (hHeld.2.2.2.2.2.2.2.1) (Zw hw323_0 GW321)), (cfZ gb321 (hHeld.2.2.2.2.2.2.2.2.1) (Zw hw323_1 GW321)), (cfZ gb321 (hHeld.2.2.2.2.2.2.2.2.2.1) (Zw hw323_2 GW321)), (cfZ gb321 (hHeld.2.2.2.2.2.2.2.2.2.2.1) (Zw hw323_3 GW321)), (cfZ gb321 (hHeld.2.2.2.2.2.2.2.2.2.2.2.1) (Zw hw323_4 GW321)), (cfZ gb321 (hHeld.2.2.2.2.2.2.2.2.2.2.2.2.1) (Zw hw323_5 GW321)), (cfZ gb321 (hHeld.2.2.2.2.2.2.2.2.2.2.2.2.2.1) (Zw hw323_6 GW321)), (cfZ gb321 (hHeld.2.2.2.2.2.2.2.2.2.2.2.2.2.2.1) (Zw hw323_7 GW321)), (cfZ gb321 (hHeld.2.2.2.2.2.2.2.2.2.2.2.2.2.2.2) (Zw hw323_8 GW321))⟩ (fun hHeld => ?_); clear hK K; refine done_ (done_of HT_.out Zi) ?_
   try go_wp2
   refine bodyPost_ret (results_cell_row rfl _ _ gb321 91 #[.string ((rd_T91 l0_1 t322).f0), .int .i64 ((rd_T91 l0_1 t322).f1), .int .i64 ((rd_T91 l0_1 t322).f2), .int .i64 ((rd_T91 l0_1 t322).f3), .int .i64 ((rd_T91 l0_1 t322).f4), .int .i64 ((rd_T91 l0_1 t322).f5), .int .i64 ((rd_T91 l0_1 t322).f6), .int .i64 ((rd_T91 l0_1 t322).f7), .int .i64 ((rd_T91 l0_1 t322).f8)] (0, 0) _ rfl (bpZ BK321) Try.underlying91 rfl Zi) rfl ?_; exact ⟨Zg, (Zv GE319 GE320 GE321)⟩
  ·exact nN c5 H
 ·exact nN c4 H
end Go.Proofs.Ytnifblnlpepehaa.F
