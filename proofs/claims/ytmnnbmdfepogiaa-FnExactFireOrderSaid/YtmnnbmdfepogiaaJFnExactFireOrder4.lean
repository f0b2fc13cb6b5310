import Derived.Test.YtmnnbmdfepogiaaJFnExactFireOrder3
import Derived.Below
import Derived.Deep.Draws
import Derived.Deep.AppendLies
import Derived.Maps.AppendAt
import Derived.OwnWalk
import Derived.Laws.BytesArg
import Derived.Laws.MakeOwn
import Derived.Laws.OwnMore
import Derived.Tactics
import Derived.Lib.ConvBytes
import Derived.Laws.Slices
import Derived.WalkKit
import Derived.KernelRfl
import Derived.RowKit3
import Derived.Deep.LoopGhost
import Derived.Deep.QuietTactic
import Derived.BigQuiet
import Derived.WideLaws
import Derived.Deep.DeepCutAuto
import Derived.Deep.CutBlock
import Derived.Deep.RegionHeld3
import Derived.Lib.AppendStr
import Derived.ArgAppend
import Derived.Laws.IdiomCopy
import Derived.RowKit
import Derived.OrdersHeld
import Derived.Laws.BitsLemmas
import Derived.Laws.StructEq
import Derived.Test.YtmnnbmdfepogiaaProg
import Derived.ChangeSlices
import Derived.OpenShut
import Derived.Laws.Cover1
namespace Go.Proofs.Ytmnnbmdfepogiaa.F
open Go.RowKit Go.Proofs.YtmnnbmdfepogiaaW.PrintWords Go.Proofs.YtmnnbmdfepogiaaW.PrintLast Go.Proofs.YtmnnbmdfepogiaaW.PrintMore
attribute [local go_sem] max2_int min2_int max_two min_two max_three min_three max_four min_four
set_option linter.unusedVariables false
set_option linter.unusedSimpArgs false
mutual
def spec_l08Order.l0 : Nat → List Int → List Int → Int → Option (List Int)
 | 0, _, _, _ => none
 | k + 1, x0, x3, x4 => if x4 < (x0.length : Int) then (spec_l08Order.l1 k x0 x3 x4 0) else (some x3)
def spec_l08Order.l1 : Nat → List Int → List Int → Int → Int → Option (List Int)
 | 0, _, _, _, _ => none
 | k + 1, x0, x3, x4, x5 => if x5 < (x3.length : Int) then (if 0 ≤ x5 then (if 0 ≤ (rd x3 x5) then (if (rd x3 x5) < (x0.length : Int) then (if 0 ≤ x4 then (if x4 < (x0.length : Int) then (if (rd x0 (rd x3 x5)) ≤ (rd x0 x4) then (spec_l08Order.l1 k x0 x3 x4 (wrap64 (x5 + 1))) else ((some (([] : List Int) : List Int)).bind fun y148 => (if x5 ≤ (x3.length : Int) then ((some (x3.take (x5 : Int).toNat : List Int)).bind fun y151 => (if y148.length + y151.length < 17592186044416 then ((some (y148 ++ y151 : List Int)).bind fun y155 => ((some (([x4] : List Int) : List Int)).bind fun y158 => (if y155.length + y158.length < 17592186044416 then ((some (y155 ++ y158 : List Int)).bind fun y161 => ((some (x3.drop (x5 : Int).toNat : List Int)).bind fun y164 => (if y161.length + y164.length < 17592186044416 then (spec_l08Order.l0 k x0 (y161 ++ y164) (wrap64 (x4 + 1))) else (none)))) else (none)))) else (none))) else (none)))) else (none)) else (none)) else (none)) else (none)) else (none)) else ((some (([] : List Int) : List Int)).bind fun y171 => (if 0 ≤ x5 then (if x5 ≤ (x3.length : Int) then ((some (x3.take (x5 : Int).toNat : List Int)).bind fun y174 => (if y171.length + y174.length < 17592186044416 then ((some (y171 ++ y174 : List Int)).bind fun y178 => ((some (([x4] : List Int) : List Int)).bind fun y181 => (if y178.length + y181.length < 17592186044416 then ((some (y178 ++ y181 : List Int)).bind fun y184 => ((some (x3.drop (x5 : Int).toNat : List Int)).bind fun y187 => (if y184.length + y187.length < 17592186044416 then (spec_l08Order.l0 k x0 (y184 ++ y187) (wrap64 (x4 + 1))) else (none)))) else (none)))) else (none))) else (none)) else (none)))
end
def spec_l08Order.f (k : Nat) (l0 : List Int) : Option (List Int) := spec_l08Order.l0 k l0 (([] : List Int)) 0
def spec_l08Order.T6 : Bool × List (List Nat × List Nat) := (true, [([], []), ([], []), ([1], [1]), ([0, 2], [0, 2]), ([3], [3]), ([4], [4]), ([4], [4]), ([4], [4]), ([6, 7, 4], [4, 6, 7]), ([8, 4], [4, 8]), ([5, 9, 4], [4, 5, 9]), ([10, 4], [4, 10]), ([4], [4]), ([4], [4]), ([12, 13, 4], [4, 12, 13]), ([14, 4], [4, 14]), ([11, 15, 4], [4, 11, 15]), ([4, 16], [4, 16])])
def spec_l08Order.B6 : List Nat := [0, 0, 2, 7, 15, 31, 31, 31, 223, 479, 1023, 2047, 31, 31, 12319, 28703, 65535, 131071]
theorem spec_l08Order.tab6 : rtab .any (opsOf Try.f44 6) = spec_l08Order.T6 := by kernel_rfl
theorem spec_l08Order.bits6 : waitsOk spec_l08Order.T6.2 spec_l08Order.B6 = true := by kernel_rfl
def spec_l08Order.T8 : Bool × List (List Nat × List Nat) := (true, [([], []), ([], []), ([], []), ([1, 2], [1, 2]), ([0, 3], [0, 3]), ([], []), ([5], [5]), ([4, 6, 4], [4, 6]), ([], []), ([], []), ([8, 9], [8, 9]), ([7, 10, 7], [7, 10]), ([11, 11, 0, 1, 2, 3, 4, 5, 6, 7, 8, 9, 10, 11], [1, 8, 11])])
def spec_l08Order.B8 : List Nat := [0, 0, 0, 6, 15, 0, 32, 127, 0, 0, 768, 2047, 4095]
theorem spec_l08Order.tab8 : rtab .any (opsOf Try.f44 8) = spec_l08Order.T8 := by kernel_rfl
theorem spec_l08Order.bits8 : waitsOk spec_l08Order.T8.2 spec_l08Order.B8 = true := by kernel_rfl
set_option maxHeartbeats 8000000 in
set_option maxRecDepth 100000 in
theorem spec_l08Order.calls (k : Nat) (A0 : Option Addr) (c0 : Nat) (l0 : List Int) (r : List Int) (w : World) (hr0 : Kd.C (Kd.int .i64) w A0 l0.length l0) (hc0 : l0.length ≤ c0) (h : spec_l08Order.f k l0 = some r) :
  Calls Try.prog 44 #[.slice A0 l0.length c0] w fun e w' => ∃ v0_ : Value, e = .returned (v0_) ∧ Kd.R (Kd.int .i64) 2 w' w.heap.size (fun _ => True) v0_ r ∧ Below w.heap.size w w' := by
 have HR0 := am_ hr0; have HC0 := am_ hc0; clear hr0 hc0; have HB := am_ (Below.refl w.heap.size w); have H : (spec_l08Order.l0 k l0 (([] : List Int)) 0) = some r := h; clear h; obtain ⟨y142, hy142⟩ : ∃ y_ : List Int, y_ = (([] : List Int)) := ⟨_, rfl⟩
 replace H : (spec_l08Order.l0 k l0 y142 0) = some r := by (try rw [hy142]); first | with_reducible exact H | with_reducible exact (Option.bind_some _ _).symm.trans H | exact H
 have Ny142 := am_ hy142; clear hy142; have H' := am_ H; clear H
 go_enter Try.func44, Try.ntmps44
 go_wp2_with (first | ((with_reducible refine gate_dst (N := 6) rfl ?_); refine Kd.R_lit (Kd.int .i64) _ 2 ?hg (N := 6) ?hd (xs := ([] : List Int)) (inner := []) (ok := fun _ => True) (okp := fun _ => True) ?hr ?hp (fun _ hk => hk) trivial (Below.refl _ _) (Nat.le_refl _) (by simp) ?_; (case hd => rfl); (case hg => rfl); (case hr => first | (go_simp; done) | (go_simp; rfl)); (case hp => exact (Reps.none _ _)); intro v143 w2 ho3 hb hg_ hnew_; clear hg_ hnew_; (first | rw [← Ny142.out] at ho3 | (simp only [Int.reduceToNat] at ho3; rw [← Ny142.out] at ho3)); replace HO144 := am_ (Kd.R_lower ho3 (below_size Zd)); replace HB := (bsZ Zd hb); clear hb ho3))
 go_loopg [3, 4] k (fun kq v3 v4 w' => ∃ (x3_1 : List Int) (x4_1 : Int), v4 = .int .i64 x4_1 ∧ Aside0 (spec_l08Order.l0 kq l0 x3_1 x4_1 = some r) ∧ Aside0 (kq ≤ k) ∧ Aside0 (Kd.R (Kd.int .i64) 2 w' w.heap.size (fun _ => True) v3 x3_1) ∧ Aside0 (Below w.heap.size w w'))
 case atStart => exact ⟨(y142), (0), Za, H', ⟨Nat.le_refl _⟩, ⟨(Zo HO144)⟩, ⟨Zd⟩⟩
 case round =>
  clear H'
  try clear p2
  obtain ⟨x3_1, x4_1, rfl, HA, HK1, HO_3, HB⟩ := hrel
  cases gk with
  | zero => exact absurd HA.out (by simp [spec_l08Order.l0])
  | succ k1 =>
   have H := HA.out; clear HA; simp only [spec_l08Order.l0] at H
   by_cases c4 : x4_1 < (l0.length : Int)
   ·rw [if_pos c4] at H
    have c4b0 := decide_eq_true c4; clear c4; have H' := am_ H; clear H
    go_wp2
    go_loopg [5] k1 (fun kq v5 w' => ∃ (x5_2 : Int), v5 = .int .i64 x5_2 ∧ Aside0 (spec_l08Order.l1 kq l0 x3_1 x4_1 x5_2 = some r) ∧ Aside0 (kq ≤ k1) ∧ Aside0 (Kd.R (Kd.int .i64) 2 w' w.heap.size (fun _ => True) u3 x3_1) ∧ Aside0 (Below w.heap.size w w'))
    case atStart => exact ⟨(0), Za, H', ⟨Nat.le_refl _⟩, ⟨(Zo HO_3)⟩, ⟨Zd⟩⟩
    case round =>
     clear H'
     try clear p2
     try clear c4
     try clear c4b0
     try clear p2
     obtain ⟨x5_2, rfl, HA, HK2, HO_3, HB⟩ := hrel
     cases gk with
     | zero => exact absurd HA.out (by simp [spec_l08Order.l1])
     | succ k2 =>
      have H := HA.out; clear HA; simp only [spec_l08Order.l1] at H
      by_cases c5 : x5_2 < (x3_1.length : Int)
      ·rw [if_pos c5] at H
       have c5b0 := decide_eq_true c5; clear c5
       by_cases c6 : 0 ≤ x5_2
       ·rw [if_pos c6] at H
        have c6b0 := decide_eq_true c6; clear c6
        by_cases c7 : 0 ≤ (rd x3_1 x5_2)
        ·rw [if_pos c7] at H
         have c7b0 := decide_eq_true c7; clear c7
         by_cases c8 : (rd x3_1 x5_2) < (l0.length : Int)
         ·rw [if_pos c8] at H
          have c8b0 := decide_eq_true c8; clear c8
          by_cases c9 : 0 ≤ x4_1
          ·rw [if_pos c9] at H
           have c9b0 := decide_eq_true c9; clear c9
           by_cases c10 : x4_1 < (l0.length : Int)
           ·rw [if_pos c10] at H
            have c10b0 := decide_eq_true c10; clear c10
            by_cases c11 : (rd l0 (rd x3_1 x5_2)) ≤ (rd l0 x4_1)
            ·rw [if_pos c11] at H
             have c11b0 := decide_eq_true c11; clear c11; have H' := am_ H; clear H
             try go_wp2
             replace HO_3 := am_ (Kd.R_drew HO_3.out); replace HB := am_ (below_drew1 HB.out); obtain ⟨Ao13, co13, eo13⟩ := Kd.R_slice HO_3.out
             (first | subst eo13 | (injection eo13 with f1_ f2_ f3_; have f4_ := f1_.symm; have f5_ := f3_.symm; clear f1_ f2_ f3_; subst f4_; subst f5_))
             have p145 : 0 ≤ (x5_2 : Int) := of_decide_eq_true Zn; have q145 : x5_2 < (x3_1.length : Int) := of_decide_eq_true Zn; obtain ⟨ad145, e145, hx145_0⟩ := Kd.at_int (Kd.R_reads' HO_3.out).2.2 x5_2 p145 q145
             cases e145
             replace p145 := eq_true p145; replace q145 := eq_true q145; have p146 : 0 ≤ ((rd x3_1 x5_2) : Int) := of_decide_eq_true Zn; have q146 : (rd x3_1 x5_2) < (l0.length : Int) := of_decide_eq_true Zn; obtain ⟨ad146, e146, hx146_0⟩ := Kd.at_int HR0.out (rd x3_1 x5_2) p146 q146; have hw146_0 := hx146_0
             cases e146
             replace hx146_0 := cbH HB hx146_0; replace p146 := eq_true p146; replace q146 := eq_true q146; have p147 : 0 ≤ (x4_1 : Int) := of_decide_eq_true Zn; have q147 : x4_1 < (l0.length : Int) := of_decide_eq_true Zn; obtain ⟨ad147, e147, hx147_0⟩ := Kd.at_int HR0.out x4_1 p147 q147; have hw147_0 := hx147_0; obtain rfl : ad146 = ad147 := (by injection e147); replace hx147_0 := cbH HB hx147_0; replace p147 := eq_true p147; replace q147 := eq_true q147; refine start_ (n := 18) (S := fun w' => w'.cell? (ad145.add (x5_2).toNat) = some (.int .i64 (rd x3_1 x5_2)) ∧ w'.cell? (ad146.add ((rd x3_1 x5_2)).toNat) = some (.int .i64 (rd l0 (rd x3_1 x5_2))) ∧ w'.cell? (ad146.add (x4_1).toNat) = some (.int .i64 (rd l0 x4_1))) (ds := []) (bT 18 0) Zi rfl rfl ⟨hx145_0, (cbH HB hw146_0 :), (cbH HB hw147_0 :)⟩ (fun hHeld => ?_); refine with_tabW spec_l08Order.tab6 spec_l08Order.bits6 (fun HT_ HW_ => ?_); generalize wr.drew = w12 at HO_3 HB hx145_0 hx146_0 hx147_0 hHeld ⊢; refine pureZ HT_ 0 (some 13) (bT 18 1) ?_; refine pureZ HT_ 1 (some 14) (bT 18 2) ?_; refine pureZ HT_ 2 (some 15) (bT 18 3) ?_; refine pureZ HT_ 3 (some 16) (bT 18 4) ?_; refine pureZ HT_ 4 (some 17) (bT 18 5) ?_; refine pureZ HT_ 5 (some 18) (bT 18 6) ?_; refine pureZ HT_ 6 (some 19) (bT 18 7) ?_; refine pureZ HT_ 7 (some 20) (bT 18 8) ?_; refine pureZ HT_ 8 (some 21) (bT 18 9) ?_; refine pureZ HT_ 12 (some 25) (bB 18 4607) ?_; refine pureZ HT_ 13 (some 26) (bB 18 12799) ?_; refine pureZ HT_ 14 (some 27) (bB 18 29183) ?_; refine takeZ3 HT_ HW_ 9 (some 22) (bB 18 29695) hHeld ?_; refine pureZ HT_ 10 (some 23) (bB 18 30719) ?_; refine takeZ3 HT_ HW_ 11 (some 24) (bT 18 15) hHeld ?_; refine takeZ3 HT_ HW_ 15 (some 28) (bT 18 16) hHeld ?_; refine pureZ HT_ 16 (some 29) (bT 18 17) ?_; refine pureZ HT_ 17 (some 30) (bT 18 18) ?_; refine done_ (done_of HT_.out Zi) ?_
             try go_wp2
             go_roundg k2
             case measure => have := HK1.out; have := HK2.out; omega
             case rel => exact ⟨(wrap64 (x5_2 + 1)), Za, H', ⟨by have := HK1.out; have := HK2.out; omega⟩, ⟨(Zo HO_3)⟩, ⟨Zd⟩⟩
            ·rw [if_neg c11] at H
             have c11b0 := decide_eq_false c11; clear c11; obtain ⟨y148, hy148⟩ : ∃ y_ : List Int, y_ = (([] : List Int)) := ⟨_, rfl⟩
             replace H : (if x5_2 ≤ (x3_1.length : Int) then ((some (x3_1.take (x5_2 : Int).toNat : List Int)).bind fun y151 => (if y148.length + y151.length < 17592186044416 then ((some (y148 ++ y151 : List Int)).bind fun y155 => ((some (([x4_1] : List Int) : List Int)).bind fun y158 => (if y155.length + y158.length < 17592186044416 then ((some (y155 ++ y158 : List Int)).bind fun y161 => ((some (x3_1.drop (x5_2 : Int).toNat : List Int)).bind fun y164 => (if y161.length + y164.length < 17592186044416 then (spec_l08Order.l0 k2 l0 (y161 ++ y164) (wrap64 (x4_1 + 1))) else (none)))) else (none)))) else (none))) else (none)) = some r := by (try rw [hy148]); first | with_reducible exact H | with_reducible exact (Option.bind_some _ _).symm.trans H | exact H
             have Ny148 := am_ hy148; clear hy148; have c14b0 := eq_true (of_decide_eq_true Zn : 0 ≤ x5_2)
             by_cases c15 : x5_2 ≤ (x3_1.length : Int)
             ·rw [if_pos c15] at H
              have c15b0 := eq_true c15; have c15b1 := decide_eq_true c15; clear c15; obtain ⟨y151, hy151⟩ : ∃ y_ : List Int, y_ = (x3_1.take (x5_2 : Int).toNat) := ⟨_, rfl⟩
              (first | (rw [← hy151] at H; with_reducible replace H := bindZ H) | rw [← hy151] at H | skip)
              have Ny151 := am_ hy151; clear hy151
              by_cases c16 : y148.length + y151.length < 17592186044416
              ·rw [if_pos c16] at H
               have LMc16 := am_ c16; clear c16; obtain ⟨y155, hy155⟩ : ∃ y_ : List Int, y_ = (y148 ++ y151) := ⟨_, rfl⟩
               (first | (rw [← hy155] at H; with_reducible replace H := bindZ H) | rw [← hy155] at H | skip)
               have Ny155 := am_ hy155; clear hy155; obtain ⟨y158, hy158⟩ : ∃ y_ : List Int, y_ = (([x4_1] : List Int)) := ⟨_, rfl⟩
               (first | (rw [← hy158] at H; with_reducible replace H := bindZ H) | rw [← hy158] at H | skip)
               have Ny158 := am_ hy158; clear hy158
               by_cases c17 : y155.length + y158.length < 17592186044416
               ·rw [if_pos c17] at H
                have LMc17 := am_ c17; clear c17; obtain ⟨y161, hy161⟩ : ∃ y_ : List Int, y_ = (y155 ++ y158) := ⟨_, rfl⟩
                (first | (rw [← hy161] at H; with_reducible replace H := bindZ H) | rw [← hy161] at H | skip)
                have Ny161 := am_ hy161; clear hy161; have c18b0 := eq_true (of_decide_eq_true Zn : 0 ≤ x5_2); have c19b0 := eq_true (of_decide_eq_true Zn : x5_2 ≤ (x3_1.length : Int)); obtain ⟨y164, hy164⟩ : ∃ y_ : List Int, y_ = (x3_1.drop (x5_2 : Int).toNat) := ⟨_, rfl⟩
                (first | (rw [← hy164] at H; with_reducible replace H := bindZ H) | rw [← hy164] at H | skip)
                have Ny164 := am_ hy164; clear hy164
                by_cases c20 : y161.length + y164.length < 17592186044416
                ·rw [if_pos c20] at H
                 have LMc20 := am_ c20; clear c20; obtain ⟨y168, hy168⟩ : ∃ y_ : List Int, y_ = (y161 ++ y164) := ⟨_, rfl⟩
                 (first | (rw [← hy168] at H; with_reducible replace H := bindZ H) | rw [← hy168] at H | skip)
                 have Ny168 := am_ hy168; clear hy168; have H' := am_ H; clear H
                 try go_wp2
                 replace HO_3 := am_ (Kd.R_drew HO_3.out); replace HB := am_ (below_drew1 HB.out); obtain ⟨Ao22, co22, eo22⟩ := Kd.R_slice HO_3.out
                 (first | subst eo22 | (injection eo22 with f1_ f2_ f3_; have f4_ := f1_.symm; have f5_ := f3_.symm; clear f1_ f2_ f3_; subst f4_; subst f5_))
                 have p145 : 0 ≤ (x5_2 : Int) := of_decide_eq_true Zn; have q145 : x5_2 < (x3_1.length : Int) := of_decide_eq_true Zn; obtain ⟨ad145, e145, hx145_0⟩ := Kd.at_int (Kd.R_reads' HO_3.out).2.2 x5_2 p145 q145
                 cases e145
                 replace p145 := eq_true p145; replace q145 := eq_true q145; have p146 : 0 ≤ ((rd x3_1 x5_2) : Int) := of_decide_eq_true Zn; have q146 : (rd x3_1 x5_2) < (l0.length : Int) := of_decide_eq_true Zn; obtain ⟨ad146, e146, hx146_0⟩ := Kd.at_int HR0.out (rd x3_1 x5_2) p146 q146; have hw146_0 := hx146_0
                 cases e146
                 replace hx146_0 := cbH HB hx146_0; replace p146 := eq_true p146; replace q146 := eq_true q146; have p147 : 0 ≤ (x4_1 : Int) := of_decide_eq_true Zn; have q147 : x4_1 < (l0.length : Int) := of_decide_eq_true Zn; obtain ⟨ad147, e147, hx147_0⟩ := Kd.at_int HR0.out x4_1 p147 q147; have hw147_0 := hx147_0; obtain rfl : ad146 = ad147 := (by injection e147); replace hx147_0 := cbH HB hx147_0; replace p147 := eq_true p147; replace q147 := eq_true q147; refine start_ (n := 18) (S := fun w' => w'.cell? (ad145.add (x5_2).toNat) = some (.int .i64 (rd x3_1 x5_2)) ∧ w'.cell? (ad146.add ((rd x3_1 x5_2)).toNat) = some (.int .i64 (rd l0 (rd x3_1 x5_2))) ∧ w'.cell? (ad146.add (x4_1).toNat) = some (.int .i64 (rd l0 x4_1))) (ds := []) (bT 18 0) Zi rfl rfl ⟨hx145_0, (cbH HB hw146_0 :), (cbH HB hw147_0 :)⟩ (fun hHeld => ?_); refine with_tabW spec_l08Order.tab6 spec_l08Order.bits6 (fun HT_ HW_ => ?_); generalize wr.drew = w21 at HO_3 HB hx145_0 hx146_0 hx147_0 hHeld ⊢; refine pureZ HT_ 0 (some 13) (bT 18 1) ?_; refine pureZ HT_ 1 (some 14) (bT 18 2) ?_; refine pureZ HT_ 2 (some 15) (bT 18 3) ?_; refine pureZ HT_ 3 (some 16) (bT 18 4) ?_; refine pureZ HT_ 4 (some 17) (bT 18 5) ?_; refine pureZ HT_ 5 (some 18) (bT 18 6) ?_; refine pureZ HT_ 6 (some 19) (bT 18 7) ?_; refine pureZ HT_ 7 (some 20) (bT 18 8) ?_; refine pureZ HT_ 8 (some 21) (bT 18 9) ?_; refine pureZ HT_ 12 (some 25) (bB 18 4607) ?_; refine pureZ HT_ 13 (some 26) (bB 18 12799) ?_; refine pureZ HT_ 14 (some 27) (bB 18 29183) ?_; refine takeZ3 HT_ HW_ 9 (some 22) (bB 18 29695) hHeld ?_; refine pureZ HT_ 10 (some 23) (bB 18 30719) ?_; refine takeZ3 HT_ HW_ 11 (some 24) (bT 18 15) hHeld ?_; refine takeZ3 HT_ HW_ 15 (some 28) (bT 18 16) hHeld ?_; refine pureZ HT_ 16 (some 29) (bT 18 17) ?_; refine pureZ HT_ 17 (some 30) (bT 18 18) ?_; refine done_ (done_of HT_.out Zi) ?_
                 try go_wp2
                 replace HO_3 := am_ (Kd.R_drew HO_3.out); replace HB := am_ (below_drew1 HB.out); have q24 : (x5_2 : Int) ≤ ((x3_1.length : Int) : Int) := of_decide_eq_true Zn; obtain ⟨i024, hi024, _, hsz24, _⟩ := info_parts info2; have hroom24 : x3_1.length ≤ co22 := (Kd.R_reads' HO_3.out).2.1; have hC24 : Kd.C (Kd.int .i64) _ (some ad145) x3_1.length x3_1 := (Kd.R_reads' HO_3.out).2.2; have hcut24 := cut_to (P := Try.prog) 28 2 .i64 Try.underlying28 hi024 (some ad145) x3_1.length co22 x5_2 (of_decide_eq_true Zn) q24 hroom24; have hr24 := Kd.C_take (m := (x5_2 : Int).toNat) hC24 (by omega); have hy24 : y151.length = (x5_2 : Int).toNat := (by rw [Ny151.out, List.length_take]; omega); rw [← Ny151.out] at hr24; rw [← hy24] at hcut24; have HR154 := am_ hr24; have HC154 := am_ (show y151.length ≤ co22 from (by omega)); clear hr24 hC24 hroom24 hi024 hsz24; have KY24 := am_ hy24; clear hy24; have KL24 := am_ (show (x5_2 : Int).toNat ≤ x3_1.length from (by omega)); replace q24 := eq_true q24; have q25 : (x5_2 : Int) ≤ ((x3_1.length : Int) : Int) := of_decide_eq_true Zn; obtain ⟨i025, hi025, _, hsz25, _⟩ := info_parts info2; have hroom25 : x3_1.length ≤ co22 := (Kd.R_reads' HO_3.out).2.1; have hC25 : Kd.C (Kd.int .i64) _ (some ad145) x3_1.length x3_1 := (Kd.R_reads' HO_3.out).2.2; have q025 : (0 : Int) ≤ (x5_2 : Int) := of_decide_eq_true Zn; have hcut25 := cut_from (P := Try.prog) 28 2 .i64 Try.underlying28 hi025 1 hsz25 (some ad145) x3_1.length co22 x5_2 q025 q25; have hr25 := Kd.C_drop (m := (x5_2 : Int).toNat) (c := co22) hC25 (by omega) hroom25; obtain ⟨A25, hA25⟩ : ∃ A1, A1 = (if co22 = (x5_2 : Int).toNat then (some ad145) else ((some ad145) : Option Addr).map (·.add ((x5_2 : Int).toNat * 1))) := ⟨_, rfl⟩; obtain ⟨c25, hc25⟩ : ∃ c1, c1 = co22 - (x5_2 : Int).toNat := ⟨_, rfl⟩; have hy25 : y164.length = x3_1.length - (x5_2 : Int).toNat := (by rw [Ny164.out, List.length_drop] <;> omega); rw [show (x3_1).drop (x5_2 : Int).toNat = y164 from Ny164.out.symm] at hr25; replace hr25 : Kd.C (Kd.int .i64) _ A25 y164.length y164 := (by rw [hA25]; exact hr25); rw [← hy25, ← hA25, ← hc25] at hcut25; have HR167 := am_ hr25; have HC167 := am_ (show y164.length ≤ c25 from (by rw [hy25, hc25]; exact Nat.sub_le_sub_right hroom25 _)); clear hr25 hC25 hroom25 hi025 hsz25 hc25; have KY25 := am_ hy25; have KA25 := am_ hA25; clear hy25 hA25; have KL25 := am_ (show (x5_2 : Int).toNat ≤ x3_1.length from (by omega)); replace q25 := eq_true q25; refine start_ (n := 13) (S := fun w' => True) (ds := []) (bT 13 0) Zi rfl rfl trivial (fun hHeld => ?_); refine with_tabW spec_l08Order.tab8 spec_l08Order.bits8 (fun HT_ HW_ => ?_); generalize w21.drew = w23 at HO_3 HB HR154 HR167 hHeld ⊢; refine pureZ HT_ 1 (some 34) (bB 13 2) ?_; refine pureZ HT_ 2 (some 35) (bB 13 6) ?_; refine pureZ HT_ 3 (some 36) (bB 13 14) ?_; refine pureZ HT_ 5 (some 38) (bB 13 46) ?_; refine pureZ HT_ 8 (some 41) (bB 13 302) ?_; refine pureZ HT_ 9 (some 42) (bB 13 814) ?_
                 refine pureZ HT_ 10 (some 43) (bB 13 1838) ?_; refine join_ (σ := Value × Value × Value) 3 (bB 13 1919) (fun s_ => [(33, s_.1), (37, s_.2.1), (39, s_.2.2)]) (fun s_ w' => (Kd.R (Kd.int .i64) 2 w' w.heap.size (fun k_ => some k_ ≠ (s_.2.2 : Value).ownBlock ∧ some k_ ≠ (.slice (some ad145) x3_1.length co22 : Value).ownBlock) s_.2.1 y155) ∧ (Kd.R (Kd.int .i64) 2 w' w.heap.size (fun k_ => some k_ ≠ (s_.2.1 : Value).ownBlock ∧ some k_ ≠ (.slice (some ad145) x3_1.length co22 : Value).ownBlock) s_.2.2 y158) ∧ (Kd.R (Kd.int .i64) 2 w' w.heap.size (fun k_ => some k_ ≠ (s_.2.1 : Value).ownBlock ∧ some k_ ≠ (s_.2.2 : Value).ownBlock) (.slice (some ad145) x3_1.length co22) x3_1) ∧ (Kd.C (Kd.int .i64) w' (some ad145) y151.length y151) ∧ (Kd.C (Kd.int .i64) w' A25 y164.length y164) ∧ (Below w.heap.size w w')) ?_ ?_; rotate_left
                 ·intro hCont
                  refine two_ (i := 0) (j := 6) (Ni := some 33) (Nj := some 39) (bB 13 1839) (bB 13 1902) rfl rfl rfl rfl (two_of HT_.out Zi) (by decide) (by decide) (fun K hK => ?_) (fun K hK => ?_)
                  ·skip
                   refine Kd.R_lit_step (Kd.int .i64) _ 2 ?hg (N := 33) ?hd (xs := ([] : List Int)) (inner := []) (ok := fun _ => True) (okp := fun _ => True) ?hr ?hp (fun _ hk => hk) trivial (Below.refl _ _) (Nat.le_refl _) (by simp) ?_; (case hd => rfl); (case hg => rfl); (case hr => first | (go_simp; done) | (go_simp; rfl)); (case hp => exact (Reps.none _ _)); intro v149 w26 ho27 hb hg_ hnew_; clear hg_ hnew_
                   (first | rw [← Ny148.out] at ho27 | (simp only [Int.reduceToNat] at ho27; rw [← Ny148.out] at ho27))
                   replace HO150 := am_ (Kd.R_lower (Kd.R_new' ho27 (Kd.R_lt (Zo HO_3))) (below_size Zd)); replace HO_3 := am_ (Kd.R_elder' (Zo HO_3) (Kd.R_base ho27) hb); replace HR154 := am_ (Kd.C_below (Zai HR154) hb); replace HR167 := am_ (Kd.C_below (Zai HR167) hb); replace HB := (bsZ Zd hb); clear hb ho27; refine hK.out _ _ trivial (fun hHeld => ?_); clear hK K; refine normZ 33 ?_; refine two_ (i := 4) (j := 6) (Ni := some 37) (Nj := some 39) (bB 13 1855) (bB 13 1903) rfl rfl rfl rfl (two_of HT_.out Zi) (by decide) (by decide) (fun K hK => ?_) (fun K hK => ?_)
                   ·skip
                    refine Kd.R_append_rows_step (Kd.int .i64) (w0 := w) w.heap.size (by rfl) (.tmp 33) (.tmp 36) 28 2 (.int .i64 0) 8 rfl Try.underlying28 info2 rfl (by decide) (by omega) v149 y148 y151 _ _ _ (fun k_ => some k_ ≠ (.slice (some ad145) x3_1.length co22 : Value).ownBlock) (fun _ => False) rfl rfl ?aO ?aR (fun _ _ h => h) (fun _ h => h.elim) ?aF ?aB ?aS ?aL ?_
                    (case aR => repeat (first | exact (Zai HR154) | (with_reducible refine Kd.C_alloc ?_ _) | (with_reducible refine Kd.C_drewN ?_ _) | (with_reducible refine Kd.C_drew ?_)))
                    (case aB => exact Zd)
                    (case aF => exact (fun k_ hk => Kd.fresh' (Kd.R_lt (Zo HO_3)) k_ hk))
                    (case aO => exact (by (with_reducible repeat (first | apply Kd.R_alloc | apply Kd.R_drewN | apply Kd.R_drew)); exact Kd.R_mono HO150.out (fun _ hk => hk.2)))
                    (case aS => exact (below_size Zd))
                    (case aL => have := LMc16.out; omega)
                    intro v156 w28 ho hb hg hat; rw [← Ny155.out] at ho; replace HB := am_ (hb); replace HR154 := am_ ((show Kd.C (Kd.int .i64) w28 (some ad145) y151.length y151 from (by rw [Ny151.out]; exact Kd.C_take (m := (x5_2 : Int).toNat) ((Kd.R_reads' (Kd.R_after (ok := (fun _ => True)) (Zo HO_3) hg hat)).2.2) KL24.out))); replace HR167 := am_ ((show Kd.C (Kd.int .i64) w28 A25 y164.length y164 from (by rw [Ny164.out, KA25.out]; exact Kd.C_drop (m := (x5_2 : Int).toNat) (c := co22) ((Kd.R_reads' (Kd.R_after (ok := (fun _ => True)) (Zo HO_3) hg hat)).2.2) KL25.out ((Kd.R_reads' (Kd.R_after (ok := (fun _ => True)) (Zo HO_3) hg hat)).2.1)))); replace HO_3 := am_ (Kd.R_after (ok := (fun _ => True)) (Zo HO_3) hg hat); replace HO157 := am_ (ho); clear HO150; clear ho hb hg hat; refine hK.out _ _ trivial (fun hHeld => ?_); clear hK K; refine normZ 37 ?_; refine one_ (i := 6) (N := some 39) (bB 13 1919) rfl rfl (one_of HT_.out Zi) (by decide) (fun K hK => ?_); refine Kd.R_lit_step (Kd.int .i64) _ 2 ?hg (N := 39) ?hd (xs := ([x4_1] : List Int)) (inner := [.int .i64 x4_1]) (ok := fun _ => True) (okp := fun _ => True) ?hr ?hp (fun _ hk => hk) trivial (Below.refl _ _) (Nat.le_refl _) (by simp) ?_; (case hd => rfl); (case hg => rfl); (case hr => first | (go_simp; done) | (go_simp; rfl)); (case hp => exact (Reps.one (show Kd.M (Kd.int .i64) _ _ _ x4_1 [.int .i64 x4_1] from rfl) (Reps.none _ _))); intro v159 w29 ho30 hb hg_ hnew_; clear hg_ hnew_
                    (first | rw [← Ny158.out] at ho30 | (simp only [Int.reduceToNat] at ho30; rw [← Ny158.out] at ho30))
                    replace HO160 := am_ (Kd.R_lower (Kd.R_new' (Kd.R_new' ho30 (Kd.R_lt (Zo HO_3))) (Kd.R_lt (Zo HO157))) (below_size Zd)); replace HO_3 := am_ (Kd.R_elder' (Zo HO_3) (Kd.R_base ho30) hb); replace HO157 := am_ (Kd.R_elder' (Zo HO157) (Kd.R_base ho30) hb); replace HR154 := am_ (Kd.C_below (Zai HR154) hb); replace HR167 := am_ (Kd.C_below (Zai HR167) hb); replace HB := (bsZ Zd hb); clear hb ho30; refine hK.out _ _ trivial (fun hHeld => ?_); clear hK K; refine normZ 39 ?_; exact norm_ Zaj (hCont (v149, v156, v159) _ ⟨(Zak HO157), (Zal HO160), (Zam HO_3), (Zai HR154), (Zai HR167), Zd⟩)
                   ·skip
                    refine Kd.R_lit_step (Kd.int .i64) _ 2 ?hg (N := 39) ?hd (xs := ([x4_1] : List Int)) (inner := [.int .i64 x4_1]) (ok := fun _ => True) (okp := fun _ => True) ?hr ?hp (fun _ hk => hk) trivial (Below.refl _ _) (Nat.le_refl _) (by simp) ?_; (case hd => rfl); (case hg => rfl); (case hr => first | (go_simp; done) | (go_simp; rfl)); (case hp => exact (Reps.one (show Kd.M (Kd.int .i64) _ _ _ x4_1 [.int .i64 x4_1] from rfl) (Reps.none _ _))); intro v159 w28 ho29 hb hg_ hnew_; clear hg_ hnew_
                    (first | rw [← Ny158.out] at ho29 | (simp only [Int.reduceToNat] at ho29; rw [← Ny158.out] at ho29))
                    replace HO160 := am_ (Kd.R_lower (Kd.R_new' (Kd.R_new' ho29 (Kd.R_lt (Zo HO_3))) (Kd.R_lt (Zo HO150))) (below_size Zd)); replace HO_3 := am_ (Kd.R_elder' (Zo HO_3) (Kd.R_base ho29) hb); replace HO150 := am_ (Kd.R_elder' (Zo HO150) (Kd.R_base ho29) hb); replace HR154 := am_ (Kd.C_below (Zai HR154) hb); replace HR167 := am_ (Kd.C_below (Zai HR167) hb); replace HB := (bsZ Zd hb); clear hb ho29; refine hK.out _ _ trivial (fun hHeld => ?_); clear hK K; refine normZ 39 ?_; refine one_ (i := 4) (N := some 37) (bB 13 1919) rfl rfl (one_of HT_.out Zi) (by decide) (fun K hK => ?_); refine Kd.R_append_rows_step (Kd.int .i64) (w0 := w) w.heap.size (by rfl) (.tmp 33) (.tmp 36) 28 2 (.int .i64 0) 8 rfl Try.underlying28 info2 rfl (by decide) (by omega) v149 y148 y151 _ _ _ (fun k_ => some k_ ≠ (.slice (some ad145) x3_1.length co22 : Value).ownBlock ∧ some k_ ≠ (v159 : Value).ownBlock) (fun _ => False) rfl rfl ?aO ?aR (fun _ _ h => h) (fun _ h => h.elim) ?aF ?aB ?aS ?aL ?_
                    (case aR => repeat (first | exact (Zai HR154) | (with_reducible refine Kd.C_alloc ?_ _) | (with_reducible refine Kd.C_drewN ?_ _) | (with_reducible refine Kd.C_drew ?_)))
                    (case aB => exact Zd)
                    (case aF => exact (fun k_ hk => ⟨Kd.fresh' (Kd.R_lt (Zo HO_3)) k_ hk, Kd.fresh' (Kd.R_lt (Zo HO160)) k_ hk⟩))
                    (case aO => exact (Zam HO150))
                    (case aS => exact (below_size Zd))
                    (case aL => have := LMc16.out; omega)
                    intro v156 w30 ho hb hg hat; rw [← Ny155.out] at ho; replace HO160 := am_ (Kd.R_after (ok := (fun k_ => some k_ ≠ (.slice (some ad145) x3_1.length co22 : Value).ownBlock)) (Zam HO160) hg hat); replace HB := am_ (hb); replace HR154 := am_ ((show Kd.C (Kd.int .i64) w30 (some ad145) y151.length y151 from (by rw [Ny151.out]; exact Kd.C_take (m := (x5_2 : Int).toNat) ((Kd.R_reads' (Kd.R_after (ok := (fun k_ => some k_ ≠ (v159 : Value).ownBlock)) (Zal HO_3) hg hat)).2.2) KL24.out))); replace HR167 := am_ ((show Kd.C (Kd.int .i64) w30 A25 y164.length y164 from (by rw [Ny164.out, KA25.out]; exact Kd.C_drop (m := (x5_2 : Int).toNat) (c := co22) ((Kd.R_reads' (Kd.R_after (ok := (fun k_ => some k_ ≠ (v159 : Value).ownBlock)) (Zal HO_3) hg hat)).2.2) KL25.out ((Kd.R_reads' (Kd.R_after (ok := (fun k_ => some k_ ≠ (v159 : Value).ownBlock)) (Zal HO_3) hg hat)).2.1)))); replace HO_3 := am_ (Kd.R_after (ok := (fun k_ => some k_ ≠ (v159 : Value).ownBlock)) (Zal HO_3) hg hat); replace HO157 := am_ (ho); clear HO150; clear ho hb hg hat; refine hK.out _ _ trivial (fun hHeld => ?_); clear hK K; refine normZ 37 ?_; exact norm_ Zaj (hCont (v149, v156, v159) _ ⟨(Zak HO157), (Zak HO160), (Zak HO_3), (Zai HR154), (Zai HR167), Zd⟩)
                  ·skip
                   refine Kd.R_lit_step (Kd.int .i64) _ 2 ?hg (N := 39) ?hd (xs := ([x4_1] : List Int)) (inner := [.int .i64 x4_1]) (ok := fun _ => True) (okp := fun _ => True) ?hr ?hp (fun _ hk => hk) trivial (Below.refl _ _) (Nat.le_refl _) (by simp) ?_; (case hd => rfl); (case hg => rfl); (case hr => first | (go_simp; done) | (go_simp; rfl)); (case hp => exact (Reps.one (show Kd.M (Kd.int .i64) _ _ _ x4_1 [.int .i64 x4_1] from rfl) (Reps.none _ _))); intro v159 w26 ho27 hb hg_ hnew_; clear hg_ hnew_
                   (first | rw [← Ny158.out] at ho27 | (simp only [Int.reduceToNat] at ho27; rw [← Ny158.out] at ho27))
                   replace HO160 := am_ (Kd.R_lower (Kd.R_new' ho27 (Kd.R_lt (Zo HO_3))) (below_size Zd)); replace HO_3 := am_ (Kd.R_elder' (Zo HO_3) (Kd.R_base ho27) hb); replace HR154 := am_ (Kd.C_below (Zai HR154) hb); replace HR167 := am_ (Kd.C_below (Zai HR167) hb); replace HB := (bsZ Zd hb); clear hb ho27; refine hK.out _ _ trivial (fun hHeld => ?_); clear hK K; refine normZ 39 ?_; refine one_ (i := 0) (N := some 33) (bB 13 1903) rfl rfl (one_of HT_.out Zi) (by decide) (fun K hK => ?_); refine Kd.R_lit_step (Kd.int .i64) _ 2 ?hg (N := 33) ?hd (xs := ([] : List Int)) (inner := []) (ok := fun _ => True) (okp := fun _ => True) ?hr ?hp (fun _ hk => hk) trivial (Below.refl _ _) (Nat.le_refl _) (by simp) ?_; (case hd => rfl); (case hg => rfl); (case hr => first | (go_simp; done) | (go_simp; rfl)); (case hp => exact (Reps.none _ _)); intro v149 w28 ho29 hb hg_ hnew_; clear hg_ hnew_
                   (first | rw [← Ny148.out] at ho29 | (simp only [Int.reduceToNat] at ho29; rw [← Ny148.out] at ho29))
                   replace HO150 := am_ (Kd.R_lower (Kd.R_new' (Kd.R_new' ho29 (Kd.R_lt (Zo HO_3))) (Kd.R_lt (Zo HO160))) (below_size Zd)); replace HO_3 := am_ (Kd.R_elder' (Zo HO_3) (Kd.R_base ho29) hb); replace HO160 := am_ (Kd.R_elder' (Zo HO160) (Kd.R_base ho29) hb); replace HR154 := am_ (Kd.C_below (Zai HR154) hb); replace HR167 := am_ (Kd.C_below (Zai HR167) hb); replace HB := (bsZ Zd hb); clear hb ho29; refine hK.out _ _ trivial (fun hHeld => ?_); clear hK K; refine normZ 33 ?_; refine one_ (i := 4) (N := some 37) (bB 13 1919) rfl rfl (one_of HT_.out Zi) (by decide) (fun K hK => ?_); refine Kd.R_append_rows_step (Kd.int .i64) (w0 := w) w.heap.size (by rfl) (.tmp 33) (.tmp 36) 28 2 (.int .i64 0) 8 rfl Try.underlying28 info2 rfl (by decide) (by omega) v149 y148 y151 _ _ _ (fun k_ => some k_ ≠ (.slice (some ad145) x3_1.length co22 : Value).ownBlock ∧ some k_ ≠ (v159 : Value).ownBlock) (fun _ => False) rfl rfl ?aO ?aR (fun _ _ h => h) (fun _ h => h.elim) ?aF ?aB ?aS ?aL ?_
                   (case aR => repeat (first | exact (Zai HR154) | (with_reducible refine Kd.C_alloc ?_ _) | (with_reducible refine Kd.C_drewN ?_ _) | (with_reducible refine Kd.C_drew ?_)))
                   (case aB => exact Zd)
                   (case aF => exact (fun k_ hk => ⟨Kd.fresh' (Kd.R_lt (Zo HO_3)) k_ hk, Kd.fresh' (Kd.R_lt (Zo HO160)) k_ hk⟩))
                   (case aO => exact (Zam HO150))
                   (case aS => exact (below_size Zd))
                   (case aL => have := LMc16.out; omega)
                   intro v156 w30 ho hb hg hat; rw [← Ny155.out] at ho; replace HO160 := am_ (Kd.R_after (ok := (fun k_ => some k_ ≠ (.slice (some ad145) x3_1.length co22 : Value).ownBlock)) (Zam HO160) hg hat); replace HB := am_ (hb); replace HR154 := am_ ((show Kd.C (Kd.int .i64) w30 (some ad145) y151.length y151 from (by rw [Ny151.out]; exact Kd.C_take (m := (x5_2 : Int).toNat) ((Kd.R_reads' (Kd.R_after (ok := (fun k_ => some k_ ≠ (v159 : Value).ownBlock)) (Zam HO_3) hg hat)).2.2) KL24.out))); replace HR167 := am_ ((show Kd.C (Kd.int .i64) w30 A25 y164.length y164 from (by rw [Ny164.out, KA25.out]; exact Kd.C_drop (m := (x5_2 : Int).toNat) (c := co22) ((Kd.R_reads' (Kd.R_after (ok := (fun k_ => some k_ ≠ (v159 : Value).ownBlock)) (Zam HO_3) hg hat)).2.2) KL25.out ((Kd.R_reads' (Kd.R_after (ok := (fun k_ => some k_ ≠ (v159 : Value).ownBlock)) (Zam HO_3) hg hat)).2.1)))); replace HO_3 := am_ (Kd.R_after (ok := (fun k_ => some k_ ≠ (v159 : Value).ownBlock)) (Zam HO_3) hg hat); replace HO157 := am_ (ho); clear HO150; clear ho hb hg hat; refine hK.out _ _ trivial (fun hHeld => ?_); clear hK K; refine normZ 37 ?_; exact norm_ Zaj (hCont (v149, v156, v159) _ ⟨(Zak HO157), (Zak HO160), (Zak HO_3), (Zai HR154), (Zai HR167), Zd⟩)
                 rintro ⟨v149, v156, v159⟩ w31 ⟨h0_, h1_, h2_, h3_, h4_, h5_⟩; replace HO157 : Aside0 (Kd.R (Kd.int .i64) 2 w31 w.heap.size (fun k_ => some k_ ≠ (v159 : Value).ownBlock ∧ some k_ ≠ (.slice (some ad145) x3_1.length co22 : Value).ownBlock) v156 y155) := ⟨h0_⟩; replace HO160 : Aside0 (Kd.R (Kd.int .i64) 2 w31 w.heap.size (fun k_ => some k_ ≠ (v156 : Value).ownBlock ∧ some k_ ≠ (.slice (some ad145) x3_1.length co22 : Value).ownBlock) v159 y158) := ⟨h1_⟩; replace HO_3 : Aside0 (Kd.R (Kd.int .i64) 2 w31 w.heap.size (fun k_ => some k_ ≠ (v156 : Value).ownBlock ∧ some k_ ≠ (v159 : Value).ownBlock) (.slice (some ad145) x3_1.length co22) x3_1) := ⟨h2_⟩; replace HR154 : Aside0 (Kd.C (Kd.int .i64) w31 (some ad145) y151.length y151) := ⟨h3_⟩; replace HR167 : Aside0 (Kd.C (Kd.int .i64) w31 A25 y164.length y164) := ⟨h4_⟩; replace HB : Aside0 (Below w.heap.size w w31) := ⟨h5_⟩; clear h0_ h1_ h2_ h3_ h4_ h5_; have hHeld := trivial; obtain ⟨Ao33, co33, eo33⟩ := Kd.R_slice HO160.out
                 (first | subst eo33 | (injection eo33 with f1_ f2_ f3_; have f4_ := f1_.symm; have f5_ := f3_.symm; clear f1_ f2_ f3_; subst f4_; subst f5_))
                 refine normP ?_; refine one_ (i := 7) (N := some 40) (bT 13 11) rfl rfl (one_of HT_.out Zi) (by decide) (fun K hK => ?_); refine Kd.R_append_rows_step (Kd.int .i64) (w0 := w) w.heap.size (by rfl) (.tmp 37) (.tmp 39) 28 2 (.int .i64 0) 8 rfl Try.underlying28 info2 rfl (by decide) (by omega) v156 y155 y158 _ _ _ (fun k_ => some k_ ≠ (.slice (some ad145) x3_1.length co22 : Value).ownBlock ∧ some k_ ≠ (.slice Ao33 y158.length co33 : Value).ownBlock) (fun _ => False) rfl rfl ?aO ?aR (fun _ _ h => h) (fun _ h => h.elim) ?aF ?aB ?aS ?aL ?_
                 (case aR => repeat (first | exact (Kd.R_reads' HO160.out).2.2 | (with_reducible refine Kd.C_alloc ?_ _) | (with_reducible refine Kd.C_drewN ?_ _) | (with_reducible refine Kd.C_drew ?_)))
                 (case aB => exact Zd)
                 (case aF => exact (fun k_ hk => ⟨Kd.fresh' (Kd.R_lt (Zo HO_3)) k_ hk, Kd.fresh' (Kd.R_lt (Zo HO160)) k_ hk⟩))
                 (case aO => exact (Zak HO157))
                 (case aS => exact (below_size Zd))
                 (case aL => have := LMc17.out; omega)
                 intro v162 w32 ho hb hg hat; rw [← Ny161.out] at ho; replace HO160 := am_ (Kd.R_after (ok := (fun k_ => some k_ ≠ (.slice (some ad145) x3_1.length co22 : Value).ownBlock)) (Zak HO160) hg hat); replace HB := am_ (hb); replace HR154 := am_ ((show Kd.C (Kd.int .i64) w32 (some ad145) y151.length y151 from (by rw [Ny151.out]; exact Kd.C_take (m := (x5_2 : Int).toNat) ((Kd.R_reads' (Kd.R_after (ok := (fun k_ => some k_ ≠ (.slice Ao33 y158.length co33 : Value).ownBlock)) (Zak HO_3) hg hat)).2.2) KL24.out))); replace HR167 := am_ ((show Kd.C (Kd.int .i64) w32 A25 y164.length y164 from (by rw [Ny164.out, KA25.out]; exact Kd.C_drop (m := (x5_2 : Int).toNat) (c := co22) ((Kd.R_reads' (Kd.R_after (ok := (fun k_ => some k_ ≠ (.slice Ao33 y158.length co33 : Value).ownBlock)) (Zak HO_3) hg hat)).2.2) KL25.out ((Kd.R_reads' (Kd.R_after (ok := (fun k_ => some k_ ≠ (.slice Ao33 y158.length co33 : Value).ownBlock)) (Zak HO_3) hg hat)).2.1)))); replace HO_3 := am_ (Kd.R_after (ok := (fun k_ => some k_ ≠ (.slice Ao33 y158.length co33 : Value).ownBlock)) (Zak HO_3) hg hat); replace HO163 := am_ (ho); clear HO157; clear ho hb hg hat; refine hK.out _ _ trivial (fun hHeld => ?_); clear hK K; refine normZ 40 ?_; refine one_ (i := 11) (N := some 44) (bT 13 12) rfl rfl (one_of HT_.out Zi) (by decide) (fun K hK => ?_); refine Kd.R_append_rows_step (Kd.int .i64) (w0 := w) w.heap.size (by rfl) (.tmp 40) (.tmp 43) 28 2 (.int .i64 0) 8 rfl Try.underlying28 info2 rfl (by decide) (by omega) v162 y161 y164 _ _ _ (fun k_ => some k_ ≠ (.slice (some ad145) x3_1.length co22 : Value).ownBlock ∧ some k_ ≠ (.slice Ao33 y158.length co33 : Value).ownBlock) (fun _ => False) rfl rfl ?aO ?aR (fun _ _ h => h) (fun _ h => h.elim) ?aF ?aB ?aS ?aL ?_
                 (case aR => repeat (first | exact (Zai HR167) | (with_reducible refine Kd.C_alloc ?_ _) | (with_reducible refine Kd.C_drewN ?_ _) | (with_reducible refine Kd.C_drew ?_)))
                 (case aB => exact Zd)
                 (case aF => exact (fun k_ hk => ⟨Kd.fresh' (Kd.R_lt (Zo HO_3)) k_ hk, Kd.fresh' (Kd.R_lt (Zo HO160)) k_ hk⟩))
                 (case aO => exact (Zo HO163))
                 (case aS => exact (below_size Zd))
                 (case aL => have := LMc20.out; omega)
                 intro v169 w34 ho hb hg hat; rw [← Ny168.out] at ho; replace HO160 := am_ (Kd.R_after (ok := (fun k_ => some k_ ≠ (.slice (some ad145) x3_1.length co22 : Value).ownBlock)) (Zo HO160) hg hat); replace HB := am_ (hb); replace HR154 := am_ ((show Kd.C (Kd.int .i64) w34 (some ad145) y151.length y151 from (by rw [Ny151.out]; exact Kd.C_take (m := (x5_2 : Int).toNat) ((Kd.R_reads' (Kd.R_after (ok := (fun k_ => some k_ ≠ (.slice Ao33 y158.length co33 : Value).ownBlock)) (Zo HO_3) hg hat)).2.2) KL24.out))); replace HR167 := am_ ((show Kd.C (Kd.int .i64) w34 A25 y164.length y164 from (by rw [Ny164.out, KA25.out]; exact Kd.C_drop (m := (x5_2 : Int).toNat) (c := co22) ((Kd.R_reads' (Kd.R_after (ok := (fun k_ => some k_ ≠ (.slice Ao33 y158.length co33 : Value).ownBlock)) (Zo HO_3) hg hat)).2.2) KL25.out ((Kd.R_reads' (Kd.R_after (ok := (fun k_ => some k_ ≠ (.slice Ao33 y158.length co33 : Value).ownBlock)) (Zo HO_3) hg hat)).2.1)))); replace HO_3 := am_ (Kd.R_after (ok := (fun k_ => some k_ ≠ (.slice Ao33 y158.length co33 : Value).ownBlock)) (Zo HO_3) hg hat); replace HO170 := am_ (ho); clear HO163; clear ho hb hg hat; refine hK.out _ _ trivial (fun hHeld => ?_); clear hK K; refine normZ 44 ?_; refine pureZ HT_ 12 (some 3) (bT 13 13) ?_; refine done_ (done_of HT_.out Zi) ?_
                 try go_wp2
                 go_roundg k2
                 case measure => have := HK1.out; have := HK2.out; omega
                 case rel => exact ⟨(y168), (wrap64 (x4_1 + 1)), Za, H', ⟨by have := HK1.out; have := HK2.out; omega⟩, ⟨(Zan HO170)⟩, ⟨Zd⟩⟩
                ·rw [if_neg c20] at H
                 exact absurd H (by simp)
               ·rw [if_neg c17] at H
                exact absurd H (by simp)
              ·rw [if_neg c16] at H
               exact absurd H (by simp)
             ·rw [if_neg c15] at H
              exact absurd H (by simp)
           ·rw [if_neg c10] at H
            exact absurd H (by simp)
          ·rw [if_neg c9] at H
           exact absurd H (by simp)
         ·rw [if_neg c8] at H
          exact absurd H (by simp)
        ·rw [if_neg c7] at H
         exact absurd H (by simp)
       ·rw [if_neg c6] at H
        exact absurd H (by simp)
      ·rw [if_neg c5] at H
       have c5b0 := decide_eq_false c5; clear c5; obtain ⟨y171, hy171⟩ : ∃ y_ : List Int, y_ = (([] : List Int)) := ⟨_, rfl⟩
       replace H : (if 0 ≤ x5_2 then (if x5_2 ≤ (x3_1.length : Int) then ((some (x3_1.take (x5_2 : Int).toNat : List Int)).bind fun y174 => (if y171.length + y174.length < 17592186044416 then ((some (y171 ++ y174 : List Int)).bind fun y178 => ((some (([x4_1] : List Int) : List Int)).bind fun y181 => (if y178.length + y181.length < 17592186044416 then ((some (y178 ++ y181 : List Int)).bind fun y184 => ((some (x3_1.drop (x5_2 : Int).toNat : List Int)).bind fun y187 => (if y184.length + y187.length < 17592186044416 then (spec_l08Order.l0 k2 l0 (y184 ++ y187) (wrap64 (x4_1 + 1))) else (none)))) else (none)))) else (none))) else (none)) else (none)) = some r := by (try rw [hy171]); first | with_reducible exact H | with_reducible exact (Option.bind_some _ _).symm.trans H | exact H
       have Ny171 := am_ hy171; clear hy171
       by_cases c35 : 0 ≤ x5_2
       ·rw [if_pos c35] at H
        have c35b0 := eq_true c35; have c35b1 := decide_eq_true c35; clear c35
        by_cases c36 : x5_2 ≤ (x3_1.length : Int)
        ·rw [if_pos c36] at H
         have c36b0 := eq_true c36; have c36b1 := decide_eq_true c36; clear c36; obtain ⟨y174, hy174⟩ : ∃ y_ : List Int, y_ = (x3_1.take (x5_2 : Int).toNat) := ⟨_, rfl⟩
         (first | (rw [← hy174] at H; with_reducible replace H := bindZ H) | rw [← hy174] at H | skip)
         have Ny174 := am_ hy174; clear hy174
         by_cases c37 : y171.length + y174.length < 17592186044416
         ·rw [if_pos c37] at H
          have LMc37 := am_ c37; clear c37; obtain ⟨y178, hy178⟩ : ∃ y_ : List Int, y_ = (y171 ++ y174) := ⟨_, rfl⟩
          (first | (rw [← hy178] at H; with_reducible replace H := bindZ H) | rw [← hy178] at H | skip)
          have Ny178 := am_ hy178; clear hy178; obtain ⟨y181, hy181⟩ : ∃ y_ : List Int, y_ = (([x4_1] : List Int)) := ⟨_, rfl⟩
          (first | (rw [← hy181] at H; with_reducible replace H := bindZ H) | rw [← hy181] at H | skip)
          have Ny181 := am_ hy181; clear hy181
          by_cases c38 : y178.length + y181.length < 17592186044416
          ·rw [if_pos c38] at H
           have LMc38 := am_ c38; clear c38; obtain ⟨y184, hy184⟩ : ∃ y_ : List Int, y_ = (y178 ++ y181) := ⟨_, rfl⟩
           (first | (rw [← hy184] at H; with_reducible replace H := bindZ H) | rw [← hy184] at H | skip)
           have Ny184 := am_ hy184; clear hy184; have c39b0 := eq_true (of_decide_eq_true Zn : 0 ≤ x5_2); have c40b0 := eq_true (of_decide_eq_true Zn : x5_2 ≤ (x3_1.length : Int)); obtain ⟨y187, hy187⟩ : ∃ y_ : List Int, y_ = (x3_1.drop (x5_2 : Int).toNat) := ⟨_, rfl⟩
           (first | (rw [← hy187] at H; with_reducible replace H := bindZ H) | rw [← hy187] at H | skip)
           have Ny187 := am_ hy187; clear hy187
           by_cases c41 : y184.length + y187.length < 17592186044416
           ·rw [if_pos c41] at H
            have LMc41 := am_ c41; clear c41; obtain ⟨y191, hy191⟩ : ∃ y_ : List Int, y_ = (y184 ++ y187) := ⟨_, rfl⟩
            (first | (rw [← hy191] at H; with_reducible replace H := bindZ H) | rw [← hy191] at H | skip)
            have Ny191 := am_ hy191; clear hy191; have H' := am_ H; clear H
            try go_wp2
            replace HO_3 := am_ (Kd.R_drew HO_3.out); replace HB := am_ (below_drew1 HB.out); obtain ⟨Ao43, co43, eo43⟩ := Kd.R_slice HO_3.out
            (first | subst eo43 | (injection eo43 with f1_ f2_ f3_; have f4_ := f1_.symm; have f5_ := f3_.symm; clear f1_ f2_ f3_; subst f4_; subst f5_))
            refine start_ (n := 18) (S := fun w' => True) (ds := []) (bT 18 0) Zi rfl rfl trivial (fun hHeld => ?_); refine with_tabW spec_l08Order.tab6 spec_l08Order.bits6 (fun HT_ HW_ => ?_); generalize wr.drew = w42 at HO_3 HB hHeld ⊢; refine pureZ HT_ 0 (some 13) (bT 18 1) ?_; refine pureZ HT_ 1 (some 14) (bT 18 2) ?_; refine pureZ HT_ 2 (some 15) (bT 18 3) ?_; refine pureZ HT_ 3 (some 16) (bT 18 4) ?_; refine pureZ HT_ 4 (some 17) (bT 18 5) ?_; refine pureU HT_ 5 (some 18) (bT 18 6) ?_; refine pureU HT_ 6 (some 19) (bT 18 7) ?_; refine pureU HT_ 7 (some 20) (bT 18 8) ?_; refine pureU HT_ 8 (some 21) (bT 18 9) ?_; refine pureU HT_ 9 (some 22) (bT 18 10) ?_; refine pureU HT_ 10 (some 23) (bT 18 11) ?_; refine pureU HT_ 11 (some 24) (bT 18 12) ?_; refine pureU HT_ 12 (some 25) (bT 18 13) ?_; refine pureU HT_ 13 (some 26) (bT 18 14) ?_; refine pureU HT_ 14 (some 27) (bT 18 15) ?_; refine pureU HT_ 15 (some 28) (bT 18 16) ?_; refine pureU HT_ 16 (some 29) (bT 18 17) ?_; refine pureZ HT_ 17 (some 30) (bT 18 18) ?_; refine done_ (done_of HT_.out Zi) ?_
            try go_wp2
            replace HO_3 := am_ (Kd.R_drew HO_3.out); replace HB := am_ (below_drew1 HB.out); have q45 : (x5_2 : Int) ≤ ((x3_1.length : Int) : Int) := of_decide_eq_true Zn; obtain ⟨i045, hi045, _, hsz45, _⟩ := info_parts info2; have hroom45 : x3_1.length ≤ co43 := (Kd.R_reads' HO_3.out).2.1; have hC45 : Kd.C (Kd.int .i64) _ Ao43 x3_1.length x3_1 := (Kd.R_reads' HO_3.out).2.2; have hcut45 := cut_to (P := Try.prog) 28 2 .i64 Try.underlying28 hi045 Ao43 x3_1.length co43 x5_2 (of_decide_eq_true Zn) q45 hroom45; have hr45 := Kd.C_take (m := (x5_2 : Int).toNat) hC45 (by omega); have hy45 : y174.length = (x5_2 : Int).toNat := (by rw [Ny174.out, List.length_take]; omega); rw [← Ny174.out] at hr45; rw [← hy45] at hcut45; have HR177 := am_ hr45; have HC177 := am_ (show y174.length ≤ co43 from (by omega)); clear hr45 hC45 hroom45 hi045 hsz45; have KY45 := am_ hy45; clear hy45; have KL45 := am_ (show (x5_2 : Int).toNat ≤ x3_1.length from (by omega)); replace q45 := eq_true q45; have q46 : (x5_2 : Int) ≤ ((x3_1.length : Int) : Int) := of_decide_eq_true Zn; obtain ⟨i046, hi046, _, hsz46, _⟩ := info_parts info2; have hroom46 : x3_1.length ≤ co43 := (Kd.R_reads' HO_3.out).2.1; have hC46 : Kd.C (Kd.int .i64) _ Ao43 x3_1.length x3_1 := (Kd.R_reads' HO_3.out).2.2; have q046 : (0 : Int) ≤ (x5_2 : Int) := of_decide_eq_true Zn; have hcut46 := cut_from (P := Try.prog) 28 2 .i64 Try.underlying28 hi046 1 hsz46 Ao43 x3_1.length co43 x5_2 q046 q46; have hr46 := Kd.C_drop (m := (x5_2 : Int).toNat) (c := co43) hC46 (by omega) hroom46; obtain ⟨A46, hA46⟩ : ∃ A1, A1 = (if co43 = (x5_2 : Int).toNat then Ao43 else (Ao43 : Option Addr).map (·.add ((x5_2 : Int).toNat * 1))) := ⟨_, rfl⟩; obtain ⟨c46, hc46⟩ : ∃ c1, c1 = co43 - (x5_2 : Int).toNat := ⟨_, rfl⟩; have hy46 : y187.length = x3_1.length - (x5_2 : Int).toNat := (by rw [Ny187.out, List.length_drop] <;> omega); rw [show (x3_1).drop (x5_2 : Int).toNat = y187 from Ny187.out.symm] at hr46; replace hr46 : Kd.C (Kd.int .i64) _ A46 y187.length y187 := (by rw [hA46]; exact hr46); rw [← hy46, ← hA46, ← hc46] at hcut46; have HR190 := am_ hr46; have HC190 := am_ (show y187.length ≤ c46 from (by rw [hy46, hc46]; exact Nat.sub_le_sub_right hroom46 _)); clear hr46 hC46 hroom46 hi046 hsz46 hc46; have KY46 := am_ hy46; have KA46 := am_ hA46; clear hy46 hA46; have KL46 := am_ (show (x5_2 : Int).toNat ≤ x3_1.length from (by omega)); replace q46 := eq_true q46; refine start_ (n := 13) (S := fun w' => True) (ds := []) (bT 13 0) Zi rfl rfl trivial (fun hHeld => ?_); refine with_tabW spec_l08Order.tab8 spec_l08Order.bits8 (fun HT_ HW_ => ?_); generalize w42.drew = w44 at HO_3 HB HR177 HR190 hHeld ⊢; refine pureZ HT_ 1 (some 34) (bB 13 2) ?_; refine pureZ HT_ 2 (some 35) (bB 13 6) ?_; refine pureZ HT_ 3 (some 36) (bB 13 14) ?_; refine pureZ HT_ 5 (some 38) (bB 13 46) ?_; refine pureZ HT_ 8 (some 41) (bB 13 302) ?_; refine pureZ HT_ 9 (some 42) (bB 13 814) ?_; refine pureZ HT_ 10 (some 43) (bB 13 1838) ?_
            refine join_ (σ := Value × Value × Value) 3 (bB 13 1919) (fun s_ => [(33, s_.1), (37, s_.2.1), (39, s_.2.2)]) (fun s_ w' => (Kd.R (Kd.int .i64) 2 w' w.heap.size (fun k_ => some k_ ≠ (s_.2.2 : Value).ownBlock ∧ some k_ ≠ (.slice Ao43 x3_1.length co43 : Value).ownBlock) s_.2.1 y178) ∧ (Kd.R (Kd.int .i64) 2 w' w.heap.size (fun k_ => some k_ ≠ (s_.2.1 : Value).ownBlock ∧ some k_ ≠ (.slice Ao43 x3_1.length co43 : Value).ownBlock) s_.2.2 y181) ∧ (Kd.R (Kd.int .i64) 2 w' w.heap.size (fun k_ => some k_ ≠ (s_.2.1 : Value).ownBlock ∧ some k_ ≠ (s_.2.2 : Value).ownBlock) (.slice Ao43 x3_1.length co43) x3_1) ∧ (Kd.C (Kd.int .i64) w' Ao43 y174.length y174) ∧ (Kd.C (Kd.int .i64) w' A46 y187.length y187) ∧ (Below w.heap.size w w')) ?_ ?_; rotate_left
            ·intro hCont
             refine two_ (i := 0) (j := 6) (Ni := some 33) (Nj := some 39) (bB 13 1839) (bB 13 1902) rfl rfl rfl rfl (two_of HT_.out Zi) (by decide) (by decide) (fun K hK => ?_) (fun K hK => ?_)
             ·skip
              refine Kd.R_lit_step (Kd.int .i64) _ 2 ?hg (N := 33) ?hd (xs := ([] : List Int)) (inner := []) (ok := fun _ => True) (okp := fun _ => True) ?hr ?hp (fun _ hk => hk) trivial (Below.refl _ _) (Nat.le_refl _) (by simp) ?_; (case hd => rfl); (case hg => rfl); (case hr => first | (go_simp; done) | (go_simp; rfl)); (case hp => exact (Reps.none _ _)); intro v172 w47 ho48 hb hg_ hnew_; clear hg_ hnew_
              (first | rw [← Ny171.out] at ho48 | (simp only [Int.reduceToNat] at ho48; rw [← Ny171.out] at ho48))
              replace HO173 := am_ (Kd.R_lower (Kd.R_new' ho48 (Kd.R_lt (Zo HO_3))) (below_size Zd)); replace HO_3 := am_ (Kd.R_elder' (Zo HO_3) (Kd.R_base ho48) hb); replace HR177 := am_ (Kd.C_below (Zai HR177) hb); replace HR190 := am_ (Kd.C_below (Zai HR190) hb); replace HB := (bsZ Zd hb); clear hb ho48; refine hK.out _ _ trivial (fun hHeld => ?_); clear hK K; refine normZ 33 ?_; refine two_ (i := 4) (j := 6) (Ni := some 37) (Nj := some 39) (bB 13 1855) (bB 13 1903) rfl rfl rfl rfl (two_of HT_.out Zi) (by decide) (by decide) (fun K hK => ?_) (fun K hK => ?_)
              ·skip
               refine Kd.R_append_rows_step (Kd.int .i64) (w0 := w) w.heap.size (by rfl) (.tmp 33) (.tmp 36) 28 2 (.int .i64 0) 8 rfl Try.underlying28 info2 rfl (by decide) (by omega) v172 y171 y174 _ _ _ (fun k_ => some k_ ≠ (.slice Ao43 x3_1.length co43 : Value).ownBlock) (fun _ => False) rfl rfl ?aO ?aR (fun _ _ h => h) (fun _ h => h.elim) ?aF ?aB ?aS ?aL ?_
               (case aR => repeat (first | exact (Zai HR177) | (with_reducible refine Kd.C_alloc ?_ _) | (with_reducible refine Kd.C_drewN ?_ _) | (with_reducible refine Kd.C_drew ?_)))
               (case aB => exact Zd)
               (case aF => exact (fun k_ hk => Kd.fresh' (Kd.R_lt (Zo HO_3)) k_ hk))
               (case aO => exact (by (with_reducible repeat (first | apply Kd.R_alloc | apply Kd.R_drewN | apply Kd.R_drew)); exact Kd.R_mono HO173.out (fun _ hk => hk.2)))
               (case aS => exact (below_size Zd))
               (case aL => have := LMc37.out; omega)
               intro v179 w49 ho hb hg hat; rw [← Ny178.out] at ho; replace HB := am_ (hb); replace HR177 := am_ ((show Kd.C (Kd.int .i64) w49 Ao43 y174.length y174 from (by rw [Ny174.out]; exact Kd.C_take (m := (x5_2 : Int).toNat) ((Kd.R_reads' (Kd.R_after (ok := (fun _ => True)) (Zo HO_3) hg hat)).2.2) KL45.out))); replace HR190 := am_ ((show Kd.C (Kd.int .i64) w49 A46 y187.length y187 from (by rw [Ny187.out, KA46.out]; exact Kd.C_drop (m := (x5_2 : Int).toNat) (c := co43) ((Kd.R_reads' (Kd.R_after (ok := (fun _ => True)) (Zo HO_3) hg hat)).2.2) KL46.out ((Kd.R_reads' (Kd.R_after (ok := (fun _ => True)) (Zo HO_3) hg hat)).2.1)))); replace HO_3 := am_ (Kd.R_after (ok := (fun _ => True)) (Zo HO_3) hg hat); replace HO180 := am_ (ho); clear HO173; clear ho hb hg hat; refine hK.out _ _ trivial (fun hHeld => ?_); clear hK K; refine normZ 37 ?_; refine one_ (i := 6) (N := some 39) (bB 13 1919) rfl rfl (one_of HT_.out Zi) (by decide) (fun K hK => ?_); refine Kd.R_lit_step (Kd.int .i64) _ 2 ?hg (N := 39) ?hd (xs := ([x4_1] : List Int)) (inner := [.int .i64 x4_1]) (ok := fun _ => True) (okp := fun _ => True) ?hr ?hp (fun _ hk => hk) trivial (Below.refl _ _) (Nat.le_refl _) (by simp) ?_; (case hd => rfl); (case hg => rfl); (case hr => first | (go_simp; done) | (go_simp; rfl)); (case hp => exact (Reps.one (show Kd.M (Kd.int .i64) _ _ _ x4_1 [.int .i64 x4_1] from rfl) (Reps.none _ _))); intro v182 w50 ho51 hb hg_ hnew_; clear hg_ hnew_
               (first | rw [← Ny181.out] at ho51 | (simp only [Int.reduceToNat] at ho51; rw [← Ny181.out] at ho51))
               replace HO183 := am_ (Kd.R_lower (Kd.R_new' (Kd.R_new' ho51 (Kd.R_lt (Zo HO_3))) (Kd.R_lt (Zo HO180))) (below_size Zd)); replace HO_3 := am_ (Kd.R_elder' (Zo HO_3) (Kd.R_base ho51) hb); replace HO180 := am_ (Kd.R_elder' (Zo HO180) (Kd.R_base ho51) hb); replace HR177 := am_ (Kd.C_below (Zai HR177) hb); replace HR190 := am_ (Kd.C_below (Zai HR190) hb); replace HB := (bsZ Zd hb); clear hb ho51; refine hK.out _ _ trivial (fun hHeld => ?_); clear hK K; refine normZ 39 ?_; exact norm_ Zaj (hCont (v172, v179, v182) _ ⟨(Zak HO180), (Zal HO183), (Zam HO_3), (Zai HR177), (Zai HR190), Zd⟩)
              ·skip
               refine Kd.R_lit_step (Kd.int .i64) _ 2 ?hg (N := 39) ?hd (xs := ([x4_1] : List Int)) (inner := [.int .i64 x4_1]) (ok := fun _ => True) (okp := fun _ => True) ?hr ?hp (fun _ hk => hk) trivial (Below.refl _ _) (Nat.le_refl _) (by simp) ?_; (case hd => rfl); (case hg => rfl); (case hr => first | (go_simp; done) | (go_simp; rfl)); (case hp => exact (Reps.one (show Kd.M (Kd.int .i64) _ _ _ x4_1 [.int .i64 x4_1] from rfl) (Reps.none _ _))); intro v182 w49 ho50 hb hg_ hnew_; clear hg_ hnew_
               (first | rw [← Ny181.out] at ho50 | (simp only [Int.reduceToNat] at ho50; rw [← Ny181.out] at ho50))
               replace HO183 := am_ (Kd.R_lower (Kd.R_new' (Kd.R_new' ho50 (Kd.R_lt (Zo HO_3))) (Kd.R_lt (Zo HO173))) (below_size Zd)); replace HO_3 := am_ (Kd.R_elder' (Zo HO_3) (Kd.R_base ho50) hb); replace HO173 := am_ (Kd.R_elder' (Zo HO173) (Kd.R_base ho50) hb); replace HR177 := am_ (Kd.C_below (Zai HR177) hb); replace HR190 := am_ (Kd.C_below (Zai HR190) hb); replace HB := (bsZ Zd hb); clear hb ho50; refine hK.out _ _ trivial (fun hHeld => ?_); clear hK K; refine normZ 39 ?_; refine one_ (i := 4) (N := some 37) (bB 13 1919) rfl rfl (one_of HT_.out Zi) (by decide) (fun K hK => ?_); refine Kd.R_append_rows_step (Kd.int .i64) (w0 := w) w.heap.size (by rfl) (.tmp 33) (.tmp 36) 28 2 (.int .i64 0) 8 rfl Try.underlying28 info2 rfl (by decide) (by omega) v172 y171 y174 _ _ _ (fun k_ => some k_ ≠ (.slice Ao43 x3_1.length co43 : Value).ownBlock ∧ some k_ ≠ (v182 : Value).ownBlock) (fun _ => False) rfl rfl ?aO ?aR (fun _ _ h => h) (fun _ h => h.elim) ?aF ?aB ?aS ?aL ?_
               (case aR => repeat (first | exact (Zai HR177) | (with_reducible refine Kd.C_alloc ?_ _) | (with_reducible refine Kd.C_drewN ?_ _) | (with_reducible refine Kd.C_drew ?_)))
               (case aB => exact Zd)
               (case aF => exact (fun k_ hk => ⟨Kd.fresh' (Kd.R_lt (Zo HO_3)) k_ hk, Kd.fresh' (Kd.R_lt (Zo HO183)) k_ hk⟩))
               (case aO => exact (Zam HO173))
               (case aS => exact (below_size Zd))
               (case aL => have := LMc37.out; omega)
               intro v179 w51 ho hb hg hat; rw [← Ny178.out] at ho; replace HO183 := am_ (Kd.R_after (ok := (fun k_ => some k_ ≠ (.slice Ao43 x3_1.length co43 : Value).ownBlock)) (Zam HO183) hg hat); replace HB := am_ (hb); replace HR177 := am_ ((show Kd.C (Kd.int .i64) w51 Ao43 y174.length y174 from (by rw [Ny174.out]; exact Kd.C_take (m := (x5_2 : Int).toNat) ((Kd.R_reads' (Kd.R_after (ok := (fun k_ => some k_ ≠ (v182 : Value).ownBlock)) (Zal HO_3) hg hat)).2.2) KL45.out))); replace HR190 := am_ ((show Kd.C (Kd.int .i64) w51 A46 y187.length y187 from (by rw [Ny187.out, KA46.out]; exact Kd.C_drop (m := (x5_2 : Int).toNat) (c := co43) ((Kd.R_reads' (Kd.R_after (ok := (fun k_ => some k_ ≠ (v182 : Value).ownBlock)) (Zal HO_3) hg hat)).2.2) KL46.out ((Kd.R_reads' (Kd.R_after (ok := (fun k_ => some k_ ≠ (v182 : Value).ownBlock)) (Zal HO_3) hg hat)).2.1)))); replace HO_3 := am_ (Kd.R_after (ok := (fun k_ => some k_ ≠ (v182 : Value).ownBlock)) (Zal HO_3) hg hat); replace HO180 := am_ (ho); clear HO173; clear ho hb hg hat; refine hK.out _ _ trivial (fun hHeld => ?_); clear hK K; refine normZ 37 ?_; exact norm_ Zaj (hCont (v172, v179, v182) _ ⟨(Zak HO180), (Zak HO183), (Zak HO_3), (Zai HR177), (Zai HR190), Zd⟩)
             ·skip
              refine Kd.R_lit_step (Kd.int .i64) _ 2 ?hg (N := 39) ?hd (xs := ([x4_1] : List Int)) (inner := [.int .i64 x4_1]) (ok := fun _ => True) (okp := fun _ => True) ?hr ?hp (fun _ hk => hk) trivial (Below.refl _ _) (Nat.le_refl _) (by simp) ?_; (case hd => rfl); (case hg => rfl); (case hr => first | (go_simp; done) | (go_simp; rfl)); (case hp => exact (Reps.one (show Kd.M (Kd.int .i64) _ _ _ x4_1 [.int .i64 x4_1] from rfl) (Reps.none _ _))); intro v182 w47 ho48 hb hg_ hnew_; clear hg_ hnew_
              (first | rw [← Ny181.out] at ho48 | (simp only [Int.reduceToNat] at ho48; rw [← Ny181.out] at ho48))
              replace HO183 := am_ (Kd.R_lower (Kd.R_new' ho48 (Kd.R_lt (Zo HO_3))) (below_size Zd)); replace HO_3 := am_ (Kd.R_elder' (Zo HO_3) (Kd.R_base ho48) hb); replace HR177 := am_ (Kd.C_below (Zai HR177) hb); replace HR190 := am_ (Kd.C_below (Zai HR190) hb); replace HB := (bsZ Zd hb); clear hb ho48; refine hK.out _ _ trivial (fun hHeld => ?_); clear hK K; refine normZ 39 ?_; refine one_ (i := 0) (N := some 33) (bB 13 1903) rfl rfl (one_of HT_.out Zi) (by decide) (fun K hK => ?_); refine Kd.R_lit_step (Kd.int .i64) _ 2 ?hg (N := 33) ?hd (xs := ([] : List Int)) (inner := []) (ok := fun _ => True) (okp := fun _ => True) ?hr ?hp (fun _ hk => hk) trivial (Below.refl _ _) (Nat.le_refl _) (by simp) ?_; (case hd => rfl); (case hg => rfl); (case hr => first | (go_simp; done) | (go_simp; rfl)); (case hp => exact (Reps.none _ _)); intro v172 w49 ho50 hb hg_ hnew_; clear hg_ hnew_
              (first | rw [← Ny171.out] at ho50 | (simp only [Int.reduceToNat] at ho50; rw [← Ny171.out] at ho50))
              replace HO173 := am_ (Kd.R_lower (Kd.R_new' (Kd.R_new' ho50 (Kd.R_lt (Zo HO_3))) (Kd.R_lt (Zo HO183))) (below_size Zd)); replace HO_3 := am_ (Kd.R_elder' (Zo HO_3) (Kd.R_base ho50) hb); replace HO183 := am_ (Kd.R_elder' (Zo HO183) (Kd.R_base ho50) hb); replace HR177 := am_ (Kd.C_below (Zai HR177) hb); replace HR190 := am_ (Kd.C_below (Zai HR190) hb); replace HB := (bsZ Zd hb); clear hb ho50; refine hK.out _ _ trivial (fun hHeld => ?_); clear hK K; refine normZ 33 ?_; refine one_ (i := 4) (N := some 37) (bB 13 1919) rfl rfl (one_of HT_.out Zi) (by decide) (fun K hK => ?_); refine Kd.R_append_rows_step (Kd.int .i64) (w0 := w) w.heap.size (by rfl) (.tmp 33) (.tmp 36) 28 2 (.int .i64 0) 8 rfl Try.underlying28 info2 rfl (by decide) (by omega) v172 y171 y174 _ _ _ (fun k_ => some k_ ≠ (.slice Ao43 x3_1.length co43 : Value).ownBlock ∧ some k_ ≠ (v182 : Value).ownBlock) (fun _ => False) rfl rfl ?aO ?aR (fun _ _ h => h) (fun _ h => h.elim) ?aF ?aB ?aS ?aL ?_
              (case aR => repeat (first | exact (Zai HR177) | (with_reducible refine Kd.C_alloc ?_ _) | (with_reducible refine Kd.C_drewN ?_ _) | (with_reducible refine Kd.C_drew ?_)))
              (case aB => exact Zd)
              (case aF => exact (fun k_ hk => ⟨Kd.fresh' (Kd.R_lt (Zo HO_3)) k_ hk, Kd.fresh' (Kd.R_lt (Zo HO183)) k_ hk⟩))
              (case aO => exact (Zam HO173))
              (case aS => exact (below_size Zd))
              (case aL => have := LMc37.out; omega)
              intro v179 w51 ho hb hg hat; rw [← Ny178.out] at ho; replace HO183 := am_ (Kd.R_after (ok := (fun k_ => some k_ ≠ (.slice Ao43 x3_1.length co43 : Value).ownBlock)) (Zam HO183) hg hat); replace HB := am_ (hb); replace HR177 := am_ ((show Kd.C (Kd.int .i64) w51 Ao43 y174.length y174 from (by rw [Ny174.out]; exact Kd.C_take (m := (x5_2 : Int).toNat) ((Kd.R_reads' (Kd.R_after (ok := (fun k_ => some k_ ≠ (v182 : Value).ownBlock)) (Zam HO_3) hg hat)).2.2) KL45.out))); replace HR190 := am_ ((show Kd.C (Kd.int .i64) w51 A46 y187.length y187 from (by rw [Ny187.out, KA46.out]; exact Kd.C_drop (m := (x5_2 : Int).toNat) (c := co43) ((Kd.R_reads' (Kd.R_after (ok := (fun k_ => some k_ ≠ (v182 : Value).ownBlock)) (Zam HO_3) hg hat)).2.2) KL46.out ((Kd.R_reads' (Kd.R_after (ok := (fun k_ => some k_ ≠ (v182 : Value).ownBlock)) (Zam HO_3) hg hat)).2.1)))); replace HO_3 := am_ (Kd.R_after (ok := (fun k_ => some k_ ≠ (v182 : Value).ownBlock)) (Zam HO_3) hg hat); replace HO180 := am_ (ho); clear HO173; clear ho hb hg hat; refine hK.out _ _ trivial (fun hHeld => ?_); clear hK K; refine normZ 37 ?_; exact norm_ Zaj (hCont (v172, v179, v182) _ ⟨(Zak HO180), (Zak HO183), (Zak HO_3), (Zai HR177), (Zai HR190), Zd⟩)
            rintro ⟨v172, v179, v182⟩ w52 ⟨h0_, h1_, h2_, h3_, h4_, h5_⟩; replace HO180 : Aside0 (Kd.R (Kd.int .i64) 2 w52 w.heap.size (fun k_ => some k_ ≠ (v182 : Value).ownBlock ∧ some k_ ≠ (.slice Ao43 x3_1.length co43 : Value).ownBlock) v179 y178) := ⟨h0_⟩; replace HO183 : Aside0 (Kd.R (Kd.int .i64) 2 w52 w.heap.size (fun k_ => some k_ ≠ (v179 : Value).ownBlock ∧ some k_ ≠ (.slice Ao43 x3_1.length co43 : Value).ownBlock) v182 y181) := ⟨h1_⟩; replace HO_3 : Aside0 (Kd.R (Kd.int .i64) 2 w52 w.heap.size (fun k_ => some k_ ≠ (v179 : Value).ownBlock ∧ some k_ ≠ (v182 : Value).ownBlock) (.slice Ao43 x3_1.length co43) x3_1) := ⟨h2_⟩; replace HR177 : Aside0 (Kd.C (Kd.int .i64) w52 Ao43 y174.length y174) := ⟨h3_⟩; replace HR190 : Aside0 (Kd.C (Kd.int .i64) w52 A46 y187.length y187) := ⟨h4_⟩; replace HB : Aside0 (Below w.heap.size w w52) := ⟨h5_⟩; clear h0_ h1_ h2_ h3_ h4_ h5_; have hHeld := trivial; obtain ⟨Ao54, co54, eo54⟩ := Kd.R_slice HO183.out
            (first | subst eo54 | (injection eo54 with f1_ f2_ f3_; have f4_ := f1_.symm; have f5_ := f3_.symm; clear f1_ f2_ f3_; subst f4_; subst f5_))
            refine normP ?_; refine one_ (i := 7) (N := some 40) (bT 13 11) rfl rfl (one_of HT_.out Zi) (by decide) (fun K hK => ?_); refine Kd.R_append_rows_step (Kd.int .i64) (w0 := w) w.heap.size (by rfl) (.tmp 37) (.tmp 39) 28 2 (.int .i64 0) 8 rfl Try.underlying28 info2 rfl (by decide) (by omega) v179 y178 y181 _ _ _ (fun k_ => some k_ ≠ (.slice Ao43 x3_1.length co43 : Value).ownBlock ∧ some k_ ≠ (.slice Ao54 y181.length co54 : Value).ownBlock) (fun _ => False) rfl rfl ?aO ?aR (fun _ _ h => h) (fun _ h => h.elim) ?aF ?aB ?aS ?aL ?_
            (case aR => repeat (first | exact (Kd.R_reads' HO183.out).2.2 | (with_reducible refine Kd.C_alloc ?_ _) | (with_reducible refine Kd.C_drewN ?_ _) | (with_reducible refine Kd.C_drew ?_)))
            (case aB => exact Zd)
            (case aF => exact (fun k_ hk => ⟨Kd.fresh' (Kd.R_lt (Zo HO_3)) k_ hk, Kd.fresh' (Kd.R_lt (Zo HO183)) k_ hk⟩))
            (case aO => exact (Zak HO180))
            (case aS => exact (below_size Zd))
            (case aL => have := LMc38.out; omega)
            intro v185 w53 ho hb hg hat; rw [← Ny184.out] at ho; replace HO183 := am_ (Kd.R_after (ok := (fun k_ => some k_ ≠ (.slice Ao43 x3_1.length co43 : Value).ownBlock)) (Zak HO183) hg hat); replace HB := am_ (hb); replace HR177 := am_ ((show Kd.C (Kd.int .i64) w53 Ao43 y174.length y174 from (by rw [Ny174.out]; exact Kd.C_take (m := (x5_2 : Int).toNat) ((Kd.R_reads' (Kd.R_after (ok := (fun k_ => some k_ ≠ (.slice Ao54 y181.length co54 : Value).ownBlock)) (Zak HO_3) hg hat)).2.2) KL45.out))); replace HR190 := am_ ((show Kd.C (Kd.int .i64) w53 A46 y187.length y187 from (by rw [Ny187.out, KA46.out]; exact Kd.C_drop (m := (x5_2 : Int).toNat) (c := co43) ((Kd.R_reads' (Kd.R_after (ok := (fun k_ => some k_ ≠ (.slice Ao54 y181.length co54 : Value).ownBlock)) (Zak HO_3) hg hat)).2.2) KL46.out ((Kd.R_reads' (Kd.R_after (ok := (fun k_ => some k_ ≠ (.slice Ao54 y181.length co54 : Value).ownBlock)) (Zak HO_3) hg hat)).2.1)))); replace HO_3 := am_ (Kd.R_after (ok := (fun k_ => some k_ ≠ (.slice Ao54 y181.length co54 : Value).ownBlock)) (Zak HO_3) hg hat); replace HO186 := am_ (ho); clear HO180; clear ho hb hg hat; refine hK.out _ _ trivial (fun hHeld => ?_); clear hK K; refine normZ 40 ?_; refine one_ (i := 11) (N := some 44) (bT 13 12) rfl rfl (one_of HT_.out Zi) (by decide) (fun K hK => ?_); refine Kd.R_append_rows_step (Kd.int .i64) (w0 := w) w.heap.size (by rfl) (.tmp 40) (.tmp 43) 28 2 (.int .i64 0) 8 rfl Try.underlying28 info2 rfl (by decide) (by omega) v185 y184 y187 _ _ _ (fun k_ => some k_ ≠ (.slice Ao43 x3_1.length co43 : Value).ownBlock ∧ some k_ ≠ (.slice Ao54 y181.length co54 : Value).ownBlock) (fun _ => False) rfl rfl ?aO ?aR (fun _ _ h => h) (fun _ h => h.elim) ?aF ?aB ?aS ?aL ?_
            (case aR => repeat (first | exact (Zai HR190) | (with_reducible refine Kd.C_alloc ?_ _) | (with_reducible refine Kd.C_drewN ?_ _) | (with_reducible refine Kd.C_drew ?_)))
            (case aB => exact Zd)
            (case aF => exact (fun k_ hk => ⟨Kd.fresh' (Kd.R_lt (Zo HO_3)) k_ hk, Kd.fresh' (Kd.R_lt (Zo HO183)) k_ hk⟩))
            (case aO => exact (Zo HO186))
            (case aS => exact (below_size Zd))
            (case aL => have := LMc41.out; omega)
            intro v192 w55 ho hb hg hat; rw [← Ny191.out] at ho; replace HO183 := am_ (Kd.R_after (ok := (fun k_ => some k_ ≠ (.slice Ao43 x3_1.length co43 : Value).ownBlock)) (Zo HO183) hg hat); replace HB := am_ (hb); replace HR177 := am_ ((show Kd.C (Kd.int .i64) w55 Ao43 y174.length y174 from (by rw [Ny174.out]; exact Kd.C_take (m := (x5_2 : Int).toNat) ((Kd.R_reads' (Kd.R_after (ok := (fun k_ => some k_ ≠ (.slice Ao54 y181.length co54 : Value).ownBlock)) (Zo HO_3) hg hat)).2.2) KL45.out))); replace HR190 := am_ ((show Kd.C (Kd.int .i64) w55 A46 y187.length y187 from (by rw [Ny187.out, KA46.out]; exact Kd.C_drop (m := (x5_2 : Int).toNat) (c := co43) ((Kd.R_reads' (Kd.R_after (ok := (fun k_ => some k_ ≠ (.slice Ao54 y181.length co54 : Value).ownBlock)) (Zo HO_3) hg hat)).2.2) KL46.out ((Kd.R_reads' (Kd.R_after (ok := (fun k_ => some k_ ≠ (.slice Ao54 y181.length co54 : Value).ownBlock)) (Zo HO_3) hg hat)).2.1)))); replace HO_3 := am_ (Kd.R_after (ok := (fun k_ => some k_ ≠ (.slice Ao54 y181.length co54 : Value).ownBlock)) (Zo HO_3) hg hat); replace HO193 := am_ (ho); clear HO186; clear ho hb hg hat; refine hK.out _ _ trivial (fun hHeld => ?_); clear hK K; refine normZ 44 ?_; refine pureZ HT_ 12 (some 3) (bT 13 13) ?_; refine done_ (done_of HT_.out Zi) ?_
            try go_wp2
            go_roundg k2
            case measure => have := HK1.out; have := HK2.out; omega
            case rel => exact ⟨(y191), (wrap64 (x4_1 + 1)), Za, H', ⟨by have := HK1.out; have := HK2.out; omega⟩, ⟨(Zan HO193)⟩, ⟨Zd⟩⟩
           ·rw [if_neg c41] at H
            exact absurd H (by simp)
          ·rw [if_neg c38] at H
           exact absurd H (by simp)
         ·rw [if_neg c37] at H
          exact absurd H (by simp)
        ·rw [if_neg c36] at H
         exact absurd H (by simp)
       ·rw [if_neg c35] at H
        exact absurd H (by simp)
   ·rw [if_neg c4] at H
    have c4b0 := decide_eq_false c4; clear c4; obtain rfl := Option.some.inj H
    go_wp2
    go_ret
    exact ⟨_, Zj, (Zo HO_3), Zd⟩
def spec_l08Times.l0 : Nat → List Int → Int → List (S104) → List (S61) → List (S58) → Option (List Int)
 | 0, _, _, _, _, _ => none
 | k + 1, x3, x4, x195000, x195001, x195002 => if x4 < (x195002.length : Int) then (if 0 ≤ x4 then ((spec_l08Time.f k x195000 x195001 x195002 ((rd_T58 x195002 x4).f0) ((rd_T58 x195002 x4).f1) ((rd_T58 x195002 x4).f2) ((rd_T58 x195002 x4).f3)).bind fun t199 => (if x3.length < 17592186044416 then (spec_l08Times.l0 k (x3 ++ [t199]) (wrap64 (x4 + 1)) x195000 x195001 x195002) else (none))) else (none)) else (some x3)
def spec_l08Times.f (k : Nat) (l0_0 : List (S104)) (l0_1 : List (S61)) (l0_2 : List (S58)) : Option (List Int) := spec_l08Times.l0 k (([] : List Int)) 0 l0_0 l0_1 l0_2
def spec_l08Times.T5 : Bool × List (List Nat × List Nat) := (true, [([], []), ([], []), ([], []), ([2], [2]), ([], []), ([3, 4], [3, 4]), ([5], [5]), ([1, 6], [1, 6]), ([7], [7]), ([0, 8, 7], [0, 8]), ([9, 9, 0, 1, 2, 3, 4, 5, 6, 7, 8, 9], [0, 9])])
def spec_l08Times.B5 : List Nat := [0, 0, 0, 4, 0, 28, 60, 126, 254, 511, 1023]
theorem spec_l08Times.tab5 : rtab .any (opsOf Try.f45 5) = spec_l08Times.T5 := by kernel_rfl
theorem spec_l08Times.bits5 : waitsOk spec_l08Times.T5.2 spec_l08Times.B5 = true := by kernel_rfl
set_option maxHeartbeats 8000000 in
set_option maxRecDepth 100000 in
theorem spec_l08Times.calls (k : Nat) (A0_0 : Option Addr) (c0_0 : Nat) (l0_0 : List (S104)) (A0_1 : Option Addr) (c0_1 : Nat) (l0_1 : List (S61)) (A0_2 : Option Addr) (c0_2 : Nat) (l0_2 : List (S58)) (r : List Int) (w : World) (hr0_0 : Kd.C k104 w A0_0 l0_0.length l0_0) (hc0_0 : l0_0.length ≤ c0_0) (hr0_1 : Kd.C k61 w A0_1 l0_1.length l0_1) (hc0_1 : l0_1.length ≤ c0_1) (hr0_2 : Kd.C k58 w A0_2 l0_2.length l0_2) (hc0_2 : l0_2.length ≤ c0_2) (h : spec_l08Times.f k l0_0 l0_1 l0_2 = some r) :
  Calls Try.prog 45 #[.agg #[.slice A0_0 l0_0.length c0_0, .slice A0_1 l0_1.length c0_1, .slice A0_2 l0_2.length c0_2]] w fun e w' => ∃ v0_ : Value, e = .returned (v0_) ∧ Kd.R (Kd.int .i64) 2 w' w.heap.size (fun _ => True) v0_ r ∧ Below w.heap.size w w' := by
 have hu35 := Try.underlying35; have hu58 := Try.underlying58; have HR0_0 := am_ hr0_0; have HC0_0 := am_ hc0_0; clear hr0_0 hc0_0; have HR0_1 := am_ hr0_1; have HC0_1 := am_ hc0_1; clear hr0_1 hc0_1; have HR0_2 := am_ hr0_2; have HC0_2 := am_ hc0_2; clear hr0_2 hc0_2; have HB := am_ (Below.refl w.heap.size w); have H : (spec_l08Times.l0 k (([] : List Int)) 0 l0_0 l0_1 l0_2) = some r := h; clear h; obtain ⟨y195, hy195⟩ : ∃ y_ : List Int, y_ = (([] : List Int)) := ⟨_, rfl⟩
 replace H : (spec_l08Times.l0 k y195 0 l0_0 l0_1 l0_2) = some r := by (try rw [hy195]); first | with_reducible exact H | with_reducible exact (Option.bind_some _ _).symm.trans H | exact H
 have Ny195 := am_ hy195; clear hy195; have H' := am_ H; clear H
 go_enter Try.func45, Try.ntmps45
 go_wp2_with (first | ((with_reducible refine gate_dst (N := 1) rfl ?_); refine boxZ 1 #[.slice A0_0 l0_0.length c0_0, .slice A0_1 l0_1.length c0_1, .slice A0_2 l0_2.length c0_2] 35 ?_; intro gb194 hg w2 hbox hb; replace BK194 := am_ (hbox); replace GW194 := am_ ((Zc : w.heap.size ≤ gb194)); replace GE194 := GW194; replace HB := (bsZ Zd hb); clear hb hbox hg) | ((with_reducible refine gate_dst (N := 5) rfl ?_); refine Kd.R_lit (Kd.int .i64) _ 2 ?hg (N := 5) ?hd (xs := ([] : List Int)) (inner := []) (ok := fun _ => True) (okp := fun _ => True) ?hr ?hp (fun _ hk => hk) trivial (Below.refl _ _) (Nat.le_refl _) (by simp) ?_; (case hd => rfl); (case hg => rfl); (case hr => first | (go_simp; done) | (go_simp; rfl)); (case hp => exact (Reps.none _ _)); intro v196 w3 ho4 hb hg_ hnew_; clear hg_ hnew_; (first | rw [← Ny195.out] at ho4 | (simp only [Int.reduceToNat] at ho4; rw [← Ny195.out] at ho4)); replace HO197 := am_ (Kd.R_lower ho4 (below_size (Zf GE194))); replace BK194 := (bkZ BK194 hb); replace HB := (bsZ (Zf GE194) hb); clear hb ho4))
 go_loopg [3, 4] k (fun kq v3 v4 w' => ∃ (x3_1 : List Int) (x4_1 : Int), v4 = .int .i64 x4_1 ∧ Aside0 (spec_l08Times.l0 kq x3_1 x4_1 l0_0 l0_1 l0_2 = some r) ∧ Aside0 (kq ≤ k) ∧ Aside0 (Kd.R (Kd.int .i64) 2 w' w.heap.size (fun _ => True) v3 x3_1) ∧ Aside0 (w'.heap[gb194]? = some (.cells #[(.slice A0_0 l0_0.length c0_0), (.slice A0_1 l0_1.length c0_1), (.slice A0_2 l0_2.length c0_2)] 35 (0, 0))) ∧ Aside0 (Below w.heap.size w w'))
 case atStart => exact ⟨(y195), (0), Za, H', ⟨Nat.le_refl _⟩, ⟨(Zo HO197)⟩, ⟨(Zah BK194)⟩, ⟨(Zf GE194)⟩⟩
 case round =>
  clear H'
  try clear p2
  try clear c4
  obtain ⟨x3_1, x4_1, rfl, HA, HK1, HO_3, BK194, HB⟩ := hrel
  cases gk with
  | zero => exact absurd HA.out (by simp [spec_l08Times.l0])
  | succ k1 =>
   have H := HA.out; clear HA; simp only [spec_l08Times.l0] at H
   by_cases c5 : x4_1 < (l0_2.length : Int)
   ·rw [if_pos c5] at H
    have c5b0 := decide_eq_true c5; clear c5
    by_cases c6 : 0 ≤ x4_1
    ·rw [if_pos c6] at H
     have c6b0 := decide_eq_true c6; clear c6; replace H := Option.bind_eq_some_iff.mp H; obtain ⟨t199, A70, H⟩ := H; have A7 := am_ A70; clear A70
     by_cases c8 : x3_1.length < 17592186044416
     ·rw [if_pos c8] at H
      have LMc8 := am_ c8; clear c8; obtain ⟨y200, hy200⟩ : ∃ y_ : List Int, y_ = (x3_1 ++ [t199]) := ⟨_, rfl⟩
      (first | (rw [← hy200] at H; with_reducible replace H := bindZ H) | rw [← hy200] at H | skip)
      have Ny200 := am_ hy200; clear hy200; have H' := am_ H; clear H; refine ci3 BK194 ?_; intros
      try go_wp2
      replace HO_3 := am_ (Kd.R_drew HO_3.out); replace BK194 := am_ (blk_drew BK194.out); replace HB := am_ (below_drew1 HB.out); have p198 : 0 ≤ (x4_1 : Int) := of_decide_eq_true Zn; have q198 : x4_1 < (l0_2.length : Int) := of_decide_eq_true Zn; obtain ⟨ad198, e198, hx198_0, hx198_1, hx198_2, hx198_3⟩ := at_T58 HR0_2.out x4_1 p198 q198; have hw198_3 := hx198_3; have hw198_2 := hx198_2; have hw198_1 := hx198_1; have hw198_0 := hx198_0
      cases e198
      replace hx198_0 := cbH HB hx198_0; replace hx198_1 := cbH HB hx198_1; replace hx198_2 := cbH HB hx198_2; replace hx198_3 := cbH HB hx198_3; replace p198 := eq_true p198; replace q198 := eq_true q198; refine start_ (n := 11) (S := fun w' => w'.cell? ⟨gb194, 0, none⟩ = some (.slice A0_0 l0_0.length c0_0) ∧ w'.cell? ⟨gb194, 1, none⟩ = some (.slice A0_1 l0_1.length c0_1) ∧ w'.cell? ⟨gb194, 2, none⟩ = some (.slice (some ad198) l0_2.length c0_2) ∧ w'.cell? (ad198.add ((x4_1).toNat * 4)) = some (.int .i64 ((rd_T58 l0_2 x4_1).f0)) ∧ w'.cell? ⟨(ad198.add ((x4_1).toNat * 4)).block, (ad198.add ((x4_1).toNat * 4)).off + 1, none⟩ = some (.int .i64 ((rd_T58 l0_2 x4_1).f1)) ∧ w'.cell? ⟨(ad198.add ((x4_1).toNat * 4)).block, (ad198.add ((x4_1).toNat * 4)).off + 2, none⟩ = some (.string ((rd_T58 l0_2 x4_1).f2)) ∧ w'.cell? ⟨(ad198.add ((x4_1).toNat * 4)).block, (ad198.add ((x4_1).toNat * 4)).off + 3, none⟩ = some (.int .i64 ((rd_T58 l0_2 x4_1).f3))) (ds := []) (bT 11 0) Zi rfl rfl ⟨(blk_cell BK194.out 0).trans rfl, (blk_cell BK194.out 1).trans rfl, (blk_cell BK194.out 2).trans rfl, (cbH HB hw198_0 :), (cbH HB hw198_1 :), (cbH HB hw198_2 :), (cbH HB hw198_3 :)⟩ (fun hHeld => ?_); refine with_tabW spec_l08Times.tab5 spec_l08Times.bits5 (fun HT_ HW_ => ?_); generalize wr.drew = w10 at HO_3 BK194 HB hx198_0 hx198_1 hx198_2 hx198_3 hHeld ⊢; refine pureZ HT_ 0 (some 13) (bT 11 1) ?_; refine pureZ HT_ 2 (some 15) (bB 11 5) ?_; refine pureZ HT_ 4 (some 17) (bB 11 21) ?_; refine takeZ7 HT_ HW_ 1 (some 14) (bB 11 23) hHeld ?_; refine takeZ7 HT_ HW_ 3 (some 16) (bT 11 5) hHeld ?_; refine pureZ HT_ 5 (some 18) (bT 11 6) ?_; refine takeZ7 HT_ HW_ 6 (some 19) (bT 11 7) hHeld ?_; refine one_ (i := 7) (N := some 20) (bT 11 8) rfl rfl (one_of HT_.out Zi) (by decide) (fun K hK => ?_); refine goes_ Try.func72 Zi rfl #[.agg #[.slice A0_0 l0_0.length c0_0, .slice A0_1 l0_1.length c0_1, .slice (some ad198) l0_2.length c0_2], .agg #[.int .i64 ((rd_T58 l0_2 x4_1).f0), .int .i64 ((rd_T58 l0_2 x4_1).f1), .string ((rd_T58 l0_2 x4_1).f2), .int .i64 ((rd_T58 l0_2 x4_1).f3)]] (by rfl) rfl rfl Zr ?_
      with_reducible refine (spec_l08Time.calls k1 _ _ l0_0 _ _ l0_1 _ _ l0_2 ((rd_T58 l0_2 x4_1).f0) ((rd_T58 l0_2 x4_1).f1) ((rd_T58 l0_2 x4_1).f2) ((rd_T58 l0_2 x4_1).f3) t199 _ ?side1 ?side2 ?side3 ?side4 ?side5 ?side6 A7.out).mono ?_
      (case side1 => exact (Zz HR0_0))
      (case side2 => exact HC0_0.out)
      (case side3 => exact (Zz HR0_1))
      (case side4 => exact HC0_1.out)
      (case side5 => exact (Zz HR0_2))
      (case side6 => exact HC0_2.out)
      rintro e w11 ⟨rfl, hb⟩; refine ⟨_, rfl, ?_⟩; replace HO_3 := (hbZ HO_3 hb); replace BK194 := (bkZ BK194 hb); replace HB := (bsZ (Zf GE194) hb)
      (try clear hb)
      (try clear hb2)
      (try clear hk)
      (try clear hi)
      refine hK.out _ _ (by exact ⟨(blk_cell BK194.out 0).trans rfl, (blk_cell BK194.out 1).trans rfl, (blk_cell BK194.out 2).trans rfl, (cbH HB hw198_0 :), (cbH HB hw198_1 :), (cbH HB hw198_2 :), (cbH HB hw198_3 :)⟩) (fun hHeld => ?_); clear hK K; refine normZ 20 ?_; refine one_ (i := 8) (N := some 21) (bT 11 9) rfl rfl (one_of HT_.out Zi) (by decide) (fun K hK => ?_); refine value_ (w1 := ?_) (v := ?_) (by rfl) rfl ?_ ?_; rotate_left 2
      ·go_simp
       constructor
       ·rfl
       ·rfl
      refine hK.out _ _ ⟨(blk_cell (blk_alloc BK194.out _) 0).trans rfl, (blk_cell (blk_alloc BK194.out _) 1).trans rfl, (blk_cell (blk_alloc BK194.out _) 2).trans rfl, (World.cell?_alloc_lt _ _ _ (World.block_lt_of_cell? _ _ ((cbH HB hw198_0 :)))).trans ((cbH HB hw198_0 :)), (World.cell?_alloc_lt _ _ _ (World.block_lt_of_cell? _ _ ((cbH HB hw198_1 :)))).trans ((cbH HB hw198_1 :)), (World.cell?_alloc_lt _ _ _ (World.block_lt_of_cell? _ _ ((cbH HB hw198_2 :)))).trans ((cbH HB hw198_2 :)), (World.cell?_alloc_lt _ _ _ (World.block_lt_of_cell? _ _ ((cbH HB hw198_3 :)))).trans ((cbH HB hw198_3 :))⟩ (fun hHeld => ?_); clear hK K; refine normZ 21 ?_; refine one_ (i := 9) (N := some 22) (bT 11 10) rfl rfl (one_of HT_.out Zi) (by decide) (fun K hK => ?_); refine Kd.R_append_step (Kd.int .i64) (w0 := w) w.heap.size (by rfl) (.tmp 13) (.tmp 21) 28 2 (.int .i64 0) 8 rfl Try.underlying28 info2 rfl (by decide) (by omega) u3 x3_1 t199 [.int .i64 t199] (fun _ => True) (fun _ => False) rfl rfl ?aP (fun _ hk => hk.elim) ?aF ?aO ?aB ?aS ?aL ?_
      (case aP => exact rfl)
      (case aB => exact (Zf GE194))
      (case aF => exact (fun _ _ => trivial))
      (case aO => exact (Zo HO_3))
      (case aS => exact (below_size (Zf GE194)))
      (case aL => have := LMc8.out; omega)
      intro v201 w12 ho hb hg hat; rw [← Ny200.out] at ho; replace BK194 := am_ (blk_grown (g := gb194) (b0Z BK194) hg (Kd.R_ne HO_3.out BK194.out (by decide))); replace HB := am_ (hb); replace HO202 := am_ (ho); clear HO_3; clear ho hb hg hat; refine hK.out _ _ (by exact ⟨(blk_cell BK194.out 0).trans rfl, (blk_cell BK194.out 1).trans rfl, (blk_cell BK194.out 2).trans rfl, (cbH HB hw198_0 :), (cbH HB hw198_1 :), (cbH HB hw198_2 :), (cbH HB hw198_3 :)⟩) (fun hHeld => ?_); clear hK K; refine normZ 22 ?_; refine pureZ HT_ 10 (some 3) (bT 11 11) ?_; refine done_ (done_of HT_.out Zi) ?_
      try go_wp2
      go_roundg k1
      case measure => have := HK1.out; omega
      case rel => exact ⟨(y200), (wrap64 (x4_1 + 1)), Za, H', ⟨Zs⟩, ⟨(Zo HO202)⟩, ⟨(Zah BK194)⟩, ⟨(Zf GE194)⟩⟩
     ·rw [if_neg c8] at H
      exact absurd H (by simp)
    ·rw [if_neg c6] at H
     exact absurd H (by simp)
   ·rw [if_neg c5] at H
    have c5b0 := decide_eq_false c5; clear c5; obtain rfl := Option.some.inj H; refine ci3 BK194 ?_; intros
    go_wp2
    go_ret
    exact ⟨_, Zj, (Zo HO_3), (Zf GE194)⟩
def spec_FireOrder.f (k : Nat) (l0_0 : List (S104)) (l0_1 : List (S61)) (l0_2 : List (S58)) : Option (List Int × Int) := (spec_IsShow.f k l0_0 l0_1 l0_2).bind fun t204 => (if t204 = true then ((spec_l08Times.f k l0_0 l0_1 l0_2).bind fun t205 => ((spec_l08Order.f k t205).bind fun t208 => (some (t208, 0)))) else (some (([] : List Int), 1)))
set_option maxHeartbeats 8000000 in
set_option maxRecDepth 100000 in
theorem spec_FireOrder.calls (k : Nat) (A0_0 : Option Addr) (c0_0 : Nat) (l0_0 : List (S104)) (A0_1 : Option Addr) (c0_1 : Nat) (l0_1 : List (S61)) (A0_2 : Option Addr) (c0_2 : Nat) (l0_2 : List (S58)) (r1 : List Int) (r2 : Int) (w : World) (hr0_0 : Kd.C k104 w A0_0 l0_0.length l0_0) (hc0_0 : l0_0.length ≤ c0_0) (hr0_1 : Kd.C k61 w A0_1 l0_1.length l0_1) (hc0_1 : l0_1.length ≤ c0_1) (hr0_2 : Kd.C k58 w A0_2 l0_2.length l0_2) (hc0_2 : l0_2.length ≤ c0_2) (h : spec_FireOrder.f k l0_0 l0_1 l0_2 = some (r1, r2)) :
  Calls Try.prog 8 #[.agg #[.slice A0_0 l0_0.length c0_0, .slice A0_1 l0_1.length c0_1, .slice A0_2 l0_2.length c0_2]] w fun e w' => ∃ v0_ : Value, e = .returned (.tuple #[v0_, .int .i64 r2]) ∧ Kd.R (Kd.int .i64) 2 w' w.heap.size (fun _ => True) v0_ r1 ∧ Below w.heap.size w w' := by
 have hu35 := Try.underlying35; have HR0_0 := am_ hr0_0; have HC0_0 := am_ hc0_0; clear hr0_0 hc0_0; have HR0_1 := am_ hr0_1; have HC0_1 := am_ hc0_1; clear hr0_1 hc0_1; have HR0_2 := am_ hr0_2; have HC0_2 := am_ hc0_2; clear hr0_2 hc0_2; have HB := am_ (Below.refl w.heap.size w); have H : ((spec_IsShow.f k l0_0 l0_1 l0_2).bind fun t204 => (if t204 = true then ((spec_l08Times.f k l0_0 l0_1 l0_2).bind fun t205 => ((spec_l08Order.f k t205).bind fun t208 => (some (t208, 0)))) else (some (([] : List Int), 1)))) = some (r1, r2) := h; clear h; replace H := Option.bind_eq_some_iff.mp H; obtain ⟨t204, A20, H⟩ := H; have A2 := am_ A20; clear A20; have HS_ := am_ H; clear H
 go_enter Try.func8, Try.ntmps8
 go_wp2_with (first | ((with_reducible refine gate_dst (N := 1) rfl ?_); refine boxZ 1 #[.slice A0_0 l0_0.length c0_0, .slice A0_1 l0_1.length c0_1, .slice A0_2 l0_2.length c0_2] 35 ?_; intro gb203 hg w6 hbox hb; replace BK203 := am_ (hbox); replace GW203 := am_ ((Zc : w.heap.size ≤ gb203)); replace GE203 := GW203; replace HB := (bsZ Zd hb); clear hb hbox hg; refine ci3 BK203 ?_; intros) | ((with_reducible refine gate_callee (f := 43) rfl ?_); refine gZ 5 Try.func43 #[.agg #[.slice A0_0 l0_0.length c0_0, .slice A0_1 l0_1.length c0_1, .slice A0_2 l0_2.length c0_2]] ?_; (with_reducible refine (spec_IsShow.calls k _ _ l0_0 _ _ l0_1 _ _ l0_2 t204 _ ?_ ?_ ?_ ?_ ?_ ?_ A2.out).mono ?_); exact (Zz HR0_0); exact HC0_0.out; exact (Zz HR0_1); exact HC0_1.out; exact (Zz HR0_2); exact HC0_2.out; rintro e w8 ⟨rfl, hb⟩; refine ⟨_, rfl, ?_⟩; replace BK203 := (bkZ BK203 hb); replace HB := (bsZ (Zf GE203) hb); clear hb; refine ?roundEnd))
 case roundEnd =>
  by_cases c3 : t204 = true
  ·have H := HS_.out
   clear HS_; subst c3; rw [if_pos rfl] at H; replace H := Option.bind_eq_some_iff.mp H; obtain ⟨t205, A40, H⟩ := H; have A4 := am_ A40; clear A40; replace H := Option.bind_eq_some_iff.mp H; obtain ⟨t208, A50, H⟩ := H; have A5 := am_ A50; clear A50; simp only [Option.some.injEq, Prod.mk.injEq] at H; obtain ⟨rfl, rfl⟩ := H; refine ci3 BK203 ?_; intros
   go_wp2_with (first | ((with_reducible refine gate_callee (f := 45) rfl ?_); refine gZ 8 Try.func45 #[.agg #[.slice A0_0 l0_0.length c0_0, .slice A0_1 l0_1.length c0_1, .slice A0_2 l0_2.length c0_2]] ?_; (with_reducible refine (spec_l08Times.calls k _ _ l0_0 _ _ l0_1 _ _ l0_2 t205 _ ?_ ?_ ?_ ?_ ?_ ?_ A4.out).mono ?_); exact (Zz HR0_0); exact HC0_0.out; exact (Zz HR0_1); exact HC0_1.out; exact (Zz HR0_2); exact HC0_2.out; rintro e w10 ⟨v206, rfl, ho0, hb⟩; refine ⟨_, rfl, ?_⟩; replace HO207 := am_ (Kd.R_lower ho0 (below_size (Zf GE203))); replace BK203 := (bkZ BK203 hb); replace HB := (bsZ (Zf GE203) hb); clear hb ho0; obtain ⟨Ao11, co11, eo11⟩ := Kd.R_slice HO207.out; subst eo11) | ((with_reducible refine gate_callee (f := 44) rfl ?_); refine gZ 9 Try.func44 #[.slice Ao11 t205.length co11] ?_; (with_reducible refine (spec_l08Order.calls k _ _ t205 t208 _ ?_ ?_ A5.out).mono ?_); exact (by repeat (first | exact (Kd.R_reads' HO207.out).2.2 | (with_reducible refine Kd.C_alloc ?_ _) | (with_reducible refine Kd.C_drewN ?_ _) | (with_reducible refine Kd.C_drew ?_))); exact (Kd.R_reads' HO207.out).2.1; rintro e w12 ⟨v209, rfl, ho0, hb⟩; refine ⟨_, rfl, ?_⟩; replace HO210 := am_ (Kd.R_lower (Kd.R_new' ho0 (Kd.R_lt (Zo HO207))) (below_size (Zf GE203))); replace HO207 := am_ (Kd.R_elder' (Zo HO207) (Kd.R_base ho0) hb); replace BK203 := (bkZ BK203 hb); replace HB := (bsZ (Zf GE203) hb); clear hb ho0))
   go_ret2
   exact ⟨_, Zj, (Zan HO210), (Zf GE203)⟩
  ·have H := HS_.out
   clear HS_; replace c3 := Bool.eq_false_iff.mpr c3; subst c3; rw [if_neg (show ¬ (false = true) by decide)] at H; simp only [Option.some.injEq, Prod.mk.injEq] at H; obtain ⟨rfl, rfl⟩ := H
   go_wp2_with (first | fail)
   go_ret2
   exact ⟨_, Zj, Zm, (Zf GE203)⟩
def impl_within.f (a0 : Int) (a1 : Int) (a2 : Int) : Option (Bool) := if a1 ≤ a0 then (some (decide (a0 ≤ a2))) else (some false)
set_option maxHeartbeats 8000000 in
set_option maxRecDepth 100000 in
theorem impl_within.calls (a0 : Int) (a1 : Int) (a2 : Int) (r : Bool) (w : World) (h : impl_within.f a0 a1 a2 = some r) :
  Calls Try.prog 58 #[.int .i64 a0, .int .i64 a1, .int .i64 a2] w fun e w' => e = .returned (.bool r) ∧ Drawn0 w w' := by
 have H : (if a1 ≤ a0 then (some (decide (a0 ≤ a2))) else (some false)) = some r := h; clear h
 by_cases c4 : a1 ≤ a0
 ·rw [if_pos c4] at H
  have c4b0 := decide_eq_true c4; clear c4; obtain rfl := Option.some.inj H
  go_enter Try.func58, Try.ntmps58
  go_wp2
  go_ret
  exact ⟨Za, Zb⟩
 ·rw [if_neg c4] at H
  have c4b0 := decide_eq_false c4; clear c4; obtain rfl := Option.some.inj H
  go_enter Try.func58, Try.ntmps58
  go_wp2
  go_ret
  exact ⟨Za, Zb⟩
def impl_isIndex.f (a0 : Int) (a1 : Int) : Option (Bool) := (impl_within.f a0 0 (wrap64 (a1 - 1))).bind fun t211 => (some t211)
set_option maxHeartbeats 8000000 in
set_option maxRecDepth 100000 in
theorem impl_isIndex.calls (a0 : Int) (a1 : Int) (r : Bool) (w : World) (h : impl_isIndex.f a0 a1 = some r) :
  Calls Try.prog 102 #[.int .i64 a0, .int .i64 a1] w fun e w' => e = .returned (.bool r) ∧ Drawn0 w w' := by
 have H : ((impl_within.f a0 0 (wrap64 (a1 - 1))).bind fun t211 => (some t211)) = some r := h; clear h; replace H := Option.bind_eq_some_iff.mp H; obtain ⟨t211, A30, H⟩ := H; have A3 := am_ A30; clear A30; obtain rfl := Option.some.inj H
 go_enter Try.func102, Try.ntmps102
 go_wp2_with (first | ((with_reducible refine gate_callee (f := 58) rfl ?_); refine gZ 8 Try.func58 #[.int .i64 a0, .int .i64 0, .int .i64 (wrap64 (a1 - 1))] ?_; (with_reducible refine (impl_within.calls a0 0 (wrap64 (a1 - 1)) t211 _ A3.out).mono ?_); rintro e w' ⟨rfl, ⟨nd, rfl⟩⟩; refine ⟨_, rfl, ?_⟩))
 go_ret
 exact ⟨Za, Zb⟩
def impl_isBeat.f (l0 : List (S104)) (a1 : Int) (a2 : Int) : Option (Bool) := (impl_isIndex.f a1 (l0.length : Int)).bind fun t212 => (if t212 = true then (if 0 ≤ a1 then (if a1 < (l0.length : Int) then ((impl_within.f a2 0 (wrap64 (((rd_T104 l0 a1).f0) - 1))).bind fun t214 => (some t214)) else (none)) else (none)) else (some false))
set_option maxHeartbeats 8000000 in
set_option maxRecDepth 100000 in
theorem impl_isBeat.calls (A0 : Option Addr) (c0 : Nat) (l0 : List (S104)) (a1 : Int) (a2 : Int) (r : Bool) (w : World) (hr0 : Kd.C k104 w A0 l0.length l0) (hc0 : l0.length ≤ c0) (h : impl_isBeat.f l0 a1 a2 = some r) :
  Calls Try.prog 75 #[.slice A0 l0.length c0, .int .i64 a1, .int .i64 a2] w fun e w' => e = .returned (.bool r) ∧ Drawn0 w w' := by
 have HR0 := am_ hr0; have HC0 := am_ hc0; clear hr0 hc0; have H : ((impl_isIndex.f a1 (l0.length : Int)).bind fun t212 => (if t212 = true then (if 0 ≤ a1 then (if a1 < (l0.length : Int) then ((impl_within.f a2 0 (wrap64 (((rd_T104 l0 a1).f0) - 1))).bind fun t214 => (some t214)) else (none)) else (none)) else (some false))) = some r := h; clear h; replace H := Option.bind_eq_some_iff.mp H; obtain ⟨t212, A40, H⟩ := H; have A4 := am_ A40; clear A40; have HS_ := am_ H; clear H
 go_enter Try.func75, Try.ntmps75
 go_wp2_with (first | ((with_reducible refine gate_callee (f := 102) rfl ?_); refine gZ 10 Try.func102 #[.int .i64 a1, .int .i64 (l0.length : Int)] ?_; (with_reducible refine (impl_isIndex.calls a1 (l0.length : Int) t212 _ A4.out).mono ?_); rintro e w' ⟨rfl, ⟨nd, rfl⟩⟩; refine ⟨_, rfl, ?_⟩; refine ?roundEnd))
 case roundEnd =>
  by_cases c5 : t212 = true
  ·have H := HS_.out
   clear HS_; subst c5; rw [if_pos rfl] at H
   by_cases c6 : 0 ≤ a1
   ·rw [if_pos c6] at H
    have c6b0 := decide_eq_true c6; clear c6
    by_cases c7 : a1 < (l0.length : Int)
    ·rw [if_pos c7] at H
     have c7b0 := decide_eq_true c7; clear c7; replace H := Option.bind_eq_some_iff.mp H; obtain ⟨t214, A80, H⟩ := H; have A8 := am_ A80; clear A80; obtain rfl := Option.some.inj H; have p213 : 0 ≤ (a1 : Int) := of_decide_eq_true Zn; have q213 : a1 < (l0.length : Int) := of_decide_eq_true Zn; obtain ⟨ad213, e213, hx213_0, hx213_1⟩ := at_T104 HR0.out a1 p213 q213
     cases e213
     replace p213 := eq_true p213; replace q213 := eq_true q213
     go_wp2_with (first | (go_at_call 58; (with_reducible refine (impl_within.calls a2 0 (wrap64 (((rd_T104 l0 a1).f0) - 1)) t214 _ A8.out).mono ?_); rintro e w' ⟨rfl, ⟨nd, rfl⟩⟩))
     go_ret
     exact ⟨Za, Zb⟩
    ·rw [if_neg c7] at H
     exact absurd H (by simp)
   ·rw [if_neg c6] at H
    exact absurd H (by simp)
  ·have H := HS_.out
   clear HS_; replace c5 := Bool.eq_false_iff.mpr c5; subst c5; rw [if_neg (show ¬ (false = true) by decide)] at H; obtain rfl := Option.some.inj H
   go_wp2_with (first | fail)
   go_ret
   exact ⟨Za, Zb⟩
def impl_beatTime.l0 : Nat → List (S104) → Int → Int → Int → List (S104) → Int → Int → Option (Int)
 | 0, _, _, _, _, _, _, _ => none
 | k + 1, x0, x1, x2, x7, x12, x13, x14 => if x14 < x13 then (if 0 ≤ x14 then (if x14 < (x12.length : Int) then (impl_beatTime.l0 k x0 x1 x2 (wrap64 (x7 + (wrap64 (((rd_T104 x12 x14).f0) * ((rd_T104 x12 x14).f1))))) x12 x13 (wrap64 (x14 + 1))) else (none)) else (none)) else (if x2 > 0 then (if 0 ≤ x1 then (if x1 < (x0.length : Int) then (some (wrap64 (x7 + (wrap64 (x2 * ((rd_T104 x0 x1).f1)))))) else (none)) else (none)) else (some x7))
def impl_beatTime.f (k : Nat) (l0 : List (S104)) (a1 : Int) (a2 : Int) : Option (Int) := if 0 ≤ a1 then (if a1 ≤ (l0.length : Int) then ((some (l0.take (a1 : Int).toNat : List (S104))).bind fun y215 => (impl_beatTime.l0 k l0 a1 a2 0 y215 (y215.length : Int) 0)) else (none)) else (none)
set_option maxHeartbeats 8000000 in
set_option maxRecDepth 100000 in
theorem impl_beatTime.calls (k : Nat) (A0 : Option Addr) (c0 : Nat) (l0 : List (S104)) (a1 : Int) (a2 : Int) (r : Int) (w : World) (hr0 : Kd.C k104 w A0 l0.length l0) (hc0 : l0.length ≤ c0) (h : impl_beatTime.f k l0 a1 a2 = some r) :
  Calls Try.prog 76 #[.slice A0 l0.length c0, .int .i64 a1, .int .i64 a2] w fun e w' => e = .returned (.int .i64 r) ∧ Below w.heap.size w w' := by
 have hu104 := Try.underlying104; have HR0 := am_ hr0; have HC0 := am_ hc0; clear hr0 hc0; have HB := am_ (Below.refl w.heap.size w); have H : (if 0 ≤ a1 then (if a1 ≤ (l0.length : Int) then ((some (l0.take (a1 : Int).toNat : List (S104))).bind fun y215 => (impl_beatTime.l0 k l0 a1 a2 0 y215 (y215.length : Int) 0)) else (none)) else (none)) = some r := h; clear h
 by_cases c4 : 0 ≤ a1
 ·rw [if_pos c4] at H
  have c4b0 := eq_true c4; have c4b1 := decide_eq_true c4; clear c4
  by_cases c5 : a1 ≤ (l0.length : Int)
  ·rw [if_pos c5] at H
   have c5b0 := eq_true c5; have c5b1 := decide_eq_true c5; clear c5; obtain ⟨y215, hy215⟩ : ∃ y_ : List (S104), y_ = (l0.take (a1 : Int).toNat) := ⟨_, rfl⟩
   (first | (rw [← hy215] at H; with_reducible replace H := bindZ H) | rw [← hy215] at H | skip)
   have Ny215 := am_ hy215; clear hy215; have H' := am_ H; clear H; have q6 : (a1 : Int) ≤ ((l0.length : Int) : Int) := of_decide_eq_true Zn; obtain ⟨i06, hi06, _, hsz6, _⟩ := info_parts info104; have hroom6 : l0.length ≤ c0 := HC0.out; have hC6 : Kd.C k104 _ A0 l0.length l0 := HR0.out; have hcut6 := cut_to (P := Try.prog) 31 104 .i64 Try.underlying31 hi06 A0 l0.length c0 a1 (of_decide_eq_true Zn) q6 hroom6; have hr6 := Kd.C_take (m := (a1 : Int).toNat) hC6 (by omega); have hy6 : y215.length = (a1 : Int).toNat := (by rw [Ny215.out, List.length_take]; omega); rw [← Ny215.out] at hr6; rw [← hy6] at hcut6; have HR218 := am_ hr6; have HC218 := am_ (show y215.length ≤ c0 from (by omega)); clear hr6 hC6 hroom6 hi06 hsz6; have KY6 := am_ hy6; clear hy6; replace q6 := eq_true q6
   go_enter Try.func76, Try.ntmps76
   go_wp2
   go_loopg [7, 14] k (fun kq v7 v14 w' => ∃ (x7_1 : Int) (x14_1 : Int), v7 = .int .i64 x7_1 ∧ v14 = .int .i64 x14_1 ∧ Aside0 (impl_beatTime.l0 kq l0 a1 a2 x7_1 y215 (y215.length : Int) x14_1 = some r) ∧ Aside0 (kq ≤ k) ∧ Aside0 (Below w.heap.size w w'))
   case atStart => exact ⟨(0), (0), Za, Za, H', ⟨Nat.le_refl _⟩, ⟨Zd⟩⟩
   case round =>
    clear H'
    try clear p2
    try clear c4
    try clear c4b0
    try clear c4b1
    try clear c5
    try clear c5b0
    try clear c5b1
    try clear q6
    try clear q6
    obtain ⟨x7_1, x14_1, rfl, rfl, HA, HK1, HB⟩ := hrel
    cases gk with
    | zero => exact absurd HA.out (by simp [impl_beatTime.l0])
    | succ k1 =>
     have H := HA.out; clear HA; simp only [impl_beatTime.l0] at H
     by_cases c7 : x14_1 < (y215.length : Int)
     ·rw [if_pos c7] at H
      have c7b0 := decide_eq_true c7; clear c7
      by_cases c8 : 0 ≤ x14_1
      ·rw [if_pos c8] at H
       have c8b0 := decide_eq_true c8; clear c8
       by_cases c9 : x14_1 < (y215.length : Int)
       ·rw [if_pos c9] at H
        have c9b0 := decide_eq_true c9; clear c9; have H' := am_ H; clear H; have p219 : 0 ≤ (x14_1 : Int) := of_decide_eq_true Zn; have q219 : x14_1 < (y215.length : Int) := of_decide_eq_true Zn; obtain ⟨ad219, e219, hx219_0, hx219_1⟩ := at_T104 HR218.out x14_1 p219 q219
        cases e219
        replace hx219_0 := cbH HB hx219_0; replace hx219_1 := cbH HB hx219_1; replace p219 := eq_true p219; replace q219 := eq_true q219
        go_wp2_with (first | ((with_reducible refine gate_dst (N := 9) rfl ?_); refine boxZ 9 #[.int .i64 0, .int .i64 0] 104 ?_; intro gb220 hg w10 hbox hb; replace BK220 := am_ (hbox); replace GW220 := am_ ((Zc : w.heap.size ≤ gb220)); replace GE220 := GW220; replace HB := (bsZ Zd hb); clear hb hbox hg; refine ci2 BK220 ?_; intros))
        go_roundg k1
        case measure => have := HK1.out; omega
        case rel => exact ⟨(wrap64 (x7_1 + (wrap64 (((rd_T104 y215 x14_1).f0) * ((rd_T104 y215 x14_1).f1))))), (wrap64 (x14_1 + 1)), Za, Za, H', ⟨Zs⟩, ⟨(Zf GE220)⟩⟩
       ·rw [if_neg c9] at H
        exact absurd H (by simp)
      ·rw [if_neg c8] at H
       exact absurd H (by simp)
     ·rw [if_neg c7] at H
      have c7b0 := decide_eq_false c7; clear c7
      by_cases c12 : a2 > 0
      ·rw [if_pos c12] at H
       have c12b0 : decide (0 < a2) = true := decide_eq_true c12; clear c12
       by_cases c13 : 0 ≤ a1
       ·rw [if_pos c13] at H
        have c13b0 := decide_eq_true c13; clear c13
        by_cases c14 : a1 < (l0.length : Int)
        ·rw [if_pos c14] at H
         have c14b0 := decide_eq_true c14; clear c14; obtain rfl := Option.some.inj H; have p221 : 0 ≤ (a1 : Int) := of_decide_eq_true Zn; have q221 : a1 < (l0.length : Int) := of_decide_eq_true Zn; obtain ⟨ad221, e221, hx221_0, hx221_1⟩ := at_T104 HR0.out a1 p221 q221
         cases e221
         replace hx221_0 := cbH HB hx221_0; replace hx221_1 := cbH HB hx221_1; replace p221 := eq_true p221; replace q221 := eq_true q221
         go_wp2
         go_ret
         exact ⟨Zj, Zd⟩
        ·rw [if_neg c14] at H
         exact absurd H (by simp)
       ·rw [if_neg c13] at H
        exact absurd H (by simp)
      ·rw [if_neg c12] at H
       have c12b0 : decide (0 < a2) = false := decide_eq_false c12; clear c12; obtain rfl := Option.some.inj H
       go_wp2
       go_ret
       exact ⟨Zj, Zd⟩
  ·rw [if_neg c5] at H
   exact absurd H (by simp)
 ·rw [if_neg c4] at H
  exact absurd H (by simp)
def impl_articleOf.l0 : Nat → ByteArray → List (S61) → Int → Int → Option (Int)
 | 0, _, _, _, _ => none
 | k + 1, x1, x7, x8, x9 => if x9 < x8 then (if 0 ≤ x9 then (if x9 < (x7.length : Int) then (if ((rd_T61 x7 x9).f0).toList = x1.toList then (some x9) else (impl_articleOf.l0 k x1 x7 x8 (wrap64 (x9 + 1)))) else (none)) else (none)) else (some (-1))
def impl_articleOf.f (k : Nat) (l0 : List (S61)) (a1 : ByteArray) : Option (Int) := impl_articleOf.l0 k a1 l0 (l0.length : Int) 0
set_option maxHeartbeats 8000000 in
set_option maxRecDepth 100000 in
theorem impl_articleOf.calls (k : Nat) (A0 : Option Addr) (c0 : Nat) (l0 : List (S61)) (a1 : ByteArray) (r : Int) (w : World) (hr0 : Kd.C k61 w A0 l0.length l0) (hc0 : l0.length ≤ c0) (h : impl_articleOf.f k l0 a1 = some r) :
  Calls Try.prog 77 #[.slice A0 l0.length c0, .string a1] w fun e w' => e = .returned (.int .i64 r) ∧ Below w.heap.size w w' := by
 have hu61 := Try.underlying61; have HR0 := am_ hr0; have HC0 := am_ hc0; clear hr0 hc0; have HB := am_ (Below.refl w.heap.size w); have H : (impl_articleOf.l0 k a1 l0 (l0.length : Int) 0) = some r := h; clear h; have H' := am_ H; clear H
 go_enter Try.func77, Try.ntmps77
 go_wp2
 go_loopg [9] k (fun kq v9 w' => ∃ (x9_1 : Int), v9 = .int .i64 x9_1 ∧ Aside0 (impl_articleOf.l0 kq a1 l0 (l0.length : Int) x9_1 = some r) ∧ Aside0 (kq ≤ k) ∧ Aside0 (Below w.heap.size w w'))
 case atStart => exact ⟨(0), Za, H', ⟨Nat.le_refl _⟩, ⟨Zd⟩⟩
 case round =>
  clear H'
  try clear p2
  obtain ⟨x9_1, rfl, HA, HK1, HB⟩ := hrel
  cases gk with
  | zero => exact absurd HA.out (by simp [impl_articleOf.l0])
  | succ k1 =>
   have H := HA.out; clear HA; simp only [impl_articleOf.l0] at H
   by_cases c3 : x9_1 < (l0.length : Int)
   ·rw [if_pos c3] at H
    have c3b0 := decide_eq_true c3; clear c3
    by_cases c4 : 0 ≤ x9_1
    ·rw [if_pos c4] at H
     have c4b0 := decide_eq_true c4; clear c4
     by_cases c5 : x9_1 < (l0.length : Int)
     ·rw [if_pos c5] at H
      have c5b0 := decide_eq_true c5; clear c5
      by_cases c6 : ((rd_T61 l0 x9_1).f0).toList = a1.toList
      ·rw [if_pos c6] at H
       have c6b0 := beq_iff_eq.mpr c6; have c6b1 := bne_eq_false_iff_eq.mpr c6; clear c6; obtain rfl := Option.some.inj H; have p222 : 0 ≤ (x9_1 : Int) := of_decide_eq_true Zn; have q222 : x9_1 < (l0.length : Int) := of_decide_eq_true Zn; obtain ⟨ad222, e222, hx222_0, hx222_1, hx222_2, hx222_3, hx222_4, hx222_5, hx222_6, hx222_7, hx222_8⟩ := at_T61 HR0.out x9_1 p222 q222
       cases e222
       replace hx222_0 := cbH HB hx222_0; replace hx222_1 := cbH HB hx222_1; replace hx222_2 := cbH HB hx222_2; replace hx222_3 := cbH HB hx222_3; replace hx222_4 := cbH HB hx222_4; replace hx222_5 := cbH HB hx222_5; replace hx222_6 := cbH HB hx222_6; replace hx222_7 := cbH HB hx222_7; replace hx222_8 := cbH HB hx222_8; replace p222 := eq_true p222; replace q222 := eq_true q222
       go_wp2_with (first | ((with_reducible refine gate_dst (N := 6) rfl ?_); refine boxZ 6 #[.string (⟨#[]⟩ : ByteArray), .int .i64 0, .int .i64 0, .int .i64 0, .int .i64 0, .int .i64 0, .int .i64 0, .int .i64 0, .int .i64 0] 61 ?_; intro gb223 hg w7 hbox hb; replace BK223 := am_ (hbox); replace GW223 := am_ ((Zc : w.heap.size ≤ gb223)); replace GE223 := GW223; replace HB := (bsZ Zd hb); clear hb hbox hg; refine ci9 BK223 ?_; intros))
       go_ret
       exact ⟨Zj, (Zf GE223)⟩
      ·rw [if_neg c6] at H
       have c6b0 := beq_eq_false_iff_ne.mpr c6; have c6b1 := bne_iff_ne.mpr c6; have H' := am_ H; clear H; have p222 : 0 ≤ (x9_1 : Int) := of_decide_eq_true Zn; have q222 : x9_1 < (l0.length : Int) := of_decide_eq_true Zn; obtain ⟨ad222, e222, hx222_0, hx222_1, hx222_2, hx222_3, hx222_4, hx222_5, hx222_6, hx222_7, hx222_8⟩ := at_T61 HR0.out x9_1 p222 q222
       cases e222
       replace hx222_0 := cbH HB hx222_0; replace hx222_1 := cbH HB hx222_1; replace hx222_2 := cbH HB hx222_2; replace hx222_3 := cbH HB hx222_3; replace hx222_4 := cbH HB hx222_4; replace hx222_5 := cbH HB hx222_5; replace hx222_6 := cbH HB hx222_6; replace hx222_7 := cbH HB hx222_7; replace hx222_8 := cbH HB hx222_8; replace p222 := eq_true p222; replace q222 := eq_true q222
       go_wp2_with (first | ((with_reducible refine gate_dst (N := 6) rfl ?_); refine boxZ 6 #[.string (⟨#[]⟩ : ByteArray), .int .i64 0, .int .i64 0, .int .i64 0, .int .i64 0, .int .i64 0, .int .i64 0, .int .i64 0, .int .i64 0] 61 ?_; intro gb223 hg w9 hbox hb; replace BK223 := am_ (hbox); replace GW223 := am_ ((Zc : w.heap.size ≤ gb223)); replace GE223 := GW223; replace HB := (bsZ Zd hb); clear hb hbox hg; refine ci9 BK223 ?_; intros))
       go_roundg k1
       case measure => have := HK1.out; omega
       case rel => exact ⟨(wrap64 (x9_1 + 1)), Za, H', ⟨Zs⟩, ⟨(Zf GE223)⟩⟩
     ·rw [if_neg c5] at H
      exact absurd H (by simp)
    ·rw [if_neg c4] at H
     exact absurd H (by simp)
   ·rw [if_neg c3] at H
    have c3b0 := decide_eq_false c3; clear c3; obtain rfl := Option.some.inj H
    go_wp2
    go_ret
    exact ⟨Zj, Zd⟩
def impl_firedAt.f (k : Nat) (l0_0 : List (S104)) (l0_1 : List (S61)) (l0_2 : List (S58)) (a1_0 : Int) (a1_1 : Int) (a1_2 : ByteArray) (a1_3 : Int) : Option (Int) := (impl_articleOf.f k l0_1 a1_2).bind fun t226 => (if t226 < 0 then (some (-1)) else ((impl_isBeat.f l0_0 a1_0 a1_1).bind fun t227 => (if t227 = true then ((impl_beatTime.f k l0_0 a1_0 a1_1).bind fun t228 => (if 0 ≤ t226 then (if t226 < (l0_1.length : Int) then (some (mx (-1) (wrap64 (t228 - ((rd_T61 l0_1 t226).f3))))) else (none)) else (none))) else (some (-1)))))
def impl_firedAt.T4 : Bool × List (List Nat × List Nat) := (true, [([], []), ([0], [0]), ([], []), ([2], [2]), ([], []), ([4], [4]), ([1, 3, 5], [1, 3, 5]), ([], []), ([7], [7]), ([], []), ([8, 9], [8, 9]), ([10], [10]), ([11], [11]), ([6, 12], [6, 12]), ([13], [13]), ([14, 6, 0, 1, 2, 3, 4, 5, 6, 7, 8, 9, 10, 11, 12, 13, 14], [14])])
def impl_firedAt.B4 : List Nat := [0, 1, 0, 4, 0, 16, 63, 0, 128, 0, 896, 1920, 3968, 8191, 16383, 32767]
theorem impl_firedAt.tab4 : rtab .any (opsOf Try.f67 4) = impl_firedAt.T4 := by kernel_rfl
theorem impl_firedAt.bits4 : waitsOk impl_firedAt.T4.2 impl_firedAt.B4 = true := by kernel_rfl
set_option maxHeartbeats 8000000 in
set_option maxRecDepth 100000 in
theorem impl_firedAt.calls (k : Nat) (A0_0 : Option Addr) (c0_0 : Nat) (l0_0 : List (S104)) (A0_1 : Option Addr) (c0_1 : Nat) (l0_1 : List (S61)) (A0_2 : Option Addr) (c0_2 : Nat) (l0_2 : List (S58)) (a1_0 : Int) (a1_1 : Int) (a1_2 : ByteArray) (a1_3 : Int) (r : Int) (w : World) (hr0_0 : Kd.C k104 w A0_0 l0_0.length l0_0) (hc0_0 : l0_0.length ≤ c0_0) (hr0_1 : Kd.C k61 w A0_1 l0_1.length l0_1) (hc0_1 : l0_1.length ≤ c0_1) (hr0_2 : Kd.C k58 w A0_2 l0_2.length l0_2) (hc0_2 : l0_2.length ≤ c0_2) (h : impl_firedAt.f k l0_0 l0_1 l0_2 a1_0 a1_1 a1_2 a1_3 = some r) :
  Calls Try.prog 67 #[.agg #[.slice A0_0 l0_0.length c0_0, .slice A0_1 l0_1.length c0_1, .slice A0_2 l0_2.length c0_2], .agg #[.int .i64 a1_0, .int .i64 a1_1, .string a1_2, .int .i64 a1_3]] w fun e w' => e = .returned (.int .i64 r) ∧ Below w.heap.size w w' := by
 have hu35 := Try.underlying35; have hu58 := Try.underlying58; have HR0_0 := am_ hr0_0; have HC0_0 := am_ hc0_0; clear hr0_0 hc0_0; have HR0_1 := am_ hr0_1; have HC0_1 := am_ hc0_1; clear hr0_1 hc0_1; have HR0_2 := am_ hr0_2; have HC0_2 := am_ hc0_2; clear hr0_2 hc0_2; have HB := am_ (Below.refl w.heap.size w); have H : ((impl_articleOf.f k l0_1 a1_2).bind fun t226 => (if t226 < 0 then (some (-1)) else ((impl_isBeat.f l0_0 a1_0 a1_1).bind fun t227 => (if t227 = true then ((impl_beatTime.f k l0_0 a1_0 a1_1).bind fun t228 => (if 0 ≤ t226 then (if t226 < (l0_1.length : Int) then (some (mx (-1) (wrap64 (t228 - ((rd_T61 l0_1 t226).f3))))) else (none)) else (none))) else (some (-1)))))) = some r := h; clear h; replace H := Option.bind_eq_some_iff.mp H; obtain ⟨t226, A30, H⟩ := H; have A3 := am_ A30; clear A30; have HS_ := am_ H; clear H
 go_enter Try.func67, Try.ntmps67
 go_wp2_with (first | ((with_reducible refine gate_dst (N := 2) rfl ?_); refine boxZ 2 #[.slice A0_0 l0_0.length c0_0, .slice A0_1 l0_1.length c0_1, .slice A0_2 l0_2.length c0_2] 35 ?_; intro gb224 hg w5 hbox hb; replace BK224 := am_ (hbox); replace GW224 := am_ ((Zc : w.heap.size ≤ gb224)); replace GE224 := GW224; replace HB := (bsZ Zd hb); clear hb hbox hg) | ((with_reducible refine gate_dst (N := 3) rfl ?_); refine boxZ 3 #[.int .i64 a1_0, .int .i64 a1_1, .string a1_2, .int .i64 a1_3] 58 ?_; intro gb225 hg w6 hbox hb; replace BK225 := am_ (hbox); replace GW225 := am_ (((Ze GE224) : w.heap.size ≤ gb225)); replace GE225 := GW225; replace HB := (bsZ (Zf GE224) hb); replace NB224_225 := am_ ((by rw [hg]; exact Nat.ne_of_lt (blk_lt (g := gb224) (b0Z BK224)) : gb224 ≠ gb225)); replace NB225_224 := am_ ((by rw [hg]; exact Nat.ne_of_gt (blk_lt (g := gb224) (b0Z BK224)) : gb225 ≠ gb224)); replace BK224 := (bkZ BK224 hb); clear hb hbox hg; have hnb7 := NB224_225.out; have hnc7 := NB225_224.out; refine ci3 BK224 ?_; intros; refine ci4 BK225 ?_; intros) | ((with_reducible refine gate_callee (f := 77) rfl ?_); refine gZ 10 Try.func77 #[.slice A0_1 l0_1.length c0_1, .string a1_2] ?_; (with_reducible refine (impl_articleOf.calls k _ _ l0_1 a1_2 t226 _ ?_ ?_ A3.out).mono ?_); exact (Zz HR0_1); exact HC0_1.out; rintro e w10 ⟨rfl, hb⟩; refine ⟨_, rfl, ?_⟩; replace BK224 := (bkZ BK224 hb); replace BK225 := (bkZ BK225 hb); replace HB := (bsZ (Zh GE224 GE225) hb); clear hb; refine ?roundEnd))
 case roundEnd =>
  by_cases c4 : t226 < 0
  ·have H := HS_.out
   clear HS_; rw [if_pos c4] at H; have c4b0 := decide_eq_true c4; clear c4; obtain rfl := Option.some.inj H
   go_wp2_with (first | fail)
   go_ret
   exact ⟨Zj, (Zh GE224 GE225)⟩
  ·have H := HS_.out
   clear HS_; rw [if_neg c4] at H; have c4b0 := decide_eq_false c4; clear c4; replace H := Option.bind_eq_some_iff.mp H; obtain ⟨t227, A110, H⟩ := H; have A11 := am_ A110; clear A110; have HS_ := am_ H; clear H; refine ci3 BK224 ?_; intros; refine ci4 BK225 ?_; intros
   try go_wp2_with (first | (go_at_call 75; (with_reducible refine (impl_isBeat.calls _ _ l0_0 a1_0 a1_1 t227 _ ?_ ?_ A11.out).mono ?_); exact (Zz HR0_0); exact HC0_0.out; rintro e w' ⟨rfl, ⟨nd, rfl⟩⟩; refine ?roundEnd))
   case roundEnd =>
    by_cases c12 : t227 = true
    ·have H := HS_.out
     clear HS_; subst c12; rw [if_pos rfl] at H; replace H := Option.bind_eq_some_iff.mp H; obtain ⟨t228, A130, H⟩ := H; have A13 := am_ A130; clear A130
     by_cases c14 : 0 ≤ t226
     ·rw [if_pos c14] at H
      have c14b0 := decide_eq_true c14; clear c14
      by_cases c15 : t226 < (l0_1.length : Int)
      ·rw [if_pos c15] at H
       have c15b0 := decide_eq_true c15; clear c15; obtain ⟨ji16, hji16⟩ : ∃ j_ : Int, (mx (-1) (wrap64 (t228 - ((rd_T61 l0_1 t226).f3)))) = j_ := ⟨_, rfl⟩
       replace H : (some ji16) = some r := by first | (rw [hji16] at H; exact H) | (simp only [hji16] at H ⊢; exact H)
       (try rw [hji16] at A3)
       (try rw [hji16] at A11)
       (try rw [hji16] at A13)
       have hji16_ : (if (-1) < (wrap64 (t228 - ((rd_T61 l0_1 t226).f3))) then (wrap64 (t228 - ((rd_T61 l0_1 t226).f3))) else (-1)) = ji16 := hji16; obtain rfl := Option.some.inj H
       try go_wp2_with (first | fail)
       (try (rw [drewN_self w10]; generalize hq_ : World.drewN w10 _ = w10; replace BK224 : Aside0 (w10.heap[gb224]? = some (.cells #[.slice A0_0 l0_0.length c0_0, .slice A0_1 l0_1.length c0_1, .slice A0_2 l0_2.length c0_2] 35 (0, 0))) := ⟨by rw [← hq_]; exact (b0Z BK224)⟩; replace BK225 : Aside0 (w10.heap[gb225]? = some (.cells #[.int .i64 a1_0, .int .i64 a1_1, .string a1_2, .int .i64 a1_3] 58 (0, 0))) := ⟨by rw [← hq_]; exact (b0Z BK225)⟩; replace HB : Aside0 (Below w.heap.size w w10) := ⟨by rw [← hq_]; exact (Zh GE224 GE225)⟩; clear hq_))
       replace BK224 := am_ (blk_drew BK224.out); replace BK225 := am_ (blk_drew BK225.out); replace HB := am_ (below_drew1 HB.out); have p229 : 0 ≤ (t226 : Int) := of_decide_eq_true Zn; have q229 : t226 < (l0_1.length : Int) := of_decide_eq_true Zn; obtain ⟨ad229, e229, hx229_0, hx229_1, hx229_2, hx229_3, hx229_4, hx229_5, hx229_6, hx229_7, hx229_8⟩ := at_T61 HR0_1.out t226 p229 q229; have hw229_8 := hx229_8; have hw229_7 := hx229_7; have hw229_6 := hx229_6; have hw229_5 := hx229_5; have hw229_4 := hx229_4; have hw229_3 := hx229_3; have hw229_2 := hx229_2; have hw229_1 := hx229_1; have hw229_0 := hx229_0
       cases e229
       replace hx229_0 := cbH HB hx229_0; replace hx229_1 := cbH HB hx229_1; replace hx229_2 := cbH HB hx229_2; replace hx229_3 := cbH HB hx229_3; replace hx229_4 := cbH HB hx229_4; replace hx229_5 := cbH HB hx229_5; replace hx229_6 := cbH HB hx229_6; replace hx229_7 := cbH HB hx229_7; replace hx229_8 := cbH HB hx229_8; replace p229 := eq_true p229; replace q229 := eq_true q229; refine start_ (n := 16) (S := fun w' => w'.cell? ⟨gb224, 0, none⟩ = some (.slice A0_0 l0_0.length c0_0) ∧ w'.cell? ⟨gb224, 1, none⟩ = some (.slice (some ad229) l0_1.length c0_1) ∧ w'.cell? ⟨gb224, 2, none⟩ = some (.slice A0_2 l0_2.length c0_2) ∧ w'.cell? ⟨gb225, 0, none⟩ = some (.int .i64 a1_0) ∧ w'.cell? ⟨gb225, 1, none⟩ = some (.int .i64 a1_1) ∧ w'.cell? ⟨gb225, 2, none⟩ = some (.string a1_2) ∧ w'.cell? ⟨gb225, 3, none⟩ = some (.int .i64 a1_3) ∧ w'.cell? (ad229.add ((t226).toNat * 9)) = some (.string ((rd_T61 l0_1 t226).f0)) ∧ w'.cell? ⟨(ad229.add ((t226).toNat * 9)).block, (ad229.add ((t226).toNat * 9)).off + 1, none⟩ = some (.int .i64 ((rd_T61 l0_1 t226).f1)) ∧ w'.cell? ⟨(ad229.add ((t226).toNat * 9)).block, (ad229.add ((t226).toNat * 9)).off + 2, none⟩ = some (.int .i64 ((rd_T61 l0_1 t226).f2)) ∧ w'.cell? ⟨(ad229.add ((t226).toNat * 9)).block, (ad229.add ((t226).toNat * 9)).off + 3, none⟩ = some (.int .i64 ((rd_T61 l0_1 t226).f3)) ∧ w'.cell? ⟨(ad229.add ((t226).toNat * 9)).block, (ad229.add ((t226).toNat * 9)).off + 4, none⟩ = some (.int .i64 ((rd_T61 l0_1 t226).f4)) ∧ w'.cell? ⟨(ad229.add ((t226).toNat * 9)).block, (ad229.add ((t226).toNat * 9)).off + 5, none⟩ = some (.int .i64 ((rd_T61 l0_1 t226).f5)) ∧ w'.cell? ⟨(ad229.add ((t226).toNat * 9)).block, (ad229.add ((t226).toNat * 9)).off + 6, none⟩ = some (.int .i64 ((rd_T61 l0_1 t226).f6)) ∧ w'.cell? ⟨(ad229.add ((t226).toNat * 9)).block, (ad229.add ((t226).toNat * 9)).off + 7, none⟩ = some (.int .i64 ((rd_T61 l0_1 t226).f7)) ∧ w'.cell? ⟨(ad229.add ((t226).toNat * 9)).block, (ad229.add ((t226).toNat * 9)).off + 8, none⟩ = some (.int .i64 ((rd_T61 l0_1 t226).f8))) (ds := []) (bT 16 0) Zi rfl rfl ⟨(blk_cell BK224.out 0).trans rfl, (blk_cell BK224.out 1).trans rfl, (blk_cell BK224.out 2).trans rfl, (blk_cell BK225.out 0).trans rfl, (blk_cell BK225.out 1).trans rfl, (blk_cell BK225.out 2).trans rfl, (blk_cell BK225.out 3).trans rfl, (cbH HB hw229_0 :), (cbH HB hw229_1 :), (cbH HB hw229_2 :), (cbH HB hw229_3 :), (cbH HB hw229_4 :), (cbH HB hw229_5 :), (cbH HB hw229_6 :), (cbH HB hw229_7 :), (cbH HB hw229_8 :)⟩ (fun hHeld => ?_); refine with_tabW impl_firedAt.tab4 impl_firedAt.bits4 (fun HT_ HW_ => ?_); generalize w10.drew = w25 at BK224 BK225 HB hx229_0 hx229_1 hx229_2 hx229_3 hx229_4 hx229_5 hx229_6 hx229_7 hx229_8 hHeld ⊢; refine pureZ HT_ 0 (some 23) (bT 16 1) ?_; refine pureZ HT_ 2 (some 25) (bB 16 5) ?_; refine pureZ HT_ 4 (some 27) (bB 16 21) ?_; refine pureZ HT_ 7 (some 30) (bB 16 149) ?_; refine pureZ HT_ 9 (some 32) (bB 16 661) ?_; refine takeZ16 HT_ HW_ 1 (some 24) (bB 16 663) hHeld ?_; refine takeZ16 HT_ HW_ 3 (some 26) (bB 16 671) hHeld ?_
       refine takeZ16 HT_ HW_ 5 (some 28) (bB 16 703) hHeld ?_; refine takeZ16 HT_ HW_ 8 (some 31) (bB 16 959) hHeld ?_; refine pureZ HT_ 10 (some 33) (bB 16 1983) ?_; refine pureZ HT_ 11 (some 34) (bB 16 4031) ?_; refine takeZ16 HT_ HW_ 12 (some 35) (bB 16 8127) hHeld ?_; refine one_ (i := 6) (N := some 29) (bT 16 13) rfl rfl (one_of HT_.out Zi) (by decide) (fun K hK => ?_); refine goes_ Try.func76 Zi rfl #[.slice A0_0 l0_0.length c0_0, .int .i64 a1_0, .int .i64 a1_1] (by rfl) rfl rfl Zr ?_
       with_reducible refine (impl_beatTime.calls k _ _ l0_0 a1_0 a1_1 t228 _ ?side1 ?side2 A13.out).mono ?_
       (case side1 => exact (Zz HR0_0))
       (case side2 => exact HC0_0.out)
       rintro e w26 ⟨rfl, hb⟩; refine ⟨_, rfl, ?_⟩; replace BK224 := (bkZ BK224 hb); replace BK225 := (bkZ BK225 hb); replace HB := (bsZ (Zh GE224 GE225) hb)
       (try clear hb)
       (try clear hb2)
       (try clear hk)
       (try clear hi)
       refine hK.out _ _ (by exact ⟨(blk_cell BK224.out 0).trans rfl, (blk_cell BK224.out 1).trans rfl, (blk_cell BK224.out 2).trans rfl, (blk_cell BK225.out 0).trans rfl, (blk_cell BK225.out 1).trans rfl, (blk_cell BK225.out 2).trans rfl, (blk_cell BK225.out 3).trans rfl, (cbH HB hw229_0 :), (cbH HB hw229_1 :), (cbH HB hw229_2 :), (cbH HB hw229_3 :), (cbH HB hw229_4 :), (cbH HB hw229_5 :), (cbH HB hw229_6 :), (cbH HB hw229_7 :), (cbH HB hw229_8 :)⟩) (fun hHeld => ?_); clear hK K; refine normZ 29 ?_; refine pureZ HT_ 13 (some 36) (bT 16 14) ?_; refine pureZ HT_ 14 (some 37) (bT 16 15) ?_; refine pureZ HT_ 15 (some 4) (bT 16 16) ?_; refine done_ (done_of HT_.out Zi) ?_
       try go_wp2
       go_ret
       exact ⟨by first | rfl | (simp [errW_none, errW_some] <;> rfl) | (simp only [← hji16]; first | rfl | (simp [errW_none, errW_some] <;> rfl)) | (simp [*, errW_none, errW_some] <;> rfl), (Zh GE224 GE225)⟩
      ·rw [if_neg c15] at H
       exact absurd H (by simp)
     ·rw [if_neg c14] at H
      exact absurd H (by simp)
    ·have H := HS_.out
     clear HS_; replace c12 := Bool.eq_false_iff.mpr c12; subst c12; rw [if_neg (show ¬ (false = true) by decide)] at H; obtain rfl := Option.some.inj H
     go_wp2_with (first | fail)
     go_ret
     exact ⟨Zj, (Zh GE224 GE225)⟩
mutual
def impl_IsScore.j0 : Nat → List (S104) → Bool → Option (Bool)
 | 0, _, _ => none
 | k + 1, x0, x12 => if x12 = true then (some false) else (impl_IsScore.l0 k x0 (x0.length : Int) 0)
def impl_IsScore.l0 : Nat → List (S104) → Int → Int → Option (Bool)
 | 0, _, _, _ => none
 | k + 1, x13, x14, x15 => if x15 < x14 then (if 0 ≤ x15 then (if x15 < (x13.length : Int) then ((impl_within.f ((rd_T104 x13 x15).f0) 1 16).bind fun t232 => (if t232 = true then ((impl_within.f ((rd_T104 x13 x15).f1) 100 5000).bind fun t233 => (if t233 = true then (impl_IsScore.l0 k x13 x14 (wrap64 (x15 + 1))) else (some false))) else (some false))) else (none)) else (none)) else (some true)
end
def impl_IsScore.f (k : Nat) (l0 : List (S104)) : Option (Bool) := if (l0.length : Int) < 1 then (impl_IsScore.j0 k l0 true) else (impl_IsScore.j0 k l0 (decide ((l0.length : Int) > 20)))
set_option maxHeartbeats 8000000 in
set_option maxRecDepth 100000 in
theorem impl_IsScore.calls (k : Nat) (A0 : Option Addr) (c0 : Nat) (l0 : List (S104)) (r : Bool) (w : World) (hr0 : Kd.C k104 w A0 l0.length l0) (hc0 : l0.length ≤ c0) (h : impl_IsScore.f k l0 = some r) :
  Calls Try.prog 73 #[.slice A0 l0.length c0] w fun e w' => e = .returned (.bool r) ∧ Below w.heap.size w w' := by
 have hu104 := Try.underlying104; have HR0 := am_ hr0; have HC0 := am_ hc0; clear hr0 hc0; have HB := am_ (Below.refl w.heap.size w); have H : (if (l0.length : Int) < 1 then (impl_IsScore.j0 k l0 true) else (impl_IsScore.j0 k l0 (decide ((l0.length : Int) > 20)))) = some r := h; clear h; have HC2 := am_ H; clear H
 go_enter Try.func73, Try.ntmps73
 go_upto_region 1 with (fail)
 go_cut [12] (fun v12 wc => ∃ (kq : Nat) (x12_1 : Bool), v12 = .bool x12_1 ∧ Aside0 (impl_IsScore.j0 kq l0 x12_1 = some r) ∧ Aside0 (kq ≤ k) ∧ Aside0 (Below w.heap.size w wc))
 case first =>
  have H := HC2.out; clear HC2
  by_cases c3 : (l0.length : Int) < 1
  ·rw [if_pos c3] at H
   have c3b0 := decide_eq_true c3; have c3b1 : decide (l0.length < 1) = true := decide_eq_true (by omega); clear c3
   (first | rw [c3b0] | (simp only [i64_w, i32_w]; rw [c3b0]) | skip)
   have H' := am_ H; clear H
   go_wp2
   go_meet
   case rel => exact ⟨_, (true), Za, H', ⟨Zl⟩, ⟨Zd⟩⟩
  ·rw [if_neg c3] at H
   have c3b0 := decide_eq_false c3; have c3b1 : decide (l0.length < 1) = false := decide_eq_false (by omega); clear c3
   (first | rw [c3b0] | (simp only [i64_w, i32_w]; rw [c3b0]) | skip)
   have H' := am_ H; clear H
   go_wp2
   go_meet
   case rel => exact ⟨_, (decide ((l0.length : Int) > 20)), Za, H', ⟨Zl⟩, ⟨Zd⟩⟩
 case rest =>
  clear HC2
  try clear p2
  try clear c3
  try clear c3b0
  try clear c3b1
  obtain ⟨kq, x12_1, rfl, HA, HJ1, HB⟩ := hcut
  cases kq with
  | zero => exact absurd HA.out (by simp [impl_IsScore.j0])
  | succ kj1 =>
   have H := HA.out; clear HA; simp only [impl_IsScore.j0] at H
   by_cases c4 : x12_1 = true
   ·subst c4
    rw [if_pos rfl] at H; obtain rfl := Option.some.inj H
    go_wp2
    go_ret
    exact ⟨Zj, Zd⟩
   ·replace c4 := Bool.eq_false_iff.mpr c4
    subst c4; rw [if_neg (show ¬ (false = true) by decide)] at H; have H' := am_ H; clear H
    go_wp2
    go_loopg [15] kj1 (fun kq v15 w' => ∃ (x15_2 : Int), v15 = .int .i64 x15_2 ∧ Aside0 (impl_IsScore.l0 kq l0 (l0.length : Int) x15_2 = some r) ∧ Aside0 (kq ≤ kj1) ∧ Aside0 (Below w.heap.size w w'))
    case atStart => exact ⟨(0), Za, H', ⟨Nat.le_refl _⟩, ⟨Zd⟩⟩
    case round =>
     clear H'
     try clear p2
     try clear c3
     try clear c3b0
     try clear c3b1
     try clear c4
     try clear p2
     obtain ⟨x15_2, rfl, HA, HK2, HB⟩ := hrel
     cases gk with
     | zero => exact absurd HA.out (by simp [impl_IsScore.l0])
     | succ k2 =>
      have H := HA.out; clear HA; simp only [impl_IsScore.l0] at H
      by_cases c5 : x15_2 < (l0.length : Int)
      ·rw [if_pos c5] at H
       have c5b0 := decide_eq_true c5; clear c5
       by_cases c6 : 0 ≤ x15_2
       ·rw [if_pos c6] at H
        have c6b0 := decide_eq_true c6; clear c6
        by_cases c7 : x15_2 < (l0.length : Int)
        ·rw [if_pos c7] at H
         have c7b0 := decide_eq_true c7; clear c7; replace H := Option.bind_eq_some_iff.mp H; obtain ⟨t232, A80, H⟩ := H; have A8 := am_ A80; clear A80; have HS_ := am_ H; clear H; have p230 : 0 ≤ (x15_2 : Int) := of_decide_eq_true Zn; have q230 : x15_2 < (l0.length : Int) := of_decide_eq_true Zn; obtain ⟨ad230, e230, hx230_0, hx230_1⟩ := at_T104 HR0.out x15_2 p230 q230
         cases e230
         replace hx230_0 := cbH HB hx230_0; replace hx230_1 := cbH HB hx230_1; replace p230 := eq_true p230; replace q230 := eq_true q230
         go_wp2_with (first | ((with_reducible refine gate_dst (N := 4) rfl ?_); (try (refine gate_guard (by rfl) ?_; dsimp only)); refine boxZ 4 #[.int .i64 0, .int .i64 0] 104 ?_; intro gb231 hg w12 hbox hb; replace BK231 := am_ (hbox); replace GW231 := am_ ((Zc : w.heap.size ≤ gb231)); replace GE231 := GW231; replace HB := (bsZ Zd hb); clear hb hbox hg; refine ci2 BK231 ?_; intros) | ((with_reducible refine gate_callee (f := 58) rfl ?_); refine gZ 21 Try.func58 #[.int .i64 ((rd_T104 l0 x15_2).f0), .int .i64 1, .int .i64 16] ?_; (with_reducible refine (impl_within.calls ((rd_T104 l0 x15_2).f0) 1 16 t232 _ A8.out).mono ?_); rintro e w' ⟨rfl, ⟨nd, rfl⟩⟩; refine ⟨_, rfl, ?_⟩; refine ?roundEnd))
         case roundEnd =>
          by_cases c9 : t232 = true
          ·have H := HS_.out
           clear HS_; subst c9; rw [if_pos rfl] at H; replace H := Option.bind_eq_some_iff.mp H; obtain ⟨t233, A100, H⟩ := H; have A10 := am_ A100; clear A100; have HS_ := am_ H; clear H
           go_wp2_with (first | (go_at_call 58; (with_reducible refine (impl_within.calls ((rd_T104 l0 x15_2).f1) 100 5000 t233 _ A10.out).mono ?_); rintro e w' ⟨rfl, ⟨nd, rfl⟩⟩; refine ?roundEnd))
           case roundEnd =>
            by_cases c11 : t233 = true
            ·have H := HS_.out
             clear HS_; subst c11; rw [if_pos rfl] at H; have H' := am_ H; clear H
             go_wp2_with (first | fail)
             go_roundg k2
             case measure => have := HJ1.out; have := HK2.out; omega
             case rel => exact ⟨(wrap64 (x15_2 + 1)), Za, H', ⟨by have := HJ1.out; have := HK2.out; omega⟩, ⟨(Zf GE231)⟩⟩
            ·have H := HS_.out
             clear HS_; replace c11 := Bool.eq_false_iff.mpr c11; subst c11; rw [if_neg (show ¬ (false = true) by decide)] at H; obtain rfl := Option.some.inj H
             go_wp2_with (first | fail)
             go_ret
             exact ⟨Zj, (Zf GE231)⟩
          ·have H := HS_.out
           clear HS_; replace c9 := Bool.eq_false_iff.mpr c9; subst c9; rw [if_neg (show ¬ (false = true) by decide)] at H; obtain rfl := Option.some.inj H
           go_wp2_with (first | fail)
           go_ret
           exact ⟨Zj, (Zf GE231)⟩
        ·rw [if_neg c7] at H
         exact absurd H (by simp)
       ·rw [if_neg c6] at H
        exact absurd H (by simp)
      ·rw [if_neg c5] at H
       have c5b0 := decide_eq_false c5; clear c5; obtain rfl := Option.some.inj H
       go_wp2
       go_ret
       exact ⟨Zj, Zd⟩
mutual
def impl_IsWord.j0 : Nat → ByteArray → Bool → Option (Bool)
 | 0, _, _ => none
 | k + 1, x0, x11 => if x11 = true then (some false) else (impl_IsWord.l0 k x0 0)
def impl_IsWord.l0 : Nat → ByteArray → Int → Option (Bool)
 | 0, _, _ => none
 | k + 1, x0, x3 => if x3 < (x0.size : Int) then (if 0 ≤ x3 then (if (bt x0 x3) < 97 then (some false) else (if (bt x0 x3) > 122 then (some false) else (impl_IsWord.l0 k x0 (wrap64 (x3 + 1))))) else (none)) else (some true)
end
def impl_IsWord.f (k : Nat) (a0 : ByteArray) : Option (Bool) := if (a0.size : Int) < 1 then (impl_IsWord.j0 k a0 true) else (impl_IsWord.j0 k a0 (decide ((a0.size : Int) > 16)))
set_option maxHeartbeats 8000000 in
set_option maxRecDepth 100000 in
theorem impl_IsWord.calls (k : Nat) (a0 : ByteArray) (r : Bool) (w : World) (h : impl_IsWord.f k a0 = some r) :
  Calls Try.prog 113 #[.string a0] w fun e w' => e = .returned (.bool r) ∧ Drawn0 w w' := by
 have H : (if (a0.size : Int) < 1 then (impl_IsWord.j0 k a0 true) else (impl_IsWord.j0 k a0 (decide ((a0.size : Int) > 16)))) = some r := h; clear h; have HC2 := am_ H; clear H
 go_enter Try.func113, Try.ntmps113
 go_upto_region 1 with (fail)
 go_cut [11] (fun v11 wc => ∃ (kq : Nat) (x11_1 : Bool), v11 = .bool x11_1 ∧ Aside0 (impl_IsWord.j0 kq a0 x11_1 = some r) ∧ Aside0 (kq ≤ k) ∧ Drawn0 w wc)
 case first =>
  have H := HC2.out; clear HC2
  by_cases c3 : (a0.size : Int) < 1
  ·rw [if_pos c3] at H
   have c3b0 := decide_eq_true c3; have c3b1 : decide (a0.size < 1) = true := decide_eq_true (by omega); clear c3
   (first | rw [c3b0] | (simp only [i64_w, i32_w]; rw [c3b0]) | skip)
   have H' := am_ H; clear H
   go_wp2
   go_meet
   case rel => exact ⟨_, (true), Za, H', ⟨Zl⟩, Zb⟩
  ·rw [if_neg c3] at H
   have c3b0 := decide_eq_false c3; have c3b1 : decide (a0.size < 1) = false := decide_eq_false (by omega); clear c3
   (first | rw [c3b0] | (simp only [i64_w, i32_w]; rw [c3b0]) | skip)
   have H' := am_ H; clear H
   go_wp2
   go_meet
   case rel => exact ⟨_, (decide ((a0.size : Int) > 16)), Za, H', ⟨Zl⟩, Zb⟩
 case rest =>
  clear HC2
  try clear c1
  try clear p2
  try clear c3
  try clear c3b0
  try clear c3b1
  obtain ⟨kq, x11_1, rfl, HA, HJ1, ⟨mc1, rfl⟩⟩ := hcut
  cases kq with
  | zero => exact absurd HA.out (by simp [impl_IsWord.j0])
  | succ kj1 =>
   have H := HA.out; clear HA; simp only [impl_IsWord.j0] at H
   by_cases c4 : x11_1 = true
   ·subst c4
    rw [if_pos rfl] at H; obtain rfl := Option.some.inj H
    go_wp2
    go_ret
    exact ⟨Za, Zb⟩
   ·replace c4 := Bool.eq_false_iff.mpr c4
    subst c4; rw [if_neg (show ¬ (false = true) by decide)] at H; have H' := am_ H; clear H
    go_wp2
    go_loopg [3] kj1 (fun kq v3 w' => ∃ (x3_2 : Int), v3 = .int .i64 x3_2 ∧ Aside0 (impl_IsWord.l0 kq a0 x3_2 = some r) ∧ Aside0 (kq ≤ kj1) ∧ Drawn0 w w')
    case atStart => exact ⟨(0), Za, H', ⟨Nat.le_refl _⟩, Zb⟩
    case round =>
     clear H'
     try clear c1
     try clear p2
     try clear c3
     try clear c3b0
     try clear c3b1
     try clear c4
     try clear p2
     obtain ⟨x3_2, rfl, HA, HK2, ⟨m2, rfl⟩⟩ := hrel
     cases gk with
     | zero => exact absurd HA.out (by simp [impl_IsWord.l0])
     | succ k2 =>
      have H := HA.out; clear HA; simp only [impl_IsWord.l0] at H
      by_cases c5 : x3_2 < (a0.size : Int)
      ·rw [if_pos c5] at H
       have c5b0 := decide_eq_true c5; clear c5
       by_cases c6 : 0 ≤ x3_2
       ·rw [if_pos c6] at H
        have c6b0 := decide_eq_true c6; clear c6
        by_cases c8 : (bt a0 x3_2) < 97
        ·rw [if_pos c8] at H
         have c8b0 := decide_eq_true c8; clear c8; obtain rfl := Option.some.inj H; have p7 : 0 ≤ (x3_2 : Int) := of_decide_eq_true Zn; have q7 : x3_2 < (a0.size : Int) := of_decide_eq_true Zn; have hx7 := bt_at a0 x3_2; replace p7 := eq_true p7; replace q7 := eq_true q7
         go_wp2
         go_ret
         exact ⟨Za, Zb⟩
        ·rw [if_neg c8] at H
         have c8b0 := decide_eq_false c8; clear c8
         by_cases c10 : (bt a0 x3_2) > 122
         ·rw [if_pos c10] at H
          have c10b0 : decide (122 < (bt a0 x3_2)) = true := decide_eq_true c10; clear c10; obtain rfl := Option.some.inj H; have p7 : 0 ≤ (x3_2 : Int) := of_decide_eq_true Zn; have q7 : x3_2 < (a0.size : Int) := of_decide_eq_true Zn; have hx7 := bt_at a0 x3_2; replace p7 := eq_true p7; replace q7 := eq_true q7; have p9 : 0 ≤ (x3_2 : Int) := of_decide_eq_true Zn; have q9 : x3_2 < (a0.size : Int) := of_decide_eq_true Zn; have hx9 := bt_at a0 x3_2; replace p9 := eq_true p9; replace q9 := eq_true q9
          go_wp2
          go_ret
          exact ⟨Za, Zb⟩
         ·rw [if_neg c10] at H
          have c10b0 : decide (122 < (bt a0 x3_2)) = false := decide_eq_false c10; clear c10; have H' := am_ H; clear H; have p7 : 0 ≤ (x3_2 : Int) := of_decide_eq_true Zn; have q7 : x3_2 < (a0.size : Int) := of_decide_eq_true Zn; have hx7 := bt_at a0 x3_2; replace p7 := eq_true p7; replace q7 := eq_true q7; have p9 : 0 ≤ (x3_2 : Int) := of_decide_eq_true Zn; have q9 : x3_2 < (a0.size : Int) := of_decide_eq_true Zn; have hx9 := bt_at a0 x3_2; replace p9 := eq_true p9; replace q9 := eq_true q9
          go_wp2
          go_roundg k2
          case measure => have := HJ1.out; have := HK2.out; omega
          case rel => exact ⟨(wrap64 (x3_2 + 1)), Za, H', ⟨by have := HJ1.out; have := HK2.out; omega⟩, Zb⟩
       ·rw [if_neg c6] at H
        exact absurd H (by simp)
      ·rw [if_neg c5] at H
       have c5b0 := decide_eq_false c5; clear c5; obtain rfl := Option.some.inj H
       go_wp2
       go_ret
       exact ⟨Za, Zb⟩
def impl_IsArticle.f (k : Nat) (a0_0 : ByteArray) (a0_1 : Int) (a0_2 : Int) (a0_3 : Int) (a0_4 : Int) (a0_5 : Int) (a0_6 : Int) (a0_7 : Int) (a0_8 : Int) : Option (Bool) := (impl_IsWord.f k a0_0).bind fun t235 => (if t235 = true then ((impl_within.f a0_1 0 3).bind fun t236 => (if t236 = true then ((impl_within.f a0_2 20 300).bind fun t237 => (if t237 = true then ((impl_within.f a0_3 0 10000).bind fun t238 => (if t238 = true then ((impl_within.f a0_4 0 a0_3).bind fun t239 => (if t239 = true then ((impl_within.f a0_5 1 50).bind fun t240 => (if t240 = true then ((impl_within.f a0_6 0 10000).bind fun t241 => (if t241 = true then ((impl_within.f a0_7 1 100000).bind fun t242 => (if t242 = true then ((impl_within.f a0_8 0 3).bind fun t243 => (some t243)) else (some false))) else (some false))) else (some false))) else (some false))) else (some false))) else (some false))) else (some false))) else (some false))
set_option maxHeartbeats 8000000 in
set_option maxRecDepth 100000 in
theorem impl_IsArticle.calls (k : Nat) (a0_0 : ByteArray) (a0_1 : Int) (a0_2 : Int) (a0_3 : Int) (a0_4 : Int) (a0_5 : Int) (a0_6 : Int) (a0_7 : Int) (a0_8 : Int) (r : Bool) (w : World) (h : impl_IsArticle.f k a0_0 a0_1 a0_2 a0_3 a0_4 a0_5 a0_6 a0_7 a0_8 = some r) :
  Calls Try.prog 101 #[.agg #[.string a0_0, .int .i64 a0_1, .int .i64 a0_2, .int .i64 a0_3, .int .i64 a0_4, .int .i64 a0_5, .int .i64 a0_6, .int .i64 a0_7, .int .i64 a0_8]] w fun e w' => e = .returned (.bool r) ∧ Below w.heap.size w w' := by
 have hu61 := Try.underlying61; have HB := am_ (Below.refl w.heap.size w); have H : ((impl_IsWord.f k a0_0).bind fun t235 => (if t235 = true then ((impl_within.f a0_1 0 3).bind fun t236 => (if t236 = true then ((impl_within.f a0_2 20 300).bind fun t237 => (if t237 = true then ((impl_within.f a0_3 0 10000).bind fun t238 => (if t238 = true then ((impl_within.f a0_4 0 a0_3).bind fun t239 => (if t239 = true then ((impl_within.f a0_5 1 50).bind fun t240 => (if t240 = true then ((impl_within.f a0_6 0 10000).bind fun t241 => (if t241 = true then ((impl_within.f a0_7 1 100000).bind fun t242 => (if t242 = true then ((impl_within.f a0_8 0 3).bind fun t243 => (some t243)) else (some false))) else (some false))) else (some false))) else (some false))) else (some false))) else (some false))) else (some false))) else (some false))) = some r := h; clear h; replace H := Option.bind_eq_some_iff.mp H; obtain ⟨t235, A20, H⟩ := H; have A2 := am_ A20; clear A20; have HS_ := am_ H; clear H
 go_enter Try.func101, Try.ntmps101
 go_wp2_with (first | ((with_reducible refine gate_dst (N := 1) rfl ?_); refine boxZ 1 #[.string a0_0, .int .i64 a0_1, .int .i64 a0_2, .int .i64 a0_3, .int .i64 a0_4, .int .i64 a0_5, .int .i64 a0_6, .int .i64 a0_7, .int .i64 a0_8] 61 ?_; intro gb234 hg w19 hbox hb; replace BK234 := am_ (hbox); replace GW234 := am_ ((Zc : w.heap.size ≤ gb234)); replace GE234 := GW234; replace HB := (bsZ Zd hb); clear hb hbox hg; refine ci9 BK234 ?_; intros) | ((with_reducible refine gate_callee (f := 113) rfl ?_); refine gZ 5 Try.func113 #[.string a0_0] ?_; (with_reducible refine (impl_IsWord.calls k a0_0 t235 _ A2.out).mono ?_); rintro e w' ⟨rfl, ⟨nd, rfl⟩⟩; refine ⟨_, rfl, ?_⟩; refine ?roundEnd))
 case roundEnd =>
  by_cases c3 : t235 = true
  ·have H := HS_.out
   clear HS_; subst c3; rw [if_pos rfl] at H; replace H := Option.bind_eq_some_iff.mp H; obtain ⟨t236, A40, H⟩ := H; have A4 := am_ A40; clear A40; have HS_ := am_ H; clear H
   go_wp2_with (first | (go_at_call 58; (with_reducible refine (impl_within.calls a0_1 0 3 t236 _ A4.out).mono ?_); rintro e w' ⟨rfl, ⟨nd, rfl⟩⟩; refine ?roundEnd))
   case roundEnd =>
    by_cases c5 : t236 = true
    ·have H := HS_.out
     clear HS_; subst c5; rw [if_pos rfl] at H; replace H := Option.bind_eq_some_iff.mp H; obtain ⟨t237, A60, H⟩ := H; have A6 := am_ A60; clear A60; have HS_ := am_ H; clear H
     go_wp2_with (first | (go_at_call 58; (with_reducible refine (impl_within.calls a0_2 20 300 t237 _ A6.out).mono ?_); rintro e w' ⟨rfl, ⟨nd, rfl⟩⟩; refine ?roundEnd))
     case roundEnd =>
      by_cases c7 : t237 = true
      ·have H := HS_.out
       clear HS_; subst c7; rw [if_pos rfl] at H; replace H := Option.bind_eq_some_iff.mp H; obtain ⟨t238, A80, H⟩ := H; have A8 := am_ A80; clear A80; have HS_ := am_ H; clear H
       go_wp2_with (first | (go_at_call 58; (with_reducible refine (impl_within.calls a0_3 0 10000 t238 _ A8.out).mono ?_); rintro e w' ⟨rfl, ⟨nd, rfl⟩⟩; refine ?roundEnd))
       case roundEnd =>
        by_cases c9 : t238 = true
        ·have H := HS_.out
         clear HS_; subst c9; rw [if_pos rfl] at H; replace H := Option.bind_eq_some_iff.mp H; obtain ⟨t239, A100, H⟩ := H; have A10 := am_ A100; clear A100; have HS_ := am_ H; clear H
         go_wp2_with (first | (go_at_call 58; (with_reducible refine (impl_within.calls a0_4 0 a0_3 t239 _ A10.out).mono ?_); rintro e w' ⟨rfl, ⟨nd, rfl⟩⟩; refine ?roundEnd))
         case roundEnd =>
          by_cases c11 : t239 = true
          ·have H := HS_.out
           clear HS_; subst c11; rw [if_pos rfl] at H; replace H := Option.bind_eq_some_iff.mp H; obtain ⟨t240, A120, H⟩ := H; have A12 := am_ A120; clear A120; have HS_ := am_ H; clear H
           go_wp2_with (first | (go_at_call 58; (with_reducible refine (impl_within.calls a0_5 1 50 t240 _ A12.out).mono ?_); rintro e w' ⟨rfl, ⟨nd, rfl⟩⟩; refine ?roundEnd))
           case roundEnd =>
            by_cases c13 : t240 = true
            ·have H := HS_.out
             clear HS_; subst c13; rw [if_pos rfl] at H; replace H := Option.bind_eq_some_iff.mp H; obtain ⟨t241, A140, H⟩ := H; have A14 := am_ A140; clear A140; have HS_ := am_ H; clear H
             go_wp2_with (first | (go_at_call 58; (with_reducible refine (impl_within.calls a0_6 0 10000 t241 _ A14.out).mono ?_); rintro e w' ⟨rfl, ⟨nd, rfl⟩⟩; refine ?roundEnd))
             case roundEnd =>
              by_cases c15 : t241 = true
              ·have H := HS_.out
               clear HS_; subst c15; rw [if_pos rfl] at H; replace H := Option.bind_eq_some_iff.mp H; obtain ⟨t242, A160, H⟩ := H; have A16 := am_ A160; clear A160; have HS_ := am_ H; clear H
               go_wp2_with (first | (go_at_call 58; (with_reducible refine (impl_within.calls a0_7 1 100000 t242 _ A16.out).mono ?_); rintro e w' ⟨rfl, ⟨nd, rfl⟩⟩; refine ?roundEnd))
               case roundEnd =>
                by_cases c17 : t242 = true
                ·have H := HS_.out
                 clear HS_; subst c17; rw [if_pos rfl] at H; replace H := Option.bind_eq_some_iff.mp H; obtain ⟨t243, A180, H⟩ := H; have A18 := am_ A180; clear A180; obtain rfl := Option.some.inj H
                 go_wp2_with (first | (go_at_call 58; (with_reducible refine (impl_within.calls a0_8 0 3 t243 _ A18.out).mono ?_); rintro e w' ⟨rfl, ⟨nd, rfl⟩⟩))
                 go_ret
                 exact ⟨Zj, (Zf GE234)⟩
                ·have H := HS_.out
                 clear HS_; replace c17 := Bool.eq_false_iff.mpr c17; subst c17; rw [if_neg (show ¬ (false = true) by decide)] at H; obtain rfl := Option.some.inj H
                 go_wp2_with (first | fail)
                 go_ret
                 exact ⟨Zj, (Zf GE234)⟩
              ·have H := HS_.out
               clear HS_; replace c15 := Bool.eq_false_iff.mpr c15; subst c15; rw [if_neg (show ¬ (false = true) by decide)] at H; obtain rfl := Option.some.inj H
               go_wp2_with (first | fail)
               go_ret
               exact ⟨Zj, (Zf GE234)⟩
            ·have H := HS_.out
             clear HS_; replace c13 := Bool.eq_false_iff.mpr c13; subst c13; rw [if_neg (show ¬ (false = true) by decide)] at H; obtain rfl := Option.some.inj H
             go_wp2_with (first | fail)
             go_ret
             exact ⟨Zj, (Zf GE234)⟩
          ·have H := HS_.out
           clear HS_; replace c11 := Bool.eq_false_iff.mpr c11; subst c11; rw [if_neg (show ¬ (false = true) by decide)] at H; obtain rfl := Option.some.inj H
           go_wp2_with (first | fail)
           go_ret
           exact ⟨Zj, (Zf GE234)⟩
        ·have H := HS_.out
         clear HS_; replace c9 := Bool.eq_false_iff.mpr c9; subst c9; rw [if_neg (show ¬ (false = true) by decide)] at H; obtain rfl := Option.some.inj H
         go_wp2_with (first | fail)
         go_ret
         exact ⟨Zj, (Zf GE234)⟩
      ·have H := HS_.out
       clear HS_; replace c7 := Bool.eq_false_iff.mpr c7; subst c7; rw [if_neg (show ¬ (false = true) by decide)] at H; obtain rfl := Option.some.inj H
       go_wp2_with (first | fail)
       go_ret
       exact ⟨Zj, (Zf GE234)⟩
    ·have H := HS_.out
     clear HS_; replace c5 := Bool.eq_false_iff.mpr c5; subst c5; rw [if_neg (show ¬ (false = true) by decide)] at H; obtain rfl := Option.some.inj H
     go_wp2_with (first | fail)
     go_ret
     exact ⟨Zj, (Zf GE234)⟩
  ·have H := HS_.out
   clear HS_; replace c3 := Bool.eq_false_iff.mpr c3; subst c3; rw [if_neg (show ¬ (false = true) by decide)] at H; obtain rfl := Option.some.inj H
   go_wp2_with (first | fail)
   go_ret
   exact ⟨Zj, (Zf GE234)⟩
def impl_AreArticles.l0 : Nat → List (S61) → List (S61) → Int → Int → Option (Bool)
 | 0, _, _, _, _ => none
 | k + 1, x0, x8, x9, x10 => if x10 < x9 then (if 0 ≤ x10 then (if x10 < (x8.length : Int) then ((impl_IsArticle.f k ((rd_T61 x8 x10).f0) ((rd_T61 x8 x10).f1) ((rd_T61 x8 x10).f2) ((rd_T61 x8 x10).f3) ((rd_T61 x8 x10).f4) ((rd_T61 x8 x10).f5) ((rd_T61 x8 x10).f6) ((rd_T61 x8 x10).f7) ((rd_T61 x8 x10).f8)).bind fun t246 => (if t246 = true then (if x10 > 0 then (if 0 ≤ (wrap64 (x10 - 1)) then (if (wrap64 (x10 - 1)) < (x0.length : Int) then (if ((Op.bytesLess (((rd_T61 x0 (wrap64 (x10 - 1))).f0).toList) (((rd_T61 x8 x10).f0).toList)) = true) then (impl_AreArticles.l0 k x0 x8 x9 (wrap64 (x10 + 1))) else (some false)) else (none)) else (none)) else (impl_AreArticles.l0 k x0 x8 x9 (wrap64 (x10 + 1)))) else (some false))) else (none)) else (none)) else (some true)
def impl_AreArticles.f (k : Nat) (l0 : List (S61)) : Option (Bool) := if (l0.length : Int) > 12 then (some false) else (impl_AreArticles.l0 k l0 l0 (l0.length : Int) 0)
def impl_AreArticles.T6 : Bool × List (List Nat × List Nat) := (true, [([], []), ([0], [0]), ([1], [1]), ([2, 1], [2]), ([3], [3]), ([4, 3], [3, 4]), ([5, 3, 3], [3, 5]), ([6], [6]), ([6], [6]), ([8, 6], [6, 8]), ([7, 9, 6], [6, 7, 9]), ([10, 6], [6, 10]), ([11, 6], [6, 11]), ([6], [6]), ([13, 6], [6, 13]), ([12, 14, 6], [6, 12, 14]), ([6, 15, 3], [3, 6, 15]), ([3, 16], [3, 16])])
def impl_AreArticles.B6 : List Nat := [0, 1, 3, 7, 15, 31, 63, 127, 127, 383, 1023, 2047, 4095, 127, 8319, 32767, 65535, 131071]
theorem impl_AreArticles.tab6 : rtab .any (opsOf Try.f74 6) = impl_AreArticles.T6 := by kernel_rfl
theorem impl_AreArticles.bits6 : waitsOk impl_AreArticles.T6.2 impl_AreArticles.B6 = true := by kernel_rfl
set_option maxHeartbeats 8000000 in
set_option maxRecDepth 100000 in
theorem impl_AreArticles.calls (k : Nat) (A0 : Option Addr) (c0 : Nat) (l0 : List (S61)) (r : Bool) (w : World) (hr0 : Kd.C k61 w A0 l0.length l0) (hc0 : l0.length ≤ c0) (h : impl_AreArticles.f k l0 = some r) :
  Calls Try.prog 74 #[.slice A0 l0.length c0] w fun e w' => e = .returned (.bool r) ∧ Below w.heap.size w w' := by
 have hu61 := Try.underlying61; have HR0 := am_ hr0; have HC0 := am_ hc0; clear hr0 hc0; have HB := am_ (Below.refl w.heap.size w); have H : (if (l0.length : Int) > 12 then (some false) else (impl_AreArticles.l0 k l0 l0 (l0.length : Int) 0)) = some r := h; clear h
 by_cases c2 : (l0.length : Int) > 12
 ·rw [if_pos c2] at H
  have c2b0 : decide (12 < (l0.length : Int)) = true := decide_eq_true c2; have c2b1 : decide (12 < l0.length) = true := decide_eq_true (by omega); clear c2; obtain rfl := Option.some.inj H
  go_enter Try.func74, Try.ntmps74
  go_wp2
  go_ret
  exact ⟨Zj, Zd⟩
 ·rw [if_neg c2] at H
  have c2b0 : decide (12 < (l0.length : Int)) = false := decide_eq_false c2; have c2b1 : decide (12 < l0.length) = false := decide_eq_false (by omega); clear c2; have H' := am_ H; clear H
  go_enter Try.func74, Try.ntmps74
  go_wp2
  go_loopg [10] k (fun kq v10 w' => ∃ (x10_1 : Int), v10 = .int .i64 x10_1 ∧ Aside0 (impl_AreArticles.l0 kq l0 l0 (l0.length : Int) x10_1 = some r) ∧ Aside0 (kq ≤ k) ∧ Aside0 (Below w.heap.size w w'))
  case atStart => exact ⟨(0), Za, H', ⟨Nat.le_refl _⟩, ⟨Zd⟩⟩
  case round =>
   clear H'
   try clear c2
   try clear c2b0
   try clear c2b1
   try clear p2
   obtain ⟨x10_1, rfl, HA, HK1, HB⟩ := hrel
   cases gk with
   | zero => exact absurd HA.out (by simp [impl_AreArticles.l0])
   | succ k1 =>
    have H := HA.out; clear HA; simp only [impl_AreArticles.l0] at H
    by_cases c3 : x10_1 < (l0.length : Int)
    ·rw [if_pos c3] at H
     have c3b0 := decide_eq_true c3; clear c3
     by_cases c4 : 0 ≤ x10_1
     ·rw [if_pos c4] at H
      have c4b0 := decide_eq_true c4; clear c4
      by_cases c5 : x10_1 < (l0.length : Int)
      ·rw [if_pos c5] at H
       have c5b0 := decide_eq_true c5; clear c5; replace H := Option.bind_eq_some_iff.mp H; obtain ⟨t246, A60, H⟩ := H; have A6 := am_ A60; clear A60
       by_cases c7 : t246 = true
       ·subst c7
        rw [if_pos rfl] at H
        by_cases c8 : x10_1 > 0
        ·rw [if_pos c8] at H
         have c8b0 : decide (0 < x10_1) = true := decide_eq_true c8; clear c8; obtain ⟨ji9, hji9⟩ : ∃ j_ : Int, (wrap64 (x10_1 - 1)) = j_ := ⟨_, rfl⟩
         replace H : (if 0 ≤ (ji9) then (if (ji9) < (l0.length : Int) then (if ((Op.bytesLess (((rd_T61 l0 (ji9)).f0).toList) (((rd_T61 l0 x10_1).f0).toList)) = true) then (impl_AreArticles.l0 k1 l0 l0 (l0.length : Int) (wrap64 (x10_1 + 1))) else (some false)) else (none)) else (none)) = some r := by first | (rw [hji9] at H; exact H) | (simp only [hji9] at H ⊢; exact H)
         (try rw [hji9] at A6)
         have hji9w : (IntKind.i64.wrap (x10_1 - 1)) = ji9 := (i64_w _).trans hji9
         by_cases c10 : 0 ≤ (ji9)
         ·rw [if_pos c10] at H
          have c10b0 := decide_eq_true c10; clear c10
          by_cases c11 : (ji9) < (l0.length : Int)
          ·rw [if_pos c11] at H
           have c11b0 := decide_eq_true c11; clear c11; have HS_ := am_ H; clear H; have p244 : 0 ≤ (x10_1 : Int) := of_decide_eq_true Zn; have q244 : x10_1 < (l0.length : Int) := of_decide_eq_true Zn; obtain ⟨ad244, e244, hx244_0, hx244_1, hx244_2, hx244_3, hx244_4, hx244_5, hx244_6, hx244_7, hx244_8⟩ := at_T61 HR0.out x10_1 p244 q244
           cases e244
           replace hx244_0 := cbH HB hx244_0; replace hx244_1 := cbH HB hx244_1; replace hx244_2 := cbH HB hx244_2; replace hx244_3 := cbH HB hx244_3; replace hx244_4 := cbH HB hx244_4; replace hx244_5 := cbH HB hx244_5; replace hx244_6 := cbH HB hx244_6; replace hx244_7 := cbH HB hx244_7; replace hx244_8 := cbH HB hx244_8; replace p244 := eq_true p244; replace q244 := eq_true q244
           try go_wp2_with (first | ((with_reducible refine gate_dst (N := 4) rfl ?_); refine boxZ 4 #[.string (⟨#[]⟩ : ByteArray), .int .i64 0, .int .i64 0, .int .i64 0, .int .i64 0, .int .i64 0, .int .i64 0, .int .i64 0, .int .i64 0] 61 ?_; intro gb245 hg w13 hbox hb; replace BK245 := am_ (hbox); replace GW245 := am_ ((Zc : w.heap.size ≤ gb245)); replace GE245 := GW245; replace HB := (bsZ Zd hb); clear hb hbox hg; refine ci9 BK245 ?_; intros))
           have n0_ : Aside0 ((((((((((w13.setCell ⟨gb245, 0, none⟩ (.string ((rd_T61 l0 x10_1).f0))).setCell ⟨gb245, 1, none⟩ (.int .i64 ((rd_T61 l0 x10_1).f1))).setCell ⟨gb245, 2, none⟩ (.int .i64 ((rd_T61 l0 x10_1).f2))).setCell ⟨gb245, 3, none⟩ (.int .i64 ((rd_T61 l0 x10_1).f3))).setCell ⟨gb245, 4, none⟩ (.int .i64 ((rd_T61 l0 x10_1).f4))).setCell ⟨gb245, 5, none⟩ (.int .i64 ((rd_T61 l0 x10_1).f5))).setCell ⟨gb245, 6, none⟩ (.int .i64 ((rd_T61 l0 x10_1).f6))).setCell ⟨gb245, 7, none⟩ (.int .i64 ((rd_T61 l0 x10_1).f7))).setCell ⟨gb245, 8, none⟩ (.int .i64 ((rd_T61 l0 x10_1).f8))).heap[gb245]? = some (.cells #[.string ((rd_T61 l0 x10_1).f0), .int .i64 ((rd_T61 l0 x10_1).f1), .int .i64 ((rd_T61 l0 x10_1).f2), .int .i64 ((rd_T61 l0 x10_1).f3), .int .i64 ((rd_T61 l0 x10_1).f4), .int .i64 ((rd_T61 l0 x10_1).f5), .int .i64 ((rd_T61 l0 x10_1).f6), .int .i64 ((rd_T61 l0 x10_1).f7), .int .i64 ((rd_T61 l0 x10_1).f8)] 61 (0, 0))) := ⟨(Zao BK245)⟩; have n1_ : Aside0 (Below w.heap.size w (((((((((w13.setCell ⟨gb245, 0, none⟩ (.string ((rd_T61 l0 x10_1).f0))).setCell ⟨gb245, 1, none⟩ (.int .i64 ((rd_T61 l0 x10_1).f1))).setCell ⟨gb245, 2, none⟩ (.int .i64 ((rd_T61 l0 x10_1).f2))).setCell ⟨gb245, 3, none⟩ (.int .i64 ((rd_T61 l0 x10_1).f3))).setCell ⟨gb245, 4, none⟩ (.int .i64 ((rd_T61 l0 x10_1).f4))).setCell ⟨gb245, 5, none⟩ (.int .i64 ((rd_T61 l0 x10_1).f5))).setCell ⟨gb245, 6, none⟩ (.int .i64 ((rd_T61 l0 x10_1).f6))).setCell ⟨gb245, 7, none⟩ (.int .i64 ((rd_T61 l0 x10_1).f7))).setCell ⟨gb245, 8, none⟩ (.int .i64 ((rd_T61 l0 x10_1).f8)))) := ⟨(Zf GE245)⟩
           (try clear BK245)
           (try clear HB)
           generalize (((((((((w13.setCell ⟨gb245, 0, none⟩ (.string ((rd_T61 l0 x10_1).f0))).setCell ⟨gb245, 1, none⟩ (.int .i64 ((rd_T61 l0 x10_1).f1))).setCell ⟨gb245, 2, none⟩ (.int .i64 ((rd_T61 l0 x10_1).f2))).setCell ⟨gb245, 3, none⟩ (.int .i64 ((rd_T61 l0 x10_1).f3))).setCell ⟨gb245, 4, none⟩ (.int .i64 ((rd_T61 l0 x10_1).f4))).setCell ⟨gb245, 5, none⟩ (.int .i64 ((rd_T61 l0 x10_1).f5))).setCell ⟨gb245, 6, none⟩ (.int .i64 ((rd_T61 l0 x10_1).f6))).setCell ⟨gb245, 7, none⟩ (.int .i64 ((rd_T61 l0 x10_1).f7))).setCell ⟨gb245, 8, none⟩ (.int .i64 ((rd_T61 l0 x10_1).f8))) = w15 at n0_ n1_ ⊢; have BK245 := n0_; have HB := n1_; clear n0_ n1_; replace BK245 := am_ (blk_drew BK245.out); replace HB := am_ (below_drew1 HB.out); have p247 : 0 ≤ ((ji9) : Int) := of_decide_eq_true Zn; have q247 : (ji9) < (l0.length : Int) := of_decide_eq_true Zn; obtain ⟨ad247, e247, hx247_0, hx247_1, hx247_2, hx247_3, hx247_4, hx247_5, hx247_6, hx247_7, hx247_8⟩ := at_T61 HR0.out (ji9) p247 q247; have hw247_8 := hx247_8; have hw247_7 := hx247_7; have hw247_6 := hx247_6; have hw247_5 := hx247_5; have hw247_4 := hx247_4; have hw247_3 := hx247_3; have hw247_2 := hx247_2; have hw247_1 := hx247_1; have hw247_0 := hx247_0; obtain rfl : ad244 = ad247 := (by injection e247); replace hx247_0 := cbH HB hx247_0; replace hx247_1 := cbH HB hx247_1; replace hx247_2 := cbH HB hx247_2; replace hx247_3 := cbH HB hx247_3; replace hx247_4 := cbH HB hx247_4; replace hx247_5 := cbH HB hx247_5; replace hx247_6 := cbH HB hx247_6; replace hx247_7 := cbH HB hx247_7; replace hx247_8 := cbH HB hx247_8; replace p247 := eq_true p247; replace q247 := eq_true q247; refine start_ (n := 18) (S := fun w' => w'.cell? ⟨gb245, 0, none⟩ = some (.string ((rd_T61 l0 x10_1).f0)) ∧ w'.cell? ⟨gb245, 1, none⟩ = some (.int .i64 ((rd_T61 l0 x10_1).f1)) ∧ w'.cell? ⟨gb245, 2, none⟩ = some (.int .i64 ((rd_T61 l0 x10_1).f2)) ∧ w'.cell? ⟨gb245, 3, none⟩ = some (.int .i64 ((rd_T61 l0 x10_1).f3)) ∧ w'.cell? ⟨gb245, 4, none⟩ = some (.int .i64 ((rd_T61 l0 x10_1).f4)) ∧ w'.cell? ⟨gb245, 5, none⟩ = some (.int .i64 ((rd_T61 l0 x10_1).f5)) ∧ w'.cell? ⟨gb245, 6, none⟩ = some (.int .i64 ((rd_T61 l0 x10_1).f6)) ∧ w'.cell? ⟨gb245, 7, none⟩ = some (.int .i64 ((rd_T61 l0 x10_1).f7)) ∧ w'.cell? ⟨gb245, 8, none⟩ = some (.int .i64 ((rd_T61 l0 x10_1).f8)) ∧ w'.cell? (ad244.add (((ji9)).toNat * 9)) = some (.string ((rd_T61 l0 (ji9)).f0)) ∧ w'.cell? ⟨(ad244.add (((ji9)).toNat * 9)).block, (ad244.add (((ji9)).toNat * 9)).off + 1, none⟩ = some (.int .i64 ((rd_T61 l0 (ji9)).f1)) ∧ w'.cell? ⟨(ad244.add (((ji9)).toNat * 9)).block, (ad244.add (((ji9)).toNat * 9)).off + 2, none⟩ = some (.int .i64 ((rd_T61 l0 (ji9)).f2)) ∧ w'.cell? ⟨(ad244.add (((ji9)).toNat * 9)).block, (ad244.add (((ji9)).toNat * 9)).off + 3, none⟩ = some (.int .i64 ((rd_T61 l0 (ji9)).f3)) ∧ w'.cell? ⟨(ad244.add (((ji9)).toNat * 9)).block, (ad244.add (((ji9)).toNat * 9)).off + 4, none⟩ = some (.int .i64 ((rd_T61 l0 (ji9)).f4)) ∧ w'.cell? ⟨(ad244.add (((ji9)).toNat * 9)).block, (ad244.add (((ji9)).toNat * 9)).off + 5, none⟩ = some (.int .i64 ((rd_T61 l0 (ji9)).f5)) ∧ w'.cell? ⟨(ad244.add (((ji9)).toNat * 9)).block, (ad244.add (((ji9)).toNat * 9)).off + 6, none⟩ = some (.int .i64 ((rd_T61 l0 (ji9)).f6)) ∧ w'.cell? ⟨(ad244.add (((ji9)).toNat * 9)).block, (ad244.add (((ji9)).toNat * 9)).off + 7, none⟩ = some (.int .i64 ((rd_T61 l0 (ji9)).f7)) ∧ w'.cell? ⟨(ad244.add (((ji9)).toNat * 9)).block, (ad244.add (((ji9)).toNat * 9)).off + 8, none⟩ = some (.int .i64 ((rd_T61 l0 (ji9)).f8))) (ds := []) (bT 18 0) Zi rfl rfl ⟨(blk_cell BK245.out 0).trans rfl, (blk_cell BK245.out 1).trans rfl, (blk_cell BK245.out 2).trans rfl, (blk_cell BK245.out 3).trans rfl, (blk_cell BK245.out 4).trans rfl, (blk_cell BK245.out 5).trans rfl, (blk_cell BK245.out 6).trans rfl, (blk_cell BK245.out 7).trans rfl, (blk_cell BK245.out 8).trans rfl, (cbH HB hw247_0 :), (cbH HB hw247_1 :), (cbH HB hw247_2 :), (cbH HB hw247_3 :), (cbH HB hw247_4 :), (cbH HB hw247_5 :), (cbH HB hw247_6 :), (cbH HB hw247_7 :), (cbH HB hw247_8 :)⟩ (fun hHeld => ?_); refine with_tabW impl_AreArticles.tab6 impl_AreArticles.bits6 (fun HT_ HW_ => ?_)
           generalize w15.drew = w16 at BK245 HB hx247_0 hx247_1 hx247_2 hx247_3 hx247_4 hx247_5 hx247_6 hx247_7 hx247_8 hHeld ⊢; refine takeZ18 HT_ HW_ 0 (some 15) (bT 18 1) hHeld ?_; refine one_ (i := 1) (N := some 16) (bT 18 2) rfl rfl (one_of HT_.out Zi) (by decide) (fun K hK => ?_); refine goes_ Try.func101 Zi rfl #[.agg #[.string ((rd_T61 l0 x10_1).f0), .int .i64 ((rd_T61 l0 x10_1).f1), .int .i64 ((rd_T61 l0 x10_1).f2), .int .i64 ((rd_T61 l0 x10_1).f3), .int .i64 ((rd_T61 l0 x10_1).f4), .int .i64 ((rd_T61 l0 x10_1).f5), .int .i64 ((rd_T61 l0 x10_1).f6), .int .i64 ((rd_T61 l0 x10_1).f7), .int .i64 ((rd_T61 l0 x10_1).f8)]] (by rfl) rfl rfl Zr ?_
           with_reducible refine (impl_IsArticle.calls k1 ((rd_T61 l0 x10_1).f0) ((rd_T61 l0 x10_1).f1) ((rd_T61 l0 x10_1).f2) ((rd_T61 l0 x10_1).f3) ((rd_T61 l0 x10_1).f4) ((rd_T61 l0 x10_1).f5) ((rd_T61 l0 x10_1).f6) ((rd_T61 l0 x10_1).f7) ((rd_T61 l0 x10_1).f8) true _ A6.out).mono ?_
           rintro e w17 ⟨rfl, hb⟩; refine ⟨_, rfl, ?_⟩; replace BK245 := (bkZ BK245 hb); replace HB := (bsZ (Zf GE245) hb)
           (try clear hb)
           (try clear hb2)
           (try clear hk)
           (try clear hi)
           refine hK.out _ _ (by exact ⟨(blk_cell BK245.out 0).trans rfl, (blk_cell BK245.out 1).trans rfl, (blk_cell BK245.out 2).trans rfl, (blk_cell BK245.out 3).trans rfl, (blk_cell BK245.out 4).trans rfl, (blk_cell BK245.out 5).trans rfl, (blk_cell BK245.out 6).trans rfl, (blk_cell BK245.out 7).trans rfl, (blk_cell BK245.out 8).trans rfl, (cbH HB hw247_0 :), (cbH HB hw247_1 :), (cbH HB hw247_2 :), (cbH HB hw247_3 :), (cbH HB hw247_4 :), (cbH HB hw247_5 :), (cbH HB hw247_6 :), (cbH HB hw247_7 :), (cbH HB hw247_8 :)⟩) (fun hHeld => ?_); clear hK K; refine normZ 16 ?_; refine pureZ HT_ 2 (some 17) (bT 18 3) ?_; refine pureZ HT_ 3 (some 18) (bT 18 4) ?_; refine pureZ HT_ 4 (some 19) (bT 18 5) ?_; refine pureZ HT_ 5 (some 20) (bT 18 6) ?_; refine pureZ HT_ 6 (some 21) (bT 18 7) ?_; refine pureZ HT_ 7 (some 22) (bT 18 8) ?_; refine pureZ HT_ 8 (some 23) (bT 18 9) ?_; refine pureZ HT_ 9 (some 24) (bT 18 10) ?_; refine pureZ HT_ 10 (some 25) (bT 18 11) ?_; refine pureZ HT_ 11 (some 26) (bT 18 12) ?_; refine pureZ HT_ 13 (some 28) (bB 18 12287) ?_; refine takeZ18 HT_ HW_ 12 (some 27) (bT 18 14) hHeld ?_; refine takeZ18 HT_ HW_ 14 (some 29) (bT 18 15) hHeld ?_; refine pureZ HT_ 15 (some 30) (bT 18 16) ?_; refine pureZ HT_ 16 (some 31) (bT 18 17) ?_; refine pureZ HT_ 17 (some 32) (bT 18 18) ?_; refine done_ (done_of HT_.out Zi) ?_
           by_cases c12 : ((Op.bytesLess (((rd_T61 l0 (ji9)).f0).toList) (((rd_T61 l0 x10_1).f0).toList)) = true)
           ·have H := HS_.out
            clear HS_; rw [if_pos c12] at H; have c12b0 : (Op.bytesLess (((rd_T61 l0 (ji9)).f0).toList) (((rd_T61 l0 x10_1).f0).toList)) = true := c12; clear c12; have H' := am_ H; clear H
            (try simp only [c12b0, Bool.not_true, Bool.not_false])
            try go_wp2
            go_roundg k1
            case measure => have := HK1.out; omega
            case rel => exact ⟨(wrap64 (x10_1 + 1)), Za, H', ⟨Zs⟩, ⟨(Zf GE245)⟩⟩
           ·have H := HS_.out
            clear HS_; rw [if_neg c12] at H
            have c12b0 : (Op.bytesLess (((rd_T61 l0 (ji9)).f0).toList) (((rd_T61 l0 x10_1).f0).toList)) = false := by simpa using c12
            clear c12; obtain rfl := Option.some.inj H
            (try simp only [c12b0, Bool.not_true, Bool.not_false])
            try go_wp2
            go_ret
            exact ⟨by first | rfl | (simp [errW_none, errW_some] <;> rfl) | (simp only [← hji9]; first | rfl | (simp [errW_none, errW_some] <;> rfl)) | (simp [*, errW_none, errW_some] <;> rfl), (Zf GE245)⟩
          ·rw [if_neg c11] at H
           exact absurd H (by simp)
         ·rw [if_neg c10] at H
          exact absurd H (by simp)
        ·rw [if_neg c8] at H
         have c8b0 : decide (0 < x10_1) = false := decide_eq_false c8; clear c8; have H' := am_ H; clear H; have p244 : 0 ≤ (x10_1 : Int) := of_decide_eq_true Zn; have q244 : x10_1 < (l0.length : Int) := of_decide_eq_true Zn; obtain ⟨ad244, e244, hx244_0, hx244_1, hx244_2, hx244_3, hx244_4, hx244_5, hx244_6, hx244_7, hx244_8⟩ := at_T61 HR0.out x10_1 p244 q244
         cases e244
         replace hx244_0 := cbH HB hx244_0; replace hx244_1 := cbH HB hx244_1; replace hx244_2 := cbH HB hx244_2; replace hx244_3 := cbH HB hx244_3; replace hx244_4 := cbH HB hx244_4; replace hx244_5 := cbH HB hx244_5; replace hx244_6 := cbH HB hx244_6; replace hx244_7 := cbH HB hx244_7; replace hx244_8 := cbH HB hx244_8; replace p244 := eq_true p244; replace q244 := eq_true q244
         try go_wp2_with (first | ((with_reducible refine gate_dst (N := 4) rfl ?_); refine boxZ 4 #[.string (⟨#[]⟩ : ByteArray), .int .i64 0, .int .i64 0, .int .i64 0, .int .i64 0, .int .i64 0, .int .i64 0, .int .i64 0, .int .i64 0] 61 ?_; intro gb245 hg w23 hbox hb; replace BK245 := am_ (hbox); replace GW245 := am_ ((Zc : w.heap.size ≤ gb245)); replace GE245 := GW245; replace HB := (bsZ Zd hb); clear hb hbox hg; refine ci9 BK245 ?_; intros))
         have n0_ : Aside0 ((((((((((w23.setCell ⟨gb245, 0, none⟩ (.string ((rd_T61 l0 x10_1).f0))).setCell ⟨gb245, 1, none⟩ (.int .i64 ((rd_T61 l0 x10_1).f1))).setCell ⟨gb245, 2, none⟩ (.int .i64 ((rd_T61 l0 x10_1).f2))).setCell ⟨gb245, 3, none⟩ (.int .i64 ((rd_T61 l0 x10_1).f3))).setCell ⟨gb245, 4, none⟩ (.int .i64 ((rd_T61 l0 x10_1).f4))).setCell ⟨gb245, 5, none⟩ (.int .i64 ((rd_T61 l0 x10_1).f5))).setCell ⟨gb245, 6, none⟩ (.int .i64 ((rd_T61 l0 x10_1).f6))).setCell ⟨gb245, 7, none⟩ (.int .i64 ((rd_T61 l0 x10_1).f7))).setCell ⟨gb245, 8, none⟩ (.int .i64 ((rd_T61 l0 x10_1).f8))).heap[gb245]? = some (.cells #[.string ((rd_T61 l0 x10_1).f0), .int .i64 ((rd_T61 l0 x10_1).f1), .int .i64 ((rd_T61 l0 x10_1).f2), .int .i64 ((rd_T61 l0 x10_1).f3), .int .i64 ((rd_T61 l0 x10_1).f4), .int .i64 ((rd_T61 l0 x10_1).f5), .int .i64 ((rd_T61 l0 x10_1).f6), .int .i64 ((rd_T61 l0 x10_1).f7), .int .i64 ((rd_T61 l0 x10_1).f8)] 61 (0, 0))) := ⟨(Zao BK245)⟩; have n1_ : Aside0 (Below w.heap.size w (((((((((w23.setCell ⟨gb245, 0, none⟩ (.string ((rd_T61 l0 x10_1).f0))).setCell ⟨gb245, 1, none⟩ (.int .i64 ((rd_T61 l0 x10_1).f1))).setCell ⟨gb245, 2, none⟩ (.int .i64 ((rd_T61 l0 x10_1).f2))).setCell ⟨gb245, 3, none⟩ (.int .i64 ((rd_T61 l0 x10_1).f3))).setCell ⟨gb245, 4, none⟩ (.int .i64 ((rd_T61 l0 x10_1).f4))).setCell ⟨gb245, 5, none⟩ (.int .i64 ((rd_T61 l0 x10_1).f5))).setCell ⟨gb245, 6, none⟩ (.int .i64 ((rd_T61 l0 x10_1).f6))).setCell ⟨gb245, 7, none⟩ (.int .i64 ((rd_T61 l0 x10_1).f7))).setCell ⟨gb245, 8, none⟩ (.int .i64 ((rd_T61 l0 x10_1).f8)))) := ⟨(Zf GE245)⟩
         (try clear BK245)
         (try clear HB)
         generalize (((((((((w23.setCell ⟨gb245, 0, none⟩ (.string ((rd_T61 l0 x10_1).f0))).setCell ⟨gb245, 1, none⟩ (.int .i64 ((rd_T61 l0 x10_1).f1))).setCell ⟨gb245, 2, none⟩ (.int .i64 ((rd_T61 l0 x10_1).f2))).setCell ⟨gb245, 3, none⟩ (.int .i64 ((rd_T61 l0 x10_1).f3))).setCell ⟨gb245, 4, none⟩ (.int .i64 ((rd_T61 l0 x10_1).f4))).setCell ⟨gb245, 5, none⟩ (.int .i64 ((rd_T61 l0 x10_1).f5))).setCell ⟨gb245, 6, none⟩ (.int .i64 ((rd_T61 l0 x10_1).f6))).setCell ⟨gb245, 7, none⟩ (.int .i64 ((rd_T61 l0 x10_1).f7))).setCell ⟨gb245, 8, none⟩ (.int .i64 ((rd_T61 l0 x10_1).f8))) = w25 at n0_ n1_ ⊢; have BK245 := n0_; have HB := n1_; clear n0_ n1_; replace BK245 := am_ (blk_drew BK245.out); replace HB := am_ (below_drew1 HB.out); refine start_ (n := 18) (S := fun w' => w'.cell? ⟨gb245, 0, none⟩ = some (.string ((rd_T61 l0 x10_1).f0)) ∧ w'.cell? ⟨gb245, 1, none⟩ = some (.int .i64 ((rd_T61 l0 x10_1).f1)) ∧ w'.cell? ⟨gb245, 2, none⟩ = some (.int .i64 ((rd_T61 l0 x10_1).f2)) ∧ w'.cell? ⟨gb245, 3, none⟩ = some (.int .i64 ((rd_T61 l0 x10_1).f3)) ∧ w'.cell? ⟨gb245, 4, none⟩ = some (.int .i64 ((rd_T61 l0 x10_1).f4)) ∧ w'.cell? ⟨gb245, 5, none⟩ = some (.int .i64 ((rd_T61 l0 x10_1).f5)) ∧ w'.cell? ⟨gb245, 6, none⟩ = some (.int .i64 ((rd_T61 l0 x10_1).f6)) ∧ w'.cell? ⟨gb245, 7, none⟩ = some (.int .i64 ((rd_T61 l0 x10_1).f7)) ∧ w'.cell? ⟨gb245, 8, none⟩ = some (.int .i64 ((rd_T61 l0 x10_1).f8))) (ds := []) (bT 18 0) Zi rfl rfl ⟨(blk_cell BK245.out 0).trans rfl, (blk_cell BK245.out 1).trans rfl, (blk_cell BK245.out 2).trans rfl, (blk_cell BK245.out 3).trans rfl, (blk_cell BK245.out 4).trans rfl, (blk_cell BK245.out 5).trans rfl, (blk_cell BK245.out 6).trans rfl, (blk_cell BK245.out 7).trans rfl, (blk_cell BK245.out 8).trans rfl⟩ (fun hHeld => ?_); refine with_tabW impl_AreArticles.tab6 impl_AreArticles.bits6 (fun HT_ HW_ => ?_); generalize w25.drew = w26 at BK245 HB hHeld ⊢; refine takeZ9 HT_ HW_ 0 (some 15) (bT 18 1) hHeld ?_; refine one_ (i := 1) (N := some 16) (bT 18 2) rfl rfl (one_of HT_.out Zi) (by decide) (fun K hK => ?_); refine goes_ Try.func101 Zi rfl #[.agg #[.string ((rd_T61 l0 x10_1).f0), .int .i64 ((rd_T61 l0 x10_1).f1), .int .i64 ((rd_T61 l0 x10_1).f2), .int .i64 ((rd_T61 l0 x10_1).f3), .int .i64 ((rd_T61 l0 x10_1).f4), .int .i64 ((rd_T61 l0 x10_1).f5), .int .i64 ((rd_T61 l0 x10_1).f6), .int .i64 ((rd_T61 l0 x10_1).f7), .int .i64 ((rd_T61 l0 x10_1).f8)]] (by rfl) rfl rfl Zr ?_
         with_reducible refine (impl_IsArticle.calls k1 ((rd_T61 l0 x10_1).f0) ((rd_T61 l0 x10_1).f1) ((rd_T61 l0 x10_1).f2) ((rd_T61 l0 x10_1).f3) ((rd_T61 l0 x10_1).f4) ((rd_T61 l0 x10_1).f5) ((rd_T61 l0 x10_1).f6) ((rd_T61 l0 x10_1).f7) ((rd_T61 l0 x10_1).f8) true _ A6.out).mono ?_
         rintro e w27 ⟨rfl, hb⟩; refine ⟨_, rfl, ?_⟩; replace BK245 := (bkZ BK245 hb); replace HB := (bsZ (Zf GE245) hb)
         (try clear hb)
         (try clear hb2)
         (try clear hk)
         (try clear hi)
         refine hK.out _ _ (Zap BK245) (fun hHeld => ?_); clear hK K; refine normZ 16 ?_; refine pureZ HT_ 2 (some 17) (bT 18 3) ?_; refine pureZ HT_ 3 (some 18) (bT 18 4) ?_; refine pureZ HT_ 4 (some 19) (bT 18 5) ?_; refine pureZ HT_ 5 (some 20) (bT 18 6) ?_; refine pureZ HT_ 6 (some 21) (bT 18 7) ?_; refine pureU HT_ 7 (some 22) (bT 18 8) ?_; refine pureU HT_ 8 (some 23) (bT 18 9) ?_; refine pureU HT_ 9 (some 24) (bT 18 10) ?_; refine pureU HT_ 10 (some 25) (bT 18 11) ?_; refine pureU HT_ 11 (some 26) (bT 18 12) ?_; refine pureU HT_ 12 (some 27) (bT 18 13) ?_; refine pureU HT_ 13 (some 28) (bT 18 14) ?_; refine pureU HT_ 14 (some 29) (bT 18 15) ?_; refine pureU HT_ 15 (some 30) (bT 18 16) ?_; refine pureZ HT_ 16 (some 31) (bT 18 17) ?_; refine pureZ HT_ 17 (some 32) (bT 18 18) ?_; refine done_ (done_of HT_.out Zi) ?_
         try go_wp2
         go_roundg k1
         case measure => have := HK1.out; omega
         case rel => exact ⟨(wrap64 (x10_1 + 1)), Za, H', ⟨Zs⟩, ⟨(Zf GE245)⟩⟩
       ·replace c7 := Bool.eq_false_iff.mpr c7
        subst c7; rw [if_neg (show ¬ (false = true) by decide)] at H; obtain rfl := Option.some.inj H; have p244 : 0 ≤ (x10_1 : Int) := of_decide_eq_true Zn; have q244 : x10_1 < (l0.length : Int) := of_decide_eq_true Zn; obtain ⟨ad244, e244, hx244_0, hx244_1, hx244_2, hx244_3, hx244_4, hx244_5, hx244_6, hx244_7, hx244_8⟩ := at_T61 HR0.out x10_1 p244 q244
        cases e244
        replace hx244_0 := cbH HB hx244_0; replace hx244_1 := cbH HB hx244_1; replace hx244_2 := cbH HB hx244_2; replace hx244_3 := cbH HB hx244_3; replace hx244_4 := cbH HB hx244_4; replace hx244_5 := cbH HB hx244_5; replace hx244_6 := cbH HB hx244_6; replace hx244_7 := cbH HB hx244_7; replace hx244_8 := cbH HB hx244_8; replace p244 := eq_true p244; replace q244 := eq_true q244
        try go_wp2_with (first | ((with_reducible refine gate_dst (N := 4) rfl ?_); refine boxZ 4 #[.string (⟨#[]⟩ : ByteArray), .int .i64 0, .int .i64 0, .int .i64 0, .int .i64 0, .int .i64 0, .int .i64 0, .int .i64 0, .int .i64 0] 61 ?_; intro gb245 hg w28 hbox hb; replace BK245 := am_ (hbox); replace GW245 := am_ ((Zc : w.heap.size ≤ gb245)); replace GE245 := GW245; replace HB := (bsZ Zd hb); clear hb hbox hg; refine ci9 BK245 ?_; intros))
        have n0_ : Aside0 ((((((((((w28.setCell ⟨gb245, 0, none⟩ (.string ((rd_T61 l0 x10_1).f0))).setCell ⟨gb245, 1, none⟩ (.int .i64 ((rd_T61 l0 x10_1).f1))).setCell ⟨gb245, 2, none⟩ (.int .i64 ((rd_T61 l0 x10_1).f2))).setCell ⟨gb245, 3, none⟩ (.int .i64 ((rd_T61 l0 x10_1).f3))).setCell ⟨gb245, 4, none⟩ (.int .i64 ((rd_T61 l0 x10_1).f4))).setCell ⟨gb245, 5, none⟩ (.int .i64 ((rd_T61 l0 x10_1).f5))).setCell ⟨gb245, 6, none⟩ (.int .i64 ((rd_T61 l0 x10_1).f6))).setCell ⟨gb245, 7, none⟩ (.int .i64 ((rd_T61 l0 x10_1).f7))).setCell ⟨gb245, 8, none⟩ (.int .i64 ((rd_T61 l0 x10_1).f8))).heap[gb245]? = some (.cells #[.string ((rd_T61 l0 x10_1).f0), .int .i64 ((rd_T61 l0 x10_1).f1), .int .i64 ((rd_T61 l0 x10_1).f2), .int .i64 ((rd_T61 l0 x10_1).f3), .int .i64 ((rd_T61 l0 x10_1).f4), .int .i64 ((rd_T61 l0 x10_1).f5), .int .i64 ((rd_T61 l0 x10_1).f6), .int .i64 ((rd_T61 l0 x10_1).f7), .int .i64 ((rd_T61 l0 x10_1).f8)] 61 (0, 0))) := ⟨(Zao BK245)⟩; have n1_ : Aside0 (Below w.heap.size w (((((((((w28.setCell ⟨gb245, 0, none⟩ (.string ((rd_T61 l0 x10_1).f0))).setCell ⟨gb245, 1, none⟩ (.int .i64 ((rd_T61 l0 x10_1).f1))).setCell ⟨gb245, 2, none⟩ (.int .i64 ((rd_T61 l0 x10_1).f2))).setCell ⟨gb245, 3, none⟩ (.int .i64 ((rd_T61 l0 x10_1).f3))).setCell ⟨gb245, 4, none⟩ (.int .i64 ((rd_T61 l0 x10_1).f4))).setCell ⟨gb245, 5, none⟩ (.int .i64 ((rd_T61 l0 x10_1).f5))).setCell ⟨gb245, 6, none⟩ (.int .i64 ((rd_T61 l0 x10_1).f6))).setCell ⟨gb245, 7, none⟩ (.int .i64 ((rd_T61 l0 x10_1).f7))).setCell ⟨gb245, 8, none⟩ (.int .i64 ((rd_T61 l0 x10_1).f8)))) := ⟨(Zf GE245)⟩
        (try clear BK245)
        (try clear HB)
        generalize (((((((((w28.setCell ⟨gb245, 0, none⟩ (.string ((rd_T61 l0 x10_1).f0))).setCell ⟨gb245, 1, none⟩ (.int .i64 ((rd_T61 l0 x10_1).f1))).setCell ⟨gb245, 2, none⟩ (.int .i64 ((rd_T61 l0 x10_1).f2))).setCell ⟨gb245, 3, none⟩ (.int .i64 ((rd_T61 l0 x10_1).f3))).setCell ⟨gb245, 4, none⟩ (.int .i64 ((rd_T61 l0 x10_1).f4))).setCell ⟨gb245, 5, none⟩ (.int .i64 ((rd_T61 l0 x10_1).f5))).setCell ⟨gb245, 6, none⟩ (.int .i64 ((rd_T61 l0 x10_1).f6))).setCell ⟨gb245, 7, none⟩ (.int .i64 ((rd_T61 l0 x10_1).f7))).setCell ⟨gb245, 8, none⟩ (.int .i64 ((rd_T61 l0 x10_1).f8))) = w30 at n0_ n1_ ⊢; have BK245 := n0_; have HB := n1_; clear n0_ n1_; replace BK245 := am_ (blk_drew BK245.out); replace HB := am_ (below_drew1 HB.out); refine start_ (n := 18) (S := fun w' => w'.cell? ⟨gb245, 0, none⟩ = some (.string ((rd_T61 l0 x10_1).f0)) ∧ w'.cell? ⟨gb245, 1, none⟩ = some (.int .i64 ((rd_T61 l0 x10_1).f1)) ∧ w'.cell? ⟨gb245, 2, none⟩ = some (.int .i64 ((rd_T61 l0 x10_1).f2)) ∧ w'.cell? ⟨gb245, 3, none⟩ = some (.int .i64 ((rd_T61 l0 x10_1).f3)) ∧ w'.cell? ⟨gb245, 4, none⟩ = some (.int .i64 ((rd_T61 l0 x10_1).f4)) ∧ w'.cell? ⟨gb245, 5, none⟩ = some (.int .i64 ((rd_T61 l0 x10_1).f5)) ∧ w'.cell? ⟨gb245, 6, none⟩ = some (.int .i64 ((rd_T61 l0 x10_1).f6)) ∧ w'.cell? ⟨gb245, 7, none⟩ = some (.int .i64 ((rd_T61 l0 x10_1).f7)) ∧ w'.cell? ⟨gb245, 8, none⟩ = some (.int .i64 ((rd_T61 l0 x10_1).f8))) (ds := []) (bT 18 0) Zi rfl rfl ⟨(blk_cell BK245.out 0).trans rfl, (blk_cell BK245.out 1).trans rfl, (blk_cell BK245.out 2).trans rfl, (blk_cell BK245.out 3).trans rfl, (blk_cell BK245.out 4).trans rfl, (blk_cell BK245.out 5).trans rfl, (blk_cell BK245.out 6).trans rfl, (blk_cell BK245.out 7).trans rfl, (blk_cell BK245.out 8).trans rfl⟩ (fun hHeld => ?_); refine with_tabW impl_AreArticles.tab6 impl_AreArticles.bits6 (fun HT_ HW_ => ?_); generalize w30.drew = w31 at BK245 HB hHeld ⊢; refine takeZ9 HT_ HW_ 0 (some 15) (bT 18 1) hHeld ?_; refine one_ (i := 1) (N := some 16) (bT 18 2) rfl rfl (one_of HT_.out Zi) (by decide) (fun K hK => ?_); refine goes_ Try.func101 Zi rfl #[.agg #[.string ((rd_T61 l0 x10_1).f0), .int .i64 ((rd_T61 l0 x10_1).f1), .int .i64 ((rd_T61 l0 x10_1).f2), .int .i64 ((rd_T61 l0 x10_1).f3), .int .i64 ((rd_T61 l0 x10_1).f4), .int .i64 ((rd_T61 l0 x10_1).f5), .int .i64 ((rd_T61 l0 x10_1).f6), .int .i64 ((rd_T61 l0 x10_1).f7), .int .i64 ((rd_T61 l0 x10_1).f8)]] (by rfl) rfl rfl Zr ?_
        with_reducible refine (impl_IsArticle.calls k1 ((rd_T61 l0 x10_1).f0) ((rd_T61 l0 x10_1).f1) ((rd_T61 l0 x10_1).f2) ((rd_T61 l0 x10_1).f3) ((rd_T61 l0 x10_1).f4) ((rd_T61 l0 x10_1).f5) ((rd_T61 l0 x10_1).f6) ((rd_T61 l0 x10_1).f7) ((rd_T61 l0 x10_1).f8) false _ A6.out).mono ?_
        rintro e w32 ⟨rfl, hb⟩; refine ⟨_, rfl, ?_⟩; replace BK245 := (bkZ BK245 hb); replace HB := (bsZ (Zf GE245) hb)
        (try clear hb)
        (try clear hb2)
        (try clear hk)
        (try clear hi)
        refine hK.out _ _ (Zap BK245) (fun hHeld => ?_); clear hK K; refine normZ 16 ?_; refine pureZ HT_ 2 (some 17) (bT 18 3) ?_; refine pureZ HT_ 3 (some 18) (bT 18 4) ?_; refine pureU HT_ 4 (some 19) (bT 18 5) ?_; refine pureU HT_ 5 (some 20) (bT 18 6) ?_; refine pureU HT_ 6 (some 21) (bT 18 7) ?_; refine pureU HT_ 7 (some 22) (bT 18 8) ?_; refine pureU HT_ 8 (some 23) (bT 18 9) ?_; refine pureU HT_ 9 (some 24) (bT 18 10) ?_; refine pureU HT_ 10 (some 25) (bT 18 11) ?_; refine pureU HT_ 11 (some 26) (bT 18 12) ?_; refine pureU HT_ 12 (some 27) (bT 18 13) ?_; refine pureU HT_ 13 (some 28) (bT 18 14) ?_; refine pureU HT_ 14 (some 29) (bT 18 15) ?_; refine pureU HT_ 15 (some 30) (bT 18 16) ?_; refine pureU HT_ 16 (some 31) (bT 18 17) ?_; refine pureZ HT_ 17 (some 32) (bT 18 18) ?_; refine done_ (done_of HT_.out Zi) ?_
        try go_wp2
        go_ret
        exact ⟨Zj, (Zf GE245)⟩
      ·rw [if_neg c5] at H
       exact absurd H (by simp)
     ·rw [if_neg c4] at H
      exact absurd H (by simp)
    ·rw [if_neg c3] at H
     have c3b0 := decide_eq_false c3; clear c3; obtain rfl := Option.some.inj H
     go_wp2
     go_ret
     exact ⟨Zj, Zd⟩
mutual
def impl_IsShow.j0 : Nat → Bool → List (S104) → List (S61) → List (S58) → Option (Bool)
 | 0, _, _, _, _ => none
 | k + 1, x20, x249000, x249001, x249002 => if x20 = true then (some false) else (impl_IsShow.l0 k x249002 (x249002.length : Int) 0 x249000 x249001 x249002)
def impl_IsShow.l0 : Nat → List (S58) → Int → Int → List (S104) → List (S61) → List (S58) → Option (Bool)
 | 0, _, _, _, _, _, _ => none
 | k + 1, x22, x23, x24, x249000, x249001, x249002 => if x24 < x23 then (if 0 ≤ x24 then (if x24 < (x22.length : Int) then ((impl_within.f ((rd_T58 x22 x24).f3) 0 11).bind fun t253 => (if t253 = true then ((impl_firedAt.f k x249000 x249001 x249002 ((rd_T58 x22 x24).f0) ((rd_T58 x22 x24).f1) ((rd_T58 x22 x24).f2) ((rd_T58 x22 x24).f3)).bind fun t254 => (if t254 < 0 then (some false) else (impl_IsShow.l0 k x22 x23 (wrap64 (x24 + 1)) x249000 x249001 x249002))) else (some false))) else (none)) else (none)) else (some true)
end
def impl_IsShow.f (k : Nat) (l0_0 : List (S104)) (l0_1 : List (S61)) (l0_2 : List (S58)) : Option (Bool) := (impl_IsScore.f k l0_0).bind fun t249 => (if t249 = true then ((impl_AreArticles.f k l0_1).bind fun t250 => (if t250 = true then (impl_IsShow.j0 k (decide ((l0_2.length : Int) > 20)) l0_0 l0_1 l0_2) else (impl_IsShow.j0 k true l0_0 l0_1 l0_2))) else (impl_IsShow.j0 k true l0_0 l0_1 l0_2))
set_option maxHeartbeats 8000000 in
set_option maxRecDepth 100000 in
theorem impl_IsShow.calls (k : Nat) (A0_0 : Option Addr) (c0_0 : Nat) (l0_0 : List (S104)) (A0_1 : Option Addr) (c0_1 : Nat) (l0_1 : List (S61)) (A0_2 : Option Addr) (c0_2 : Nat) (l0_2 : List (S58)) (r : Bool) (w : World) (hr0_0 : Kd.C k104 w A0_0 l0_0.length l0_0) (hc0_0 : l0_0.length ≤ c0_0) (hr0_1 : Kd.C k61 w A0_1 l0_1.length l0_1) (hc0_1 : l0_1.length ≤ c0_1) (hr0_2 : Kd.C k58 w A0_2 l0_2.length l0_2) (hc0_2 : l0_2.length ≤ c0_2) (h : impl_IsShow.f k l0_0 l0_1 l0_2 = some r) :
  Calls Try.prog 30 #[.agg #[.slice A0_0 l0_0.length c0_0, .slice A0_1 l0_1.length c0_1, .slice A0_2 l0_2.length c0_2]] w fun e w' => e = .returned (.bool r) ∧ Below w.heap.size w w' := by
 have hu35 := Try.underlying35; have hu58 := Try.underlying58; have HR0_0 := am_ hr0_0; have HC0_0 := am_ hc0_0; clear hr0_0 hc0_0; have HR0_1 := am_ hr0_1; have HC0_1 := am_ hc0_1; clear hr0_1 hc0_1; have HR0_2 := am_ hr0_2; have HC0_2 := am_ hc0_2; clear hr0_2 hc0_2; have HB := am_ (Below.refl w.heap.size w); have H : ((impl_IsScore.f k l0_0).bind fun t249 => (if t249 = true then ((impl_AreArticles.f k l0_1).bind fun t250 => (if t250 = true then (impl_IsShow.j0 k (decide ((l0_2.length : Int) > 20)) l0_0 l0_1 l0_2) else (impl_IsShow.j0 k true l0_0 l0_1 l0_2))) else (impl_IsShow.j0 k true l0_0 l0_1 l0_2))) = some r := h; clear h; have HC2 := am_ H; clear H
 go_enter Try.func30, Try.ntmps30
 go_upto_region 1 with (first | ((with_reducible refine gate_dst (N := 1) rfl ?_); (try (refine gate_guard (by rfl) ?_; dsimp only)); refine boxZ 1 #[.slice A0_0 l0_0.length c0_0, .slice A0_1 l0_1.length c0_1, .slice A0_2 l0_2.length c0_2] 35 ?_; intro gb248 hg w3 hbox hb; replace BK248 := am_ (hbox); replace GW248 := am_ ((Zc : w.heap.size ≤ gb248)); replace GE248 := GW248; replace HB := (bsZ Zd hb); clear hb hbox hg))
 (try simp only [Act.put, List.setIfInBounds_toArray, List.set_cons_zero, List.set_cons_succ])
 go_cut [20] (fun v20 wc => ∃ (kq : Nat) (x20_1 : Bool), v20 = .bool x20_1 ∧ Aside0 (impl_IsShow.j0 kq x20_1 l0_0 l0_1 l0_2 = some r) ∧ Aside0 (kq ≤ k) ∧ Aside0 (wc.heap[gb248]? = some (.cells #[(.slice A0_0 l0_0.length c0_0), (.slice A0_1 l0_1.length c0_1), (.slice A0_2 l0_2.length c0_2)] 35 (0, 0))) ∧ Aside0 (Below w.heap.size w wc))
 case first =>
  have H := HC2.out; clear HC2; replace H := Option.bind_eq_some_iff.mp H; obtain ⟨t249, A40, H⟩ := H; have A4 := am_ A40; clear A40; have HS_ := am_ H; clear H; refine ci3 BK248 ?_; intros
  go_wp2_with (first | ((with_reducible refine gate_callee (f := 73) rfl ?_); refine gZ 7 Try.func73 #[.slice A0_0 l0_0.length c0_0] ?_; (with_reducible refine (impl_IsScore.calls k _ _ l0_0 t249 _ ?_ ?_ A4.out).mono ?_); exact (Zz HR0_0); exact HC0_0.out; rintro e w9 ⟨rfl, hb⟩; refine ⟨_, rfl, ?_⟩; replace BK248 := (bkZ BK248 hb); replace HB := (bsZ (Zf GE248) hb); clear hb; refine ?roundEnd))
  case roundEnd =>
   by_cases c5 : t249 = true
   ·have H := HS_.out
    clear HS_; subst c5; rw [if_pos rfl] at H; replace H := Option.bind_eq_some_iff.mp H; obtain ⟨t250, A60, H⟩ := H; have A6 := am_ A60; clear A60; have HS_ := am_ H; clear H; refine ci3 BK248 ?_; intros
    go_wp2_with (first | (go_at_call 74; (with_reducible refine (impl_AreArticles.calls k _ _ l0_1 t250 _ ?_ ?_ A6.out).mono ?_); exact (Zz HR0_1); exact HC0_1.out; rintro e w11 ⟨rfl, hb⟩; replace BK248 := (bkZ BK248 hb); replace HB := (bsZ (Zf GE248) hb); clear hb; refine ?roundEnd))
    case roundEnd =>
     by_cases c7 : t250 = true
     ·have H := HS_.out
      clear HS_; subst c7; rw [if_pos rfl] at H; have H' := am_ H; clear H; refine ci3 BK248 ?_; intros
      go_wp2_with (first | fail)
      go_meet
      case rel => exact ⟨_, (decide ((l0_2.length : Int) > 20)), Za, H', ⟨Zl⟩, ⟨(Zah BK248)⟩, ⟨(Zf GE248)⟩⟩
     ·have H := HS_.out
      clear HS_; replace c7 := Bool.eq_false_iff.mpr c7; subst c7; rw [if_neg (show ¬ (false = true) by decide)] at H; have H' := am_ H; clear H
      go_wp2_with (first | fail)
      go_meet
      case rel => exact ⟨_, (true), Za, H', ⟨Zl⟩, ⟨(Zah BK248)⟩, ⟨(Zf GE248)⟩⟩
   ·have H := HS_.out
    clear HS_; replace c5 := Bool.eq_false_iff.mpr c5; subst c5; rw [if_neg (show ¬ (false = true) by decide)] at H; have H' := am_ H; clear H
    go_wp2_with (first | fail)
    go_meet
    case rel => exact ⟨_, (true), Za, H', ⟨Zl⟩, ⟨(Zah BK248)⟩, ⟨(Zf GE248)⟩⟩
 case rest =>
  clear HC2
  try clear p2
  try clear c3
  try clear c5
  try clear c7
  obtain ⟨kq, x20_1, rfl, HA, HJ1, BK248, HB⟩ := hcut
  cases kq with
  | zero => exact absurd HA.out (by simp [impl_IsShow.j0])
  | succ kj1 =>
   have H := HA.out; clear HA; simp only [impl_IsShow.j0] at H
   by_cases c19 : x20_1 = true
   ·subst c19
    rw [if_pos rfl] at H; obtain rfl := Option.some.inj H
    go_wp2
    go_ret
    exact ⟨Zj, (Zf GE248)⟩
   ·replace c19 := Bool.eq_false_iff.mpr c19
    subst c19; rw [if_neg (show ¬ (false = true) by decide)] at H; have H' := am_ H; clear H; refine ci3 BK248 ?_; intros
    go_wp2
    go_loopg [24] kj1 (fun kq v24 w' => ∃ (x24_2 : Int), v24 = .int .i64 x24_2 ∧ Aside0 (impl_IsShow.l0 kq l0_2 (l0_2.length : Int) x24_2 l0_0 l0_1 l0_2 = some r) ∧ Aside0 (kq ≤ kj1) ∧ Aside0 (w'.heap[gb248]? = some (.cells #[(.slice A0_0 l0_0.length c0_0), (.slice A0_1 l0_1.length c0_1), (.slice A0_2 l0_2.length c0_2)] 35 (0, 0))) ∧ Aside0 (Below w.heap.size w w'))
    case atStart => exact ⟨(0), Za, H', ⟨Nat.le_refl _⟩, ⟨(Zah BK248)⟩, ⟨(Zf GE248)⟩⟩
    case round =>
     clear H'
     try clear c1
     try clear p2
     try clear c3
     try clear c5
     try clear c7
     try clear c19
     try clear p2
     obtain ⟨x24_2, rfl, HA, HK2, BK248, HB⟩ := hrel
     cases gk with
     | zero => exact absurd HA.out (by simp [impl_IsShow.l0])
     | succ k2 =>
      have H := HA.out; clear HA; simp only [impl_IsShow.l0] at H
      by_cases c21 : x24_2 < (l0_2.length : Int)
      ·rw [if_pos c21] at H
       have c21b0 := decide_eq_true c21; clear c21
       by_cases c22 : 0 ≤ x24_2
       ·rw [if_pos c22] at H
        have c22b0 := decide_eq_true c22; clear c22
        by_cases c23 : x24_2 < (l0_2.length : Int)
        ·rw [if_pos c23] at H
         have c23b0 := decide_eq_true c23; clear c23; replace H := Option.bind_eq_some_iff.mp H; obtain ⟨t253, A240, H⟩ := H; have A24 := am_ A240; clear A240
         by_cases c25 : t253 = true
         ·subst c25
          rw [if_pos rfl] at H; replace H := Option.bind_eq_some_iff.mp H; obtain ⟨t254, A260, H⟩ := H; have A26 := am_ A260; clear A260; have HS_ := am_ H; clear H; have p251 : 0 ≤ (x24_2 : Int) := of_decide_eq_true Zn; have q251 : x24_2 < (l0_2.length : Int) := of_decide_eq_true Zn; obtain ⟨ad251, e251, hx251_0, hx251_1, hx251_2, hx251_3⟩ := at_T58 HR0_2.out x24_2 p251 q251
          cases e251
          replace hx251_0 := cbH HB hx251_0; replace hx251_1 := cbH HB hx251_1; replace hx251_2 := cbH HB hx251_2; replace hx251_3 := cbH HB hx251_3; replace p251 := eq_true p251; replace q251 := eq_true q251
          go_wp2_with (first | ((with_reducible refine gate_dst (N := 4) rfl ?_); (try (refine gate_guard (by rfl) ?_; dsimp only)); refine boxZ 4 #[.int .i64 0, .int .i64 0, .string (⟨#[]⟩ : ByteArray), .int .i64 0] 58 ?_; intro gb252 hg w28 hbox hb; replace BK252 := am_ (hbox); replace GW252 := am_ (((Ze GE248) : w.heap.size ≤ gb252)); replace GE252 := GW252; replace HB := (bsZ (Zf GE248) hb); replace NB248_252 := am_ ((by rw [hg]; exact Nat.ne_of_lt (blk_lt (g := gb248) (b0Z BK248)) : gb248 ≠ gb252)); replace NB252_248 := am_ ((by rw [hg]; exact Nat.ne_of_gt (blk_lt (g := gb248) (b0Z BK248)) : gb252 ≠ gb248)); replace BK248 := (bkZ BK248 hb); clear hb hbox hg; have hnb29 := NB252_248.out; have hnc29 := NB248_252.out; refine ci4 BK252 ?_; intros) | ((with_reducible refine gate_callee (f := 58) rfl ?_); refine gZ 30 Try.func58 #[.int .i64 ((rd_T58 l0_2 x24_2).f3), .int .i64 0, .int .i64 11] ?_; (with_reducible refine (impl_within.calls ((rd_T58 l0_2 x24_2).f3) 0 11 true _ A24.out).mono ?_); rintro e w' ⟨rfl, ⟨nd, rfl⟩⟩; refine ⟨_, rfl, ?_⟩; refine ci3 BK248 ?_; intros) | (go_at_call 67; (with_reducible refine (impl_firedAt.calls k2 _ _ l0_0 _ _ l0_1 _ _ l0_2 ((rd_T58 l0_2 x24_2).f0) ((rd_T58 l0_2 x24_2).f1) ((rd_T58 l0_2 x24_2).f2) ((rd_T58 l0_2 x24_2).f3) t254 _ ?_ ?_ ?_ ?_ ?_ ?_ A26.out).mono ?_); exact Kd.C_below HR0_0.out (Zh GE248 GE252); exact HC0_0.out; exact Kd.C_below HR0_1.out (Zh GE248 GE252); exact HC0_1.out; exact Kd.C_below HR0_2.out (Zh GE248 GE252); exact HC0_2.out; rintro e w32 ⟨rfl, hb⟩; replace BK248 := am_ (blk_below (g := gb248) (bfZ BK248 NB248_252) hb); replace BK252 := am_ (blk_below (g := gb252) (o := .cells #[.int .i64 ((rd_T58 l0_2 x24_2).f0), .int .i64 ((rd_T58 l0_2 x24_2).f1), .string ((rd_T58 l0_2 x24_2).f2), .int .i64 ((rd_T58 l0_2 x24_2).f3)] 58 (0, 0)) (bpZ BK252) hb); replace HB := (bsZ (Zh GE248 GE252) hb); clear hb; refine ?roundEnd))
          case roundEnd =>
           by_cases c27 : t254 < 0
           ·have H := HS_.out
            clear HS_; rw [if_pos c27] at H; have c27b0 := decide_eq_true c27; clear c27; obtain rfl := Option.some.inj H
            go_wp2_with (first | fail)
            go_ret
            exact ⟨Zj, (Zh GE248 GE252)⟩
           ·have H := HS_.out
            clear HS_; rw [if_neg c27] at H; have c27b0 := decide_eq_false c27; clear c27; have H' := am_ H; clear H
            go_wp2_with (first | fail)
            go_roundg k2
            case measure => have := HJ1.out; have := HK2.out; omega
            case rel => exact ⟨(wrap64 (x24_2 + 1)), Za, H', ⟨by have := HJ1.out; have := HK2.out; omega⟩, ⟨(Zah BK248)⟩, ⟨(Zh GE248 GE252)⟩⟩
         ·replace c25 := Bool.eq_false_iff.mpr c25
          subst c25; rw [if_neg (show ¬ (false = true) by decide)] at H; obtain rfl := Option.some.inj H; have p251 : 0 ≤ (x24_2 : Int) := of_decide_eq_true Zn; have q251 : x24_2 < (l0_2.length : Int) := of_decide_eq_true Zn; obtain ⟨ad251, e251, hx251_0, hx251_1, hx251_2, hx251_3⟩ := at_T58 HR0_2.out x24_2 p251 q251
          cases e251
          replace hx251_0 := cbH HB hx251_0; replace hx251_1 := cbH HB hx251_1; replace hx251_2 := cbH HB hx251_2; replace hx251_3 := cbH HB hx251_3; replace p251 := eq_true p251; replace q251 := eq_true q251
          go_wp2_with (first | ((with_reducible refine gate_dst (N := 4) rfl ?_); (try (refine gate_guard (by rfl) ?_; dsimp only)); refine boxZ 4 #[.int .i64 0, .int .i64 0, .string (⟨#[]⟩ : ByteArray), .int .i64 0] 58 ?_; intro gb252 hg w38 hbox hb; replace BK252 := am_ (hbox); replace GW252 := am_ (((Ze GE248) : w.heap.size ≤ gb252)); replace GE252 := GW252; replace HB := (bsZ (Zf GE248) hb); replace NB248_252 := am_ ((by rw [hg]; exact Nat.ne_of_lt (blk_lt (g := gb248) (b0Z BK248)) : gb248 ≠ gb252)); replace NB252_248 := am_ ((by rw [hg]; exact Nat.ne_of_gt (blk_lt (g := gb248) (b0Z BK248)) : gb252 ≠ gb248)); replace BK248 := (bkZ BK248 hb); clear hb hbox hg; have hnb39 := NB252_248.out; have hnc39 := NB248_252.out; refine ci4 BK252 ?_; intros) | ((with_reducible refine gate_callee (f := 58) rfl ?_); refine gZ 30 Try.func58 #[.int .i64 ((rd_T58 l0_2 x24_2).f3), .int .i64 0, .int .i64 11] ?_; (with_reducible refine (impl_within.calls ((rd_T58 l0_2 x24_2).f3) 0 11 false _ A24.out).mono ?_); rintro e w' ⟨rfl, ⟨nd, rfl⟩⟩; refine ⟨_, rfl, ?_⟩))
          go_ret
          exact ⟨Zj, (Zh GE248 GE252)⟩
        ·rw [if_neg c23] at H
         exact absurd H (by simp)
       ·rw [if_neg c22] at H
        exact absurd H (by simp)
      ·rw [if_neg c21] at H
       have c21b0 := decide_eq_false c21; clear c21; obtain rfl := Option.some.inj H
       go_wp2
       go_ret
       exact ⟨Zj, (Zf GE248)⟩
def impl_fireTimes.l0 : Nat → List Int → List (S58) → Int → Int → List (S104) → List (S61) → List (S58) → Option (List Int)
 | 0, _, _, _, _, _, _, _ => none
 | k + 1, x3, x7, x8, x9, x256000, x256001, x256002 => if x9 < x8 then (if 0 ≤ x9 then (if x9 < (x7.length : Int) then ((impl_firedAt.f k x256000 x256001 x256002 ((rd_T58 x7 x9).f0) ((rd_T58 x7 x9).f1) ((rd_T58 x7 x9).f2) ((rd_T58 x7 x9).f3)).bind fun t258 => (if x3.length < 17592186044416 then (impl_fireTimes.l0 k (x3 ++ [t258]) x7 x8 (wrap64 (x9 + 1)) x256000 x256001 x256002) else (none))) else (none)) else (none)) else (some x3)
def impl_fireTimes.f (k : Nat) (l0_0 : List (S104)) (l0_1 : List (S61)) (l0_2 : List (S58)) : Option (List Int) := impl_fireTimes.l0 k ([] : List Int) l0_2 (l0_2.length : Int) 0 l0_0 l0_1 l0_2
set_option maxHeartbeats 8000000 in
set_option maxRecDepth 100000 in
theorem impl_fireTimes.calls (k : Nat) (A0_0 : Option Addr) (c0_0 : Nat) (l0_0 : List (S104)) (A0_1 : Option Addr) (c0_1 : Nat) (l0_1 : List (S61)) (A0_2 : Option Addr) (c0_2 : Nat) (l0_2 : List (S58)) (r : List Int) (w : World) (hr0_0 : Kd.C k104 w A0_0 l0_0.length l0_0) (hc0_0 : l0_0.length ≤ c0_0) (hr0_1 : Kd.C k61 w A0_1 l0_1.length l0_1) (hc0_1 : l0_1.length ≤ c0_1) (hr0_2 : Kd.C k58 w A0_2 l0_2.length l0_2) (hc0_2 : l0_2.length ≤ c0_2) (h : impl_fireTimes.f k l0_0 l0_1 l0_2 = some r) :
  Calls Try.prog 49 #[.agg #[.slice A0_0 l0_0.length c0_0, .slice A0_1 l0_1.length c0_1, .slice A0_2 l0_2.length c0_2]] w fun e w' => ∃ v0_ : Value, e = .returned (v0_) ∧ Kd.R (Kd.int .i64) 2 w' w.heap.size (fun _ => True) v0_ r ∧ Below w.heap.size w w' := by
 have hu35 := Try.underlying35; have hu58 := Try.underlying58; have HR0_0 := am_ hr0_0; have HC0_0 := am_ hc0_0; clear hr0_0 hc0_0; have HR0_1 := am_ hr0_1; have HC0_1 := am_ hc0_1; clear hr0_1 hc0_1; have HR0_2 := am_ hr0_2; have HC0_2 := am_ hc0_2; clear hr0_2 hc0_2; have HB := am_ (Below.refl w.heap.size w); have H : (impl_fireTimes.l0 k ([] : List Int) l0_2 (l0_2.length : Int) 0 l0_0 l0_1 l0_2) = some r := h; clear h; have H' := am_ H; clear H
 go_enter Try.func49, Try.ntmps49
 go_wp2_with (first | ((with_reducible refine gate_dst (N := 1) rfl ?_); refine boxZ 1 #[.slice A0_0 l0_0.length c0_0, .slice A0_1 l0_1.length c0_1, .slice A0_2 l0_2.length c0_2] 35 ?_; intro gb255 hg w2 hbox hb; replace BK255 := am_ (hbox); replace GW255 := am_ ((Zc : w.heap.size ≤ gb255)); replace GE255 := GW255; replace HB := (bsZ Zd hb); clear hb hbox hg; refine ci3 BK255 ?_; intros))
 go_loopg [3, 9] k (fun kq v3 v9 w' => ∃ (x3_1 : List Int) (x9_1 : Int), v9 = .int .i64 x9_1 ∧ Aside0 (impl_fireTimes.l0 kq x3_1 l0_2 (l0_2.length : Int) x9_1 l0_0 l0_1 l0_2 = some r) ∧ Aside0 (kq ≤ k) ∧ Aside0 (Kd.R (Kd.int .i64) 2 w' w.heap.size (fun _ => True) v3 x3_1) ∧ Aside0 (w'.heap[gb255]? = some (.cells #[(.slice A0_0 l0_0.length c0_0), (.slice A0_1 l0_1.length c0_1), (.slice A0_2 l0_2.length c0_2)] 35 (0, 0))) ∧ Aside0 (Below w.heap.size w w'))
 case atStart => exact ⟨(([] : List Int)), (0), Za, H', ⟨Nat.le_refl _⟩, ⟨Zm⟩, ⟨(Zah BK255)⟩, ⟨(Zf GE255)⟩⟩
 case round =>
  clear H'
  try clear p2
  obtain ⟨x3_1, x9_1, rfl, HA, HK1, HO_3, BK255, HB⟩ := hrel
  cases gk with
  | zero => exact absurd HA.out (by simp [impl_fireTimes.l0])
  | succ k1 =>
   have H := HA.out; clear HA; simp only [impl_fireTimes.l0] at H
   by_cases c4 : x9_1 < (l0_2.length : Int)
   ·rw [if_pos c4] at H
    have c4b0 := decide_eq_true c4; clear c4
    by_cases c5 : 0 ≤ x9_1
    ·rw [if_pos c5] at H
     have c5b0 := decide_eq_true c5; clear c5
     by_cases c6 : x9_1 < (l0_2.length : Int)
     ·rw [if_pos c6] at H
      have c6b0 := decide_eq_true c6; clear c6; replace H := Option.bind_eq_some_iff.mp H; obtain ⟨t258, A70, H⟩ := H; have A7 := am_ A70; clear A70
      by_cases c8 : x3_1.length < 17592186044416
      ·rw [if_pos c8] at H
       have LMc8 := am_ c8; clear c8; obtain ⟨y259, hy259⟩ : ∃ y_ : List Int, y_ = (x3_1 ++ [t258]) := ⟨_, rfl⟩
       (first | (rw [← hy259] at H; with_reducible replace H := bindZ H) | rw [← hy259] at H | skip)
       have Ny259 := am_ hy259; clear hy259; have H' := am_ H; clear H; have p256 : 0 ≤ (x9_1 : Int) := of_decide_eq_true Zn; have q256 : x9_1 < (l0_2.length : Int) := of_decide_eq_true Zn; obtain ⟨ad256, e256, hx256_0, hx256_1, hx256_2, hx256_3⟩ := at_T58 HR0_2.out x9_1 p256 q256
       cases e256
       replace hx256_0 := cbH HB hx256_0; replace hx256_1 := cbH HB hx256_1; replace hx256_2 := cbH HB hx256_2; replace hx256_3 := cbH HB hx256_3; replace p256 := eq_true p256; replace q256 := eq_true q256
       go_wp2_with (first | ((with_reducible refine gate_dst (N := 5) rfl ?_); refine boxZ 5 #[.int .i64 0, .int .i64 0, .string (⟨#[]⟩ : ByteArray), .int .i64 0] 58 ?_; intro gb257 hg w9 hbox hb; replace HO_3 := (hbZ HO_3 hb); replace BK257 := am_ (hbox); replace GW257 := am_ (((Ze GE255) : w.heap.size ≤ gb257)); replace GE257 := GW257; replace HB := (bsZ (Zf GE255) hb); replace NB255_257 := am_ ((by rw [hg]; exact Nat.ne_of_lt (blk_lt (g := gb255) (b0Z BK255)) : gb255 ≠ gb257)); replace NB257_255 := am_ ((by rw [hg]; exact Nat.ne_of_gt (blk_lt (g := gb255) (b0Z BK255)) : gb257 ≠ gb255)); replace BK255 := (bkZ BK255 hb); clear hb hbox hg; have hnb10 := NB257_255.out; have hnc10 := NB255_257.out; refine ci4 BK257 ?_; intros; refine ci3 BK255 ?_; intros) | ((with_reducible refine gate_callee (f := 67) rfl ?_); refine gZ 16 Try.func67 #[.agg #[.slice A0_0 l0_0.length c0_0, .slice A0_1 l0_1.length c0_1, .slice (some ad256) l0_2.length c0_2], .agg #[.int .i64 ((rd_T58 l0_2 x9_1).f0), .int .i64 ((rd_T58 l0_2 x9_1).f1), .string ((rd_T58 l0_2 x9_1).f2), .int .i64 ((rd_T58 l0_2 x9_1).f3)]] ?_; (with_reducible refine (impl_firedAt.calls k1 _ _ l0_0 _ _ l0_1 _ _ l0_2 ((rd_T58 l0_2 x9_1).f0) ((rd_T58 l0_2 x9_1).f1) ((rd_T58 l0_2 x9_1).f2) ((rd_T58 l0_2 x9_1).f3) t258 _ ?_ ?_ ?_ ?_ ?_ ?_ A7.out).mono ?_); exact Kd.C_below HR0_0.out (Zh GE255 GE257); exact HC0_0.out; exact Kd.C_below HR0_1.out (Zh GE255 GE257); exact HC0_1.out; exact Kd.C_below HR0_2.out (Zh GE255 GE257); exact HC0_2.out; rintro e w13 ⟨rfl, hb⟩; refine ⟨_, rfl, ?_⟩; replace HO_3 := am_ (Kd.R_below (Zab HO_3 BK257) hb); replace BK255 := am_ (blk_below (g := gb255) (bfZ BK255 NB255_257) hb); replace BK257 := am_ (blk_below (g := gb257) (o := .cells #[.int .i64 ((rd_T58 l0_2 x9_1).f0), .int .i64 ((rd_T58 l0_2 x9_1).f1), .string ((rd_T58 l0_2 x9_1).f2), .int .i64 ((rd_T58 l0_2 x9_1).f3)] 58 (0, 0)) (bpZ BK257) hb); replace HB := (bsZ (Zh GE255 GE257) hb); clear hb) | ((with_reducible refine gate_builtin (b := .append) (xs := #[.tmp 13, .tmp 17]) rfl ?_); at_builtin; refine Kd.R_append (Kd.int .i64) (w0 := w) w.heap.size rfl (.tmp 13) (.tmp 17) 28 2 (.int .i64 0) 8 rfl Try.underlying28 info2 rfl (by decide) (by omega) u3 x3_1 t258 [.int .i64 t258] (fun _ => True) (fun _ => False) rfl rfl ?aP (fun _ hk => hk.elim) ?aF ?aO ?aB ?aS ?aL ?_; (case aP => exact rfl); (case aB => exact (Zh GE255 GE257)); (case aF => exact (fun _ _ => trivial)); (case aO => exact (Zo HO_3)); (case aS => exact (below_size (Zh GE255 GE257))); (case aL => have := LMc8.out; omega); intro v260 w14 ho hb hg hat; rw [← Ny259.out] at ho; replace BK255 := am_ (blk_grown (g := gb255) (b0Z BK255) hg (Kd.R_ne HO_3.out BK255.out (by decide))); replace BK257 := am_ (blk_grown (g := gb257) (b0Z BK257) hg (Kd.R_ne HO_3.out BK257.out (by decide))); replace HB := am_ (hb); replace HO261 := am_ (ho); clear HO_3; clear ho hb hg hat))
       go_roundg k1
       case measure => have := HK1.out; omega
       case rel => exact ⟨(y259), (wrap64 (x9_1 + 1)), Za, H', ⟨Zs⟩, ⟨(Zo HO261)⟩, ⟨(Zah BK255)⟩, ⟨(Zh GE255 GE257)⟩⟩
      ·rw [if_neg c8] at H
       exact absurd H (by simp)
     ·rw [if_neg c6] at H
      exact absurd H (by simp)
    ·rw [if_neg c5] at H
     exact absurd H (by simp)
   ·rw [if_neg c4] at H
    have c4b0 := decide_eq_false c4; clear c4; obtain rfl := Option.some.inj H
    go_wp2
    go_ret
    exact ⟨_, Zj, (Zo HO_3), (Zf GE255)⟩
def cpyup (xs : List Int) (k : Nat) : List Int := xs.take (k + 1) ++ (xs.drop k).take (xs.length - (k + 1))
theorem R_copyup_run {P : Program} {W : World} (base : Nat) (t ty e : TypeId) (i : TypeInfo) (ht : P.underlying t = some (.slice e)) (hi : P.info? e = some i) (hsz : i.size = 1)
  {g n c k : Nat} {xs : List Int} {ok : Nat → Prop} (HO : (Kd.int .i64).R e W base ok (.slice (some ⟨g, 0, none⟩) n c) xs) (hk : k < n) {A B : Option Addr} (hA : A = if c = k + 1 then some ⟨g, 0, none⟩ else (some (⟨g, 0, none⟩ : Addr)).map (·.add ((k + 1) * 1))) (hB : B = if c = k then some ⟨g, 0, none⟩ else (some (⟨g, 0, none⟩ : Addr)).map (·.add (k * 1))) (c1 c2 : Nat) :
  ∃ w1, (Builtin.copy_ #[t, t] ty #[.slice A (n - (k + 1)) c1, .slice B (n - k) c2]).run P W = .ok (.int .i64 ((n - (k + 1) : Nat) : Int)) w1 ∧ (Kd.int .i64).R e w1 base ok (.slice (some ⟨g, 0, none⟩) n c) (cpyup xs k) ∧ W.grownBy w1 (some g) := by
 obtain ⟨hn, hnc, _⟩ := Kd.R_reads' HO; have HO' := HO; obtain ⟨hok, inner, hown, hr⟩ := HO
 have hin : inner.length = n := by rw [hr.1, hn]; exact Nat.mul_one _
 have hB' : B = some ⟨g, k, none⟩ := by
  rw [hB, if_neg (by omega), Option.map_some, Nat.mul_one, add_at, Nat.zero_add]
 rcases hown.2 with ⟨hv, _⟩ | ⟨g', cap', cur, hv, hb, hh, _, hcm, hcs, htake⟩
 ·cases hv
 injection hv with ha _ hc; injection ha with ha; injection ha with hg; subst hg; subst hc; rw [← hn] at htake; have hcs1 : cur.size = c := hcs.trans (Nat.mul_one _)
 have htake1 : cur.toList.take n = inner := by
  have h := htake; rw [show n * (Kd.int .i64).sz = n from Nat.mul_one _] at h; exact h
 have hcur : ∀ q, q < n → cur.toList[q]? = inner[q]? := by
  intro q hq; rw [← htake1, List.getElem?_take, if_pos hq]
 obtain ⟨news, hnews⟩ : ∃ news, news = (inner.drop k).take (n - (k + 1)) := ⟨_, rfl⟩
 have hnl : news.length = n - (k + 1) := by rw [hnews, List.length_take, List.length_drop, hin]; omega
 have hlen : (cpyup xs k).length = n := by unfold cpyup; rw [List.length_append, List.length_take, List.length_take, List.length_drop]; omega
 have hone : ∀ u ∈ news, u.oneCell' = true := by
  intro u hu
  have hu' : u ∈ inner := by rw [hnews] at hu; exact List.mem_of_mem_drop (List.mem_of_mem_take hu)
  obtain ⟨q, hq, rfl⟩ := List.mem_iff_getElem.1 hu'
  have hql : q < xs.length := by omega
  refine (Kd.int .i64).K_one ((Kd.int .i64).K_of_M (hr.2 q _ (List.getElem?_eq_getElem hql))) _ ?_; rw [List.mem_iff_getElem?]; refine ⟨0, ?_⟩; rw [List.getElem?_take, if_pos (by show 0 < 1; omega), List.getElem?_drop, show q * (Kd.int .i64).sz = q from Nat.mul_one _, Nat.add_zero, List.getElem?_eq_getElem hq]
 have hfit : k + 1 + news.length ≤ cur.size := by omega
 have hcell : ∀ j u, news[j]? = some u → W.cell? ((⟨g, k, none⟩ : Addr).add j) = some u := by
  intro j u hu; have hj : j < news.length := (List.getElem?_eq_some_iff.1 hu).1; rw [add_at, cell_of_row W g _ cur e (0, 0) hh, ← Array.getElem?_toList]; rw [hnews, List.getElem?_take, if_pos (by omega), List.getElem?_drop] at hu; rw [← hu]; exact hcur _ (by omega)
 obtain ⟨cur', h3, h4, h5⟩ := setCells_row news (k + 1) W cur hh hfit; obtain ⟨s1, s2, s3, s4⟩ := setCells_same g news (k + 1) W; have hfar : ∀ k', k' ≠ g → (W.setCells g (k + 1) news).heap[k']? = W.heap[k']? := fun k' hk' => setCells_far news _ k' hk'
 have hgo : ∀ m, some g = (Value.slice (some ⟨g, 0, none⟩) m c).ownBlock := fun m => by simp [Value.ownBlock]
 have hrun : (Builtin.copy_ #[t, t] ty #[.slice A (n - (k + 1)) c1, .slice B (n - k) c2]).run P W = .ok (.int .i64 ((n - (k + 1) : Nat) : Int)) (W.setCells g (k + 1) news) := by
  subst hB'
  by_cases hck : n = k + 1
  ·have h0 : news = [] := List.eq_nil_of_length_eq_zero (by omega)
   rw [h0, show n - (k + 1) = 0 by omega]; exact run_copy_none (P := P) W t t ty e A _ 0 c1 (n - k) c2 ht (by rw [hi]; simp [hsz]) (by simp)
  ·have hA' : A = some ⟨g, k + 1, none⟩ := by
    rw [hA, if_neg (by omega), Option.map_some, Nat.mul_one, add_at, Nat.zero_add]
   subst hA'
   have := run_copy_cells (P := P) W t t ty e g (k + 1) (n - (k + 1)) c1 ⟨g, k, none⟩ (n - k) c2 news ht (by rw [hi]; simp [hsz]) (by rw [hnl]; show n - (k + 1) = min (n - k) (n - (k + 1)); omega) hcell
    (fun j hj => by rw [cell_of_row W g _ cur e (0, 0) hh]; simp; omega) (fun j _ => blk_frozen hh _) hone
   rw [hnl] at this; exact this
 refine ⟨_, hrun, ⟨hok, inner.take (k + 1) ++ news, ⟨?_, .inr ⟨g, c, cur', by rw [hlen], hb, h3, by rw [hlen]; omega, hcm, by rw [h4, hcs], ?_⟩⟩, ?_⟩, ⟨s1, s2, s3, by rw [s4]; exact Nat.le_refl _, fun k' _ hk' => hfar k' (fun he => hk' (by rw [he]))⟩⟩
 ·rw [List.length_append, List.length_take, hnl, hlen, show n * (Kd.int .i64).sz = n from Nat.mul_one _]
  omega
 ·rw [hlen, h5, show n * (Kd.int .i64).sz = n from Nat.mul_one _]
  have h7 : cur.toList.take (k + 1) = inner.take (k + 1) := by
   rw [← htake1, List.take_take, Nat.min_eq_left (by omega)]
  rw [h7]; exact List.take_left' (by rw [List.length_append, List.length_take, hnl]; omega)
 ·have hmv : ∀ p q, (Kd.int .i64).M W base (fun k' => ok k' ∧ some k' ≠ (Value.slice (some ⟨g, 0, none⟩) n c).ownBlock) p q → (Kd.int .i64).M (W.setCells g (k + 1) news) base (fun k' => ok k' ∧ some k' ≠ (Value.slice (some ⟨g, 0, none⟩) n c).ownBlock) p q := fun p q hp =>
   (Kd.int .i64).M_move (fun k' hk' => hfar k' (fun he => hk'.2 (by rw [← hgo, he]))) hp
  subst hnews; have a1 := (Kd.reps_take (m := k + 1) hr (by omega)).imp_ hmv; have a2 := (Kd.reps_take (m := n - (k + 1)) (Kd.reps_drop (m := k) hr) (by rw [List.length_drop]; omega)).imp_ hmv; rw [show (k + 1) * (Kd.int .i64).sz = k + 1 from Nat.mul_one _] at a1; rw [show (n - (k + 1)) * (Kd.int .i64).sz = n - (k + 1) from Nat.mul_one _, show k * (Kd.int .i64).sz = k from Nat.mul_one _] at a2; have a3 := Kd.reps_append a1 a2
  unfold cpyup
  rw [show xs.length - (k + 1) = n - (k + 1) by omega]; exact a3
theorem R_copyup_step {P : Program} {ops : Array Oper} {o : Oper} {a : Act} {Kc : Act → World → Prop} {Q : Exit → Act → World → Prop} {w0 W : World} (base : Nat) (hw : Region.wanted o (yielded ops a.tmps) = true) (s x : Operand) (t e : TypeId) (ho : o.op = .call { callee := .builtin .copy, args := #[s, x], argTypes := #[t, t] })
  (ht : P.underlying t = some (.slice e)) (hinfo : (P.info? e).map (·.size) = some 1) {g n c k m1 m2 c1 c2 : Nat} {A B : Option Addr} {xs : List Int} {ok : Nat → Prop}
  (hs : a.eval s = .slice A m1 c1) (hx : a.eval x = .slice B m2 c2) (hA : A = if c = k + 1 then some ⟨g, 0, none⟩ else (some (⟨g, 0, none⟩ : Addr)).map (·.add ((k + 1) * 1))) (hB : B = if c = k then some ⟨g, 0, none⟩ else (some (⟨g, 0, none⟩ : Addr)).map (·.add (k * 1))) (hm1 : m1 = n - (k + 1)) (hm2 : m2 = n - k)
  (HO : (Kd.int .i64).R e W base ok (.slice (some ⟨g, 0, none⟩) n c) xs) (hk : k < n) (HB : Below base w0 W) (hbase : base ≤ W.heap.size)
  (h : ∀ w1, (Kd.int .i64).R e w1 base ok (.slice (some ⟨g, 0, none⟩) n c) (cpyup xs k) → Below base w0 w1 → W.grownBy w1 (some g) → Kc (a.put o.dst (.int .i64 ((n - (k + 1) : Nat) : Int))) w1) :
  if Region.wanted o (yielded ops a.tmps) = true then Oper.wp P o a W Kc Q else Kc (a.put o.dst undef) W := by
 obtain ⟨i0, hi, hsz⟩ := Option.map_eq_some_iff.1 hinfo; subst hm1; subst hm2; obtain ⟨w1, hr, h1, h2⟩ := R_copyup_run (P := P) base t o.type e i0 ht hi hsz HO hk hA hB c1 c2; rw [if_pos hw]
 unfold Oper.wp execOp
 simp only [ho, resolve, invoke, builtin, Sem.run_bind, Sem.run_pure, Result.andThen_ok, List.map_toArray, List.map_cons, List.map_nil, hs, hx, hr]; exact h w1 h1 (HB.grown h2 hbase (fun k hk => by injection hk with hk; subst hk; exact Kd.R_base HO _ (by simp [Value.ownBlock]))) h2
mutual
def impl_FireOrder.l0 : Nat → List Int → List Int → Int → Int → Option (List Int × Int)
 | 0, _, _, _, _ => none
 | k + 1, x4, x5, x14, x15 => if x15 < x14 then (impl_FireOrder.l1 k x4 x5 x15 (x5.length : Int) x14 x15) else (some (x5, 0))
def impl_FireOrder.l1 : Nat → List Int → List Int → Int → Int → Int → Int → Option (List Int × Int)
 | 0, _, _, _, _, _, _ => none
 | k + 1, x4, x5, x6, x7, x14, x15 => if x7 > 0 then (if 0 ≤ (wrap64 (x7 - 1)) then (if (wrap64 (x7 - 1)) < (x5.length : Int) then (if 0 ≤ (rd x5 (wrap64 (x7 - 1))) then (if (rd x5 (wrap64 (x7 - 1))) < (x4.length : Int) then (if 0 ≤ x6 then (if x6 < (x4.length : Int) then (if (rd x4 (rd x5 (wrap64 (x7 - 1)))) > (rd x4 x6) then (impl_FireOrder.l1 k x4 x5 x6 (wrap64 (x7 - 1)) x14 x15) else (if x5.length < 17592186044416 then ((some (x5 ++ [0] : List Int)).bind fun y270 => (if 0 ≤ (wrap64 (x7 + 1)) then (if (wrap64 (x7 + 1)) ≤ (y270.length : Int) then (if 0 ≤ x7 then (if x7 ≤ (y270.length : Int) then ((some (cpyup y270 (x7 : Int).toNat : List Int)).bind fun y281 => (if x7 < (y281.length : Int) then (impl_FireOrder.l0 k x4 (y281.set (x7 : Int).toNat x6) x14 (wrap64 (x15 + 1))) else (none))) else (none)) else (none)) else (none)) else (none))) else (none))) else (none)) else (none)) else (none)) else (none)) else (none)) else (none)) else (if x5.length < 17592186044416 then ((some (x5 ++ [0] : List Int)).bind fun y285 => (if 0 ≤ (wrap64 (x7 + 1)) then (if (wrap64 (x7 + 1)) ≤ (y285.length : Int) then (if 0 ≤ x7 then (if x7 ≤ (y285.length : Int) then ((some (cpyup y285 (x7 : Int).toNat : List Int)).bind fun y296 => (if x7 < (y296.length : Int) then (impl_FireOrder.l0 k x4 (y296.set (x7 : Int).toNat x6) x14 (wrap64 (x15 + 1))) else (none))) else (none)) else (none)) else (none)) else (none))) else (none))
end
def impl_FireOrder.f (k : Nat) (l0_0 : List (S104)) (l0_1 : List (S61)) (l0_2 : List (S58)) : Option (List Int × Int) := (impl_IsShow.f k l0_0 l0_1 l0_2).bind fun t263 => (if t263 = true then ((impl_fireTimes.f k l0_0 l0_1 l0_2).bind fun t264 => (impl_FireOrder.l0 k t264 ([] : List Int) (t264.length : Int) 0)) else (some (([] : List Int), 1)))
def impl_FireOrder.T9 : Bool × List (List Nat × List Nat) := (true, [([], []), ([0], [0]), ([1], [1]), ([2], [2]), ([2], [2]), ([2], [2]), ([5, 2], [2, 5]), ([4, 6, 2], [2, 4, 6]), ([7, 2], [2, 7]), ([3, 8, 2], [2, 3, 8]), ([9, 2], [2, 9]), ([2], [2]), ([2], [2]), ([11, 12, 2], [2, 11, 12]), ([13, 2], [2, 13]), ([10, 14, 2], [2, 10, 14]), ([2, 15], [2, 15])])
def impl_FireOrder.B9 : List Nat := [0, 1, 3, 7, 7, 7, 39, 119, 247, 511, 1023, 7, 7, 6151, 14343, 32767, 65535]
theorem impl_FireOrder.tab9 : rtab .any (opsOf Try.f10 9) = impl_FireOrder.T9 := by kernel_rfl
theorem impl_FireOrder.bits9 : waitsOk impl_FireOrder.T9.2 impl_FireOrder.B9 = true := by kernel_rfl
def impl_FireOrder.T12 : Bool × List (List Nat × List Nat) := (true, [([], []), ([], []), ([1], [1]), ([0, 2], [0, 2]), ([], []), ([], []), ([4, 5], [4, 5]), ([3, 6], [3, 6])])
def impl_FireOrder.B12 : List Nat := [0, 0, 2, 7, 0, 0, 48, 127]
theorem impl_FireOrder.tab12 : rtab .any (opsOf Try.f10 12) = impl_FireOrder.T12 := by kernel_rfl
theorem impl_FireOrder.bits12 : waitsOk impl_FireOrder.T12.2 impl_FireOrder.B12 = true := by kernel_rfl
set_option maxHeartbeats 8000000 in
set_option maxRecDepth 100000 in
theorem impl_FireOrder.calls (k : Nat) (A0_0 : Option Addr) (c0_0 : Nat) (l0_0 : List (S104)) (A0_1 : Option Addr) (c0_1 : Nat) (l0_1 : List (S61)) (A0_2 : Option Addr) (c0_2 : Nat) (l0_2 : List (S58)) (r1 : List Int) (r2 : Int) (w : World) (hr0_0 : Kd.C k104 w A0_0 l0_0.length l0_0) (hc0_0 : l0_0.length ≤ c0_0) (hr0_1 : Kd.C k61 w A0_1 l0_1.length l0_1) (hc0_1 : l0_1.length ≤ c0_1) (hr0_2 : Kd.C k58 w A0_2 l0_2.length l0_2) (hc0_2 : l0_2.length ≤ c0_2) (h : impl_FireOrder.f k l0_0 l0_1 l0_2 = some (r1, r2)) :
  Calls Try.prog 10 #[.agg #[.slice A0_0 l0_0.length c0_0, .slice A0_1 l0_1.length c0_1, .slice A0_2 l0_2.length c0_2]] w fun e w' => ∃ v0_ : Value, e = .returned (.tuple #[v0_, .int .i64 r2]) ∧ Kd.R (Kd.int .i64) 2 w' w.heap.size (fun _ => True) v0_ r1 ∧ Below w.heap.size w w' := by
 have hu35 := Try.underlying35; have HR0_0 := am_ hr0_0; have HC0_0 := am_ hc0_0; clear hr0_0 hc0_0; have HR0_1 := am_ hr0_1; have HC0_1 := am_ hc0_1; clear hr0_1 hc0_1; have HR0_2 := am_ hr0_2; have HC0_2 := am_ hc0_2; clear hr0_2 hc0_2; have HB := am_ (Below.refl w.heap.size w); have H : ((impl_IsShow.f k l0_0 l0_1 l0_2).bind fun t263 => (if t263 = true then ((impl_fireTimes.f k l0_0 l0_1 l0_2).bind fun t264 => (impl_FireOrder.l0 k t264 ([] : List Int) (t264.length : Int) 0)) else (some (([] : List Int), 1)))) = some (r1, r2) := h; clear h; replace H := Option.bind_eq_some_iff.mp H; obtain ⟨t263, A20, H⟩ := H; have A2 := am_ A20; clear A20; have HS_ := am_ H; clear H
 go_enter Try.func10, Try.ntmps10
 go_wp2_with (first | ((with_reducible refine gate_dst (N := 1) rfl ?_); refine boxZ 1 #[.slice A0_0 l0_0.length c0_0, .slice A0_1 l0_1.length c0_1, .slice A0_2 l0_2.length c0_2] 35 ?_; intro gb262 hg w5 hbox hb; replace BK262 := am_ (hbox); replace GW262 := am_ ((Zc : w.heap.size ≤ gb262)); replace GE262 := GW262; replace HB := (bsZ Zd hb); clear hb hbox hg; refine ci3 BK262 ?_; intros) | ((with_reducible refine gate_callee (f := 30) rfl ?_); refine gZ 9 Try.func30 #[.agg #[.slice A0_0 l0_0.length c0_0, .slice A0_1 l0_1.length c0_1, .slice A0_2 l0_2.length c0_2]] ?_; (with_reducible refine (impl_IsShow.calls k _ _ l0_0 _ _ l0_1 _ _ l0_2 t263 _ ?_ ?_ ?_ ?_ ?_ ?_ A2.out).mono ?_); exact (Zz HR0_0); exact HC0_0.out; exact (Zz HR0_1); exact HC0_1.out; exact (Zz HR0_2); exact HC0_2.out; rintro e w7 ⟨rfl, hb⟩; refine ⟨_, rfl, ?_⟩; replace BK262 := (bkZ BK262 hb); replace HB := (bsZ (Zf GE262) hb); clear hb; refine ?roundEnd))
 case roundEnd =>
  by_cases c3 : t263 = true
  ·have H := HS_.out
   clear HS_; subst c3; rw [if_pos rfl] at H; replace H := Option.bind_eq_some_iff.mp H; obtain ⟨t264, A40, H⟩ := H; have A4 := am_ A40; clear A40; have H' := am_ H; clear H; refine ci3 BK262 ?_; intros
   go_wp2_with (first | ((with_reducible refine gate_callee (f := 49) rfl ?_); refine gZ 12 Try.func49 #[.agg #[.slice A0_0 l0_0.length c0_0, .slice A0_1 l0_1.length c0_1, .slice A0_2 l0_2.length c0_2]] ?_; (with_reducible refine (impl_fireTimes.calls k _ _ l0_0 _ _ l0_1 _ _ l0_2 t264 _ ?_ ?_ ?_ ?_ ?_ ?_ A4.out).mono ?_); exact (Zz HR0_0); exact HC0_0.out; exact (Zz HR0_1); exact HC0_1.out; exact (Zz HR0_2); exact HC0_2.out; rintro e w9 ⟨v265, rfl, ho0, hb⟩; refine ⟨_, rfl, ?_⟩; replace HO266 := am_ (Kd.R_lower ho0 (below_size (Zf GE262))); replace BK262 := (bkZ BK262 hb); replace HB := (bsZ (Zf GE262) hb); clear hb ho0; obtain ⟨Ao10, co10, eo10⟩ := Kd.R_slice HO266.out; subst eo10))
   go_loopg [5, 15] k (fun kq v5 v15 w' => ∃ (x4_1 : List Int) (x5_1 : List Int) (x15_1 : Int), v15 = .int .i64 x15_1 ∧ Aside0 (impl_FireOrder.l0 kq x4_1 x5_1 (t264.length : Int) x15_1 = some (r1, r2)) ∧ Aside0 (kq ≤ k) ∧ Aside0 (Kd.R (Kd.int .i64) 2 w' w.heap.size (fun k_ => some k_ ≠ (v5 : Value).ownBlock) (.slice Ao10 t264.length co10) x4_1) ∧ Aside0 (Kd.R (Kd.int .i64) 2 w' w.heap.size (fun k_ => some k_ ≠ ((.slice Ao10 t264.length co10) : Value).ownBlock) v5 x5_1) ∧ Aside0 (w'.heap[gb262]? = some (.cells #[(.slice A0_0 l0_0.length c0_0), (.slice A0_1 l0_1.length c0_1), (.slice A0_2 l0_2.length c0_2)] 35 (0, 0))) ∧ Aside0 (Below w.heap.size w w'))
   case atStart => exact ⟨(t264), (([] : List Int)), (0), Za, H', ⟨Nat.le_refl _⟩, ⟨by (with_reducible repeat (first | apply Kd.R_alloc | apply Kd.R_drewN | apply Kd.R_drew)); exact Kd.R_mono HO266.out (fun _ hk => (by simp [Value.ownBlock]))⟩, ⟨Zm⟩, ⟨(Zah BK262)⟩, ⟨(Zf GE262)⟩⟩
   case round =>
    clear H'
    try clear c1
    try clear p2
    try clear c3
    try clear c4
    try clear c10
    obtain ⟨x4_1, x5_1, x15_1, rfl, HA, HK1, HO_4, HO_5, BK262, HB⟩ := hrel; have hl4_1 := (Kd.R_reads' HO_4.out).1; rw [hl4_1] at HO_4
    (try simp only [hl4_1])
    (try simp only [hl4_1] at BK262)
    (try simp only [hl4_1] at HO_5)
    cases gk with
    | zero => exact absurd HA.out (by simp [impl_FireOrder.l0])
    | succ k1 =>
     have H := HA.out; clear HA; simp only [impl_FireOrder.l0] at H
     (try simp only [hl4_1] at H)
     by_cases c11 : x15_1 < (x4_1.length : Int)
     ·rw [if_pos c11] at H
      have c11b0 := decide_eq_true c11; clear c11; have H' := am_ H; clear H; obtain ⟨Ao12, co12, eo12⟩ := Kd.R_slice HO_5.out; subst eo12
      go_wp2
      go_loopg [7] k1 (fun kq v7 w' => ∃ (x7_2 : Int), v7 = .int .i64 x7_2 ∧ Aside0 (impl_FireOrder.l1 kq x4_1 x5_1 x15_1 x7_2 (x4_1.length : Int) x15_1 = some (r1, r2)) ∧ Aside0 (kq ≤ k1) ∧ Aside0 (Kd.R (Kd.int .i64) 2 w' w.heap.size (fun k_ => some k_ ≠ ((.slice Ao12 x5_1.length co12) : Value).ownBlock) (.slice Ao10 x4_1.length co10) x4_1) ∧ Aside0 (Kd.R (Kd.int .i64) 2 w' w.heap.size (fun k_ => some k_ ≠ ((.slice Ao10 x4_1.length co10) : Value).ownBlock) (.slice Ao12 x5_1.length co12) x5_1) ∧ Aside0 (w'.heap[gb262]? = some (.cells #[(.slice A0_0 l0_0.length c0_0), (.slice A0_1 l0_1.length c0_1), (.slice A0_2 l0_2.length c0_2)] 35 (0, 0))) ∧ Aside0 (Below w.heap.size w w'))
      case atStart => exact ⟨((x5_1.length : Int)), Za, H', ⟨Nat.le_refl _⟩, ⟨(Zaq HO_4)⟩, ⟨(Zaq HO_5)⟩, ⟨(Zar BK262)⟩, ⟨(Zf GE262)⟩⟩
      case round =>
       clear H'
       try clear c1
       try clear p2
       try clear c3
       try clear c4
       try clear c10
       try clear c11
       try clear c11b0
       try clear p2
       obtain ⟨x7_2, rfl, HA, HK2, HO_4, HO_5, BK262, HB⟩ := hrel
       cases gk with
       | zero => exact absurd HA.out (by simp [impl_FireOrder.l1])
       | succ k2 =>
        have H := HA.out; clear HA; simp only [impl_FireOrder.l1] at H
        by_cases c13 : x7_2 > 0
        ·rw [if_pos c13] at H
         have c13b0 : decide (0 < x7_2) = true := decide_eq_true c13; clear c13; obtain ⟨ji14, hji14⟩ : ∃ j_ : Int, (wrap64 (x7_2 - 1)) = j_ := ⟨_, rfl⟩
         replace H : (if 0 ≤ (ji14) then (if (ji14) < (x5_1.length : Int) then (if 0 ≤ (rd x5_1 (ji14)) then (if (rd x5_1 (ji14)) < (x4_1.length : Int) then (if 0 ≤ x15_1 then (if x15_1 < (x4_1.length : Int) then (if (rd x4_1 (rd x5_1 (ji14))) > (rd x4_1 x15_1) then (impl_FireOrder.l1 k2 x4_1 x5_1 x15_1 ji14 (x4_1.length : Int) x15_1) else (if x5_1.length < 17592186044416 then ((some (x5_1 ++ [0] : List Int)).bind fun y270 => (if 0 ≤ (wrap64 (x7_2 + 1)) then (if (wrap64 (x7_2 + 1)) ≤ (y270.length : Int) then (if 0 ≤ x7_2 then (if x7_2 ≤ (y270.length : Int) then ((some (cpyup y270 (x7_2 : Int).toNat : List Int)).bind fun y281 => (if x7_2 < (y281.length : Int) then (impl_FireOrder.l0 k2 x4_1 (y281.set (x7_2 : Int).toNat x15_1) (x4_1.length : Int) (wrap64 (x15_1 + 1))) else (none))) else (none)) else (none)) else (none)) else (none))) else (none))) else (none)) else (none)) else (none)) else (none)) else (none)) else (none)) = some (r1, r2) := by first | (rw [hji14] at H; exact H) | (simp only [hji14] at H ⊢; exact H)
         have hji14w : (IntKind.i64.wrap (x7_2 - 1)) = ji14 := (i64_w _).trans hji14
         by_cases c15 : 0 ≤ (ji14)
         ·rw [if_pos c15] at H
          have c15b0 := decide_eq_true c15; clear c15
          by_cases c16 : (ji14) < (x5_1.length : Int)
          ·rw [if_pos c16] at H
           have c16b0 := decide_eq_true c16; clear c16
           by_cases c17 : 0 ≤ (rd x5_1 (ji14))
           ·rw [if_pos c17] at H
            have c17b0 := decide_eq_true c17; clear c17
            by_cases c18 : (rd x5_1 (ji14)) < (x4_1.length : Int)
            ·rw [if_pos c18] at H
             have c18b0 := decide_eq_true c18; clear c18
             by_cases c19 : 0 ≤ x15_1
             ·rw [if_pos c19] at H
              have c19b0 := decide_eq_true c19; clear c19
              by_cases c20 : x15_1 < (x4_1.length : Int)
              ·rw [if_pos c20] at H
               have c20b0 := decide_eq_true c20; clear c20
               by_cases c21 : (rd x4_1 (rd x5_1 (ji14))) > (rd x4_1 x15_1)
               ·rw [if_pos c21] at H
                have c21b0 : decide ((rd x4_1 x15_1) < (rd x4_1 (rd x5_1 (ji14)))) = true := decide_eq_true c21; clear c21; have H' := am_ H; clear H
                try go_wp2
                replace HO_4 := am_ (Kd.R_drew HO_4.out); replace HO_5 := am_ (Kd.R_drew HO_5.out); replace BK262 := am_ (blk_drew BK262.out); replace HB := am_ (below_drew1 HB.out); have p267 : 0 ≤ ((ji14) : Int) := of_decide_eq_true Zn; have q267 : (ji14) < (x5_1.length : Int) := of_decide_eq_true Zn; obtain ⟨ad267, e267, hx267_0⟩ := Kd.at_int (Kd.R_reads' HO_5.out).2.2 (ji14) p267 q267
                cases e267
                replace p267 := eq_true p267; replace q267 := eq_true q267; have p268 : 0 ≤ ((rd x5_1 (ji14)) : Int) := of_decide_eq_true Zn; have q268 : (rd x5_1 (ji14)) < (x4_1.length : Int) := of_decide_eq_true Zn; obtain ⟨ad268, e268, hx268_0⟩ := Kd.at_int (Kd.R_reads' HO_4.out).2.2 (rd x5_1 (ji14)) p268 q268
                cases e268
                replace p268 := eq_true p268; replace q268 := eq_true q268; have p269 : 0 ≤ (x15_1 : Int) := of_decide_eq_true Zn; have q269 : x15_1 < (x4_1.length : Int) := of_decide_eq_true Zn; obtain ⟨ad269, e269, hx269_0⟩ := Kd.at_int (Kd.R_reads' HO_4.out).2.2 x15_1 p269 q269; obtain rfl : ad268 = ad269 := (by injection e269); replace p269 := eq_true p269; replace q269 := eq_true q269; refine start_ (n := 17) (S := fun w' => w'.cell? (ad267.add ((ji14)).toNat) = some (.int .i64 (rd x5_1 (ji14))) ∧ w'.cell? (ad268.add ((rd x5_1 (ji14))).toNat) = some (.int .i64 (rd x4_1 (rd x5_1 (ji14)))) ∧ w'.cell? (ad268.add (x15_1).toNat) = some (.int .i64 (rd x4_1 x15_1))) (ds := []) (bT 17 0) Zi rfl rfl ⟨hx267_0, hx268_0, hx269_0⟩ (fun hHeld => ?_); refine with_tabW impl_FireOrder.tab9 impl_FireOrder.bits9 (fun HT_ HW_ => ?_); generalize wr.drew = w22 at HO_4 HO_5 BK262 HB hx267_0 hx268_0 hx269_0 hHeld ⊢; refine pureZ HT_ 0 (some 20) (bT 17 1) ?_; refine pureZ HT_ 1 (some 21) (bT 17 2) ?_; refine pureZ HT_ 2 (some 22) (bT 17 3) ?_; refine pureZ HT_ 3 (some 23) (bT 17 4) ?_; refine pureZ HT_ 4 (some 24) (bT 17 5) ?_; refine pureZ HT_ 5 (some 25) (bT 17 6) ?_; refine pureZ HT_ 6 (some 26) (bT 17 7) ?_; refine pureZ HT_ 7 (some 27) (bT 17 8) ?_; refine pureZ HT_ 11 (some 31) (bB 17 2303) ?_; refine pureZ HT_ 12 (some 32) (bB 17 6399) ?_; refine pureZ HT_ 13 (some 33) (bB 17 14591) ?_; refine takeZ3 HT_ HW_ 8 (some 28) (bB 17 14847) hHeld ?_; refine pureZ HT_ 9 (some 29) (bB 17 15359) ?_; refine takeZ3 HT_ HW_ 10 (some 30) (bT 17 14) hHeld ?_; refine takeZ3 HT_ HW_ 14 (some 34) (bT 17 15) hHeld ?_; refine pureZ HT_ 15 (some 35) (bT 17 16) ?_; refine pureZ HT_ 16 (some 36) (bT 17 17) ?_; refine done_ (done_of HT_.out Zi) ?_
                try go_wp2
                go_roundg k2
                case measure => have := HK1.out; have := HK2.out; omega
                case rel => exact ⟨(ji14), (by first | rfl | (simp; done) | (simp only [← hji14] <;> (first | rfl | simp)) | (simp [*]; done)), H', ⟨by have := HK1.out; have := HK2.out; omega⟩, ⟨(Zaq HO_4)⟩, ⟨(Zaq HO_5)⟩, ⟨(Zar BK262)⟩, ⟨(Zf GE262)⟩⟩
               ·rw [if_neg c21] at H
                have c21b0 : decide ((rd x4_1 x15_1) < (rd x4_1 (rd x5_1 (ji14)))) = false := decide_eq_false c21; clear c21
                by_cases c23 : x5_1.length < 17592186044416
                ·rw [if_pos c23] at H
                 have LMc23 := am_ c23; clear c23; obtain ⟨y270, hy270⟩ : ∃ y_ : List Int, y_ = (x5_1 ++ [0]) := ⟨_, rfl⟩
                 (first | (rw [← hy270] at H; with_reducible replace H := bindZ H) | rw [← hy270] at H | skip)
                 have Ny270 := am_ hy270; clear hy270; obtain ⟨ji24, hji24⟩ : ∃ j_ : Int, (wrap64 (x7_2 + 1)) = j_ := ⟨_, rfl⟩
                 replace H : (if 0 ≤ (ji24) then (if (ji24) ≤ (y270.length : Int) then (if 0 ≤ x7_2 then (if x7_2 ≤ (y270.length : Int) then ((some (cpyup y270 (x7_2 : Int).toNat : List Int)).bind fun y281 => (if x7_2 < (y281.length : Int) then (impl_FireOrder.l0 k2 x4_1 (y281.set (x7_2 : Int).toNat x15_1) (x4_1.length : Int) (wrap64 (x15_1 + 1))) else (none))) else (none)) else (none)) else (none)) else (none)) = some (r1, r2) := by first | (rw [hji24] at H; exact H) | (simp only [hji24] at H ⊢; exact H)
                 have hji24w : (IntKind.i64.wrap (x7_2 + 1)) = ji24 := (i64_w _).trans hji24
                 by_cases c25 : 0 ≤ (ji24)
                 ·rw [if_pos c25] at H
                  have c25b0 := eq_true c25; have c25b1 := decide_eq_true c25; clear c25
                  by_cases c26 : (ji24) ≤ (y270.length : Int)
                  ·rw [if_pos c26] at H
                   have c26b0 := eq_true c26; have c26b1 := decide_eq_true c26; clear c26; obtain ⟨y273, hy273⟩ : ∃ y_ : List Int, y_ = (y270.drop ((ji24) : Int).toNat) := ⟨_, rfl⟩
                   (first | (rw [← hy273] at H; with_reducible replace H := bindZ H) | rw [← hy273] at H | skip)
                   have Ny273 := am_ hy273; clear hy273
                   by_cases c27 : 0 ≤ x7_2
                   ·rw [if_pos c27] at H
                    have c27b0 := eq_true c27; have c27b1 := decide_eq_true c27; clear c27
                    by_cases c28 : x7_2 ≤ (y270.length : Int)
                    ·rw [if_pos c28] at H
                     have c28b0 := eq_true c28; have c28b1 := decide_eq_true c28; clear c28; obtain ⟨y277, hy277⟩ : ∃ y_ : List Int, y_ = (y270.drop (x7_2 : Int).toNat) := ⟨_, rfl⟩
                     (first | (rw [← hy277] at H; with_reducible replace H := bindZ H) | rw [← hy277] at H | skip)
                     have Ny277 := am_ hy277; clear hy277; obtain ⟨y281, hy281⟩ : ∃ y_ : List Int, y_ = (cpyup y270 (x7_2 : Int).toNat) := ⟨_, rfl⟩
                     (first | (rw [← hy281] at H; with_reducible replace H := bindZ H) | rw [← hy281] at H | skip)
                     have Ny281 := am_ hy281; clear hy281
                     by_cases c29 : x7_2 < (y281.length : Int)
                     ·rw [if_pos c29] at H
                      have c29b0 := decide_eq_true c29; clear c29; obtain ⟨y284, hy284⟩ : ∃ y_ : List Int, y_ = (y281.set (x7_2 : Int).toNat x15_1) := ⟨_, rfl⟩
                      (first | (rw [← hy284] at H; with_reducible replace H := bindZ H) | rw [← hy284] at H | skip)
                      have Ny284 := am_ hy284; clear hy284; have H' := am_ H; clear H
                      try go_wp2
                      replace HO_4 := am_ (Kd.R_drew HO_4.out); replace HO_5 := am_ (Kd.R_drew HO_5.out); replace BK262 := am_ (blk_drew BK262.out); replace HB := am_ (below_drew1 HB.out); have p267 : 0 ≤ ((ji14) : Int) := of_decide_eq_true Zn; have q267 : (ji14) < (x5_1.length : Int) := of_decide_eq_true Zn; obtain ⟨ad267, e267, hx267_0⟩ := Kd.at_int (Kd.R_reads' HO_5.out).2.2 (ji14) p267 q267
                      cases e267
                      replace p267 := eq_true p267; replace q267 := eq_true q267; have p268 : 0 ≤ ((rd x5_1 (ji14)) : Int) := of_decide_eq_true Zn; have q268 : (rd x5_1 (ji14)) < (x4_1.length : Int) := of_decide_eq_true Zn; obtain ⟨ad268, e268, hx268_0⟩ := Kd.at_int (Kd.R_reads' HO_4.out).2.2 (rd x5_1 (ji14)) p268 q268
                      cases e268
                      replace p268 := eq_true p268; replace q268 := eq_true q268; have p269 : 0 ≤ (x15_1 : Int) := of_decide_eq_true Zn; have q269 : x15_1 < (x4_1.length : Int) := of_decide_eq_true Zn; obtain ⟨ad269, e269, hx269_0⟩ := Kd.at_int (Kd.R_reads' HO_4.out).2.2 x15_1 p269 q269; obtain rfl : ad268 = ad269 := (by injection e269); replace p269 := eq_true p269; replace q269 := eq_true q269; refine start_ (n := 17) (S := fun w' => w'.cell? (ad267.add ((ji14)).toNat) = some (.int .i64 (rd x5_1 (ji14))) ∧ w'.cell? (ad268.add ((rd x5_1 (ji14))).toNat) = some (.int .i64 (rd x4_1 (rd x5_1 (ji14)))) ∧ w'.cell? (ad268.add (x15_1).toNat) = some (.int .i64 (rd x4_1 x15_1))) (ds := []) (bT 17 0) Zi rfl rfl ⟨hx267_0, hx268_0, hx269_0⟩ (fun hHeld => ?_); refine with_tabW impl_FireOrder.tab9 impl_FireOrder.bits9 (fun HT_ HW_ => ?_); generalize wr.drew = w31 at HO_4 HO_5 BK262 HB hx267_0 hx268_0 hx269_0 hHeld ⊢; refine pureZ HT_ 0 (some 20) (bT 17 1) ?_; refine pureZ HT_ 1 (some 21) (bT 17 2) ?_; refine pureZ HT_ 2 (some 22) (bT 17 3) ?_; refine pureZ HT_ 3 (some 23) (bT 17 4) ?_; refine pureZ HT_ 4 (some 24) (bT 17 5) ?_; refine pureZ HT_ 5 (some 25) (bT 17 6) ?_; refine pureZ HT_ 6 (some 26) (bT 17 7) ?_; refine pureZ HT_ 7 (some 27) (bT 17 8) ?_; refine pureZ HT_ 11 (some 31) (bB 17 2303) ?_; refine pureZ HT_ 12 (some 32) (bB 17 6399) ?_; refine pureZ HT_ 13 (some 33) (bB 17 14591) ?_; refine takeZ3 HT_ HW_ 8 (some 28) (bB 17 14847) hHeld ?_; refine pureZ HT_ 9 (some 29) (bB 17 15359) ?_; refine takeZ3 HT_ HW_ 10 (some 30) (bT 17 14) hHeld ?_; refine takeZ3 HT_ HW_ 14 (some 34) (bT 17 15) hHeld ?_; refine pureZ HT_ 15 (some 35) (bT 17 16) ?_; refine pureZ HT_ 16 (some 36) (bT 17 17) ?_; refine done_ (done_of HT_.out Zi) ?_
                      try go_wp2_with (first | ((with_reducible refine gate_builtin (b := .append) (xs := #[.tmp 39, .tmp 40]) rfl ?_); at_builtin; refine Kd.R_append (Kd.int .i64) (w0 := w) w.heap.size rfl (.tmp 39) (.tmp 40) 28 2 (.int .i64 0) 8 rfl Try.underlying28 info2 rfl (by decide) (by omega) (.slice (some ad267) x5_1.length co12) x5_1 0 [.int .i64 0] (fun k_ => some k_ ≠ (.slice (some ad268) x4_1.length co10 : Value).ownBlock) (fun _ => False) rfl rfl ?aP (fun _ hk => hk.elim) ?aF ?aO ?aB ?aS ?aL ?_; (case aP => exact rfl); (case aB => exact (Zf GE262)); (case aF => exact (fun k_ hk => Kd.fresh' (Kd.R_lt (Zo HO_4)) k_ hk)); (case aO => exact (Zo HO_5)); (case aS => exact (below_size (Zf GE262))); (case aL => have := LMc23.out; omega); intro v271 w32 ho hb hg hat; rw [← Ny270.out] at ho; replace HO_4 := am_ (Kd.R_after (ok := (fun _ => True)) (by (with_reducible repeat (first | apply Kd.R_alloc | apply Kd.R_drewN | apply Kd.R_drew)); exact Kd.R_mono HO_4.out (fun _ hk => ⟨trivial, hk⟩)) hg hat); replace BK262 := am_ (blk_grown (g := gb262) (b0Z BK262) hg (Kd.R_ne HO_5.out BK262.out (by decide))); replace HB := am_ (hb); replace HO272 := am_ (ho); clear HO_5; clear ho hb hg hat))
                      replace HO_4 := am_ (Kd.R_drew HO_4.out); replace HO272 := am_ (Kd.R_drew HO272.out); replace BK262 := am_ (blk_drew BK262.out); replace HB := am_ (below_drew1 HB.out); obtain ⟨Ao35, co35, eo35⟩ := Kd.R_slice HO272.out
                      (first | subst eo35 | (injection eo35 with f1_ f2_ f3_; have f4_ := f1_.symm; have f5_ := f3_.symm; clear f1_ f2_ f3_; subst f4_; subst f5_))
                      have q34 : ((ji24) : Int) ≤ ((y270.length : Int) : Int) := of_decide_eq_true Zn; obtain ⟨i034, hi034, _, hsz34, _⟩ := info_parts info2; have hroom34 : y270.length ≤ co35 := (Kd.R_reads' HO272.out).2.1; have hC34 : Kd.C (Kd.int .i64) _ Ao35 y270.length y270 := (Kd.R_reads' HO272.out).2.2; have q034 : (0 : Int) ≤ ((ji24) : Int) := of_decide_eq_true Zn; have hcut34 := cut_from (P := Try.prog) 28 2 .i64 Try.underlying28 hi034 1 hsz34 Ao35 y270.length co35 (ji24) q034 q34; have hr34 := Kd.C_drop (m := ((ji24) : Int).toNat) (c := co35) hC34 (by omega) hroom34; obtain ⟨A34, hA34⟩ : ∃ A1, A1 = (if co35 = ((ji24) : Int).toNat then Ao35 else (Ao35 : Option Addr).map (·.add (((ji24) : Int).toNat * 1))) := ⟨_, rfl⟩; obtain ⟨c34, hc34⟩ : ∃ c1, c1 = co35 - ((ji24) : Int).toNat := ⟨_, rfl⟩; have hy34 : y273.length = y270.length - ((ji24) : Int).toNat := (by rw [Ny273.out, List.length_drop] <;> omega); rw [show (y270).drop ((ji24) : Int).toNat = y273 from Ny273.out.symm] at hr34; replace hr34 : Kd.C (Kd.int .i64) _ A34 y273.length y273 := (by rw [hA34]; exact hr34); rw [← hy34, ← hA34, ← hc34] at hcut34; have HR276 := am_ hr34; have HC276 := am_ (show y273.length ≤ c34 from (by rw [hy34, hc34]; exact Nat.sub_le_sub_right hroom34 _)); clear hr34 hC34 hroom34 hi034 hsz34 hc34; have KY34 := am_ hy34; have KA34 := am_ hA34; clear hy34 hA34; have KL34 := am_ (show ((ji24) : Int).toNat ≤ y270.length from (by omega)); replace q34 := eq_true q34; have q36 : (x7_2 : Int) ≤ ((y270.length : Int) : Int) := of_decide_eq_true Zn; obtain ⟨i036, hi036, _, hsz36, _⟩ := info_parts info2; have hroom36 : y270.length ≤ co35 := (Kd.R_reads' HO272.out).2.1; have hC36 : Kd.C (Kd.int .i64) _ Ao35 y270.length y270 := (Kd.R_reads' HO272.out).2.2; have q036 : (0 : Int) ≤ (x7_2 : Int) := of_decide_eq_true Zn; have hcut36 := cut_from (P := Try.prog) 28 2 .i64 Try.underlying28 hi036 1 hsz36 Ao35 y270.length co35 x7_2 q036 q36; have hr36 := Kd.C_drop (m := (x7_2 : Int).toNat) (c := co35) hC36 (by omega) hroom36; obtain ⟨A36, hA36⟩ : ∃ A1, A1 = (if co35 = (x7_2 : Int).toNat then Ao35 else (Ao35 : Option Addr).map (·.add ((x7_2 : Int).toNat * 1))) := ⟨_, rfl⟩; obtain ⟨c36, hc36⟩ : ∃ c1, c1 = co35 - (x7_2 : Int).toNat := ⟨_, rfl⟩; have hy36 : y277.length = y270.length - (x7_2 : Int).toNat := (by rw [Ny277.out, List.length_drop] <;> omega); rw [show (y270).drop (x7_2 : Int).toNat = y277 from Ny277.out.symm] at hr36; replace hr36 : Kd.C (Kd.int .i64) _ A36 y277.length y277 := (by rw [hA36]; exact hr36); rw [← hy36, ← hA36, ← hc36] at hcut36; have HR280 := am_ hr36; have HC280 := am_ (show y277.length ≤ c36 from (by rw [hy36, hc36]; exact Nat.sub_le_sub_right hroom36 _)); clear hr36 hC36 hroom36 hi036 hsz36 hc36; have KY36 := am_ hy36; have KA36 := am_ hA36; clear hy36 hA36; have KL36 := am_ (show (x7_2 : Int).toNat ≤ y270.length from (by omega)); replace q36 := eq_true q36; obtain ⟨go38, co38, eo38, gb38, gl38, cl38, HG38⟩ := Kd.R_form HO272.out (by have hj_ : 0 ≤ (x7_2 : Int) := of_decide_eq_true Zn; have hl_ : (ji24 : Int) ≤ (y270.length : Int) := of_decide_eq_true Zn; have hh_ : (x7_2 : Int) ≤ (y270.length : Int) := of_decide_eq_true Zn; rw [← hji24] at hl_; unfold wrap64 at hl_; omega)
                      (first | cases eo38 | (injection eo38 with ea_ en_ ec_; (first | subst ea_ | (injection ea_ with ea_; subst ea_)); subst ec_; clear en_))
                      have GB38 := am_ gb38; have GG38 := am_ HG38; clear gb38 gl38 HG38; refine start_ (n := 8) (S := fun w' => True) (ds := []) (bT 8 0) Zi rfl rfl trivial (fun hHeld => ?_); refine with_tabW impl_FireOrder.tab12 impl_FireOrder.bits12 (fun HT_ HW_ => ?_); generalize w32.drew = w33 at HO_4 HO272 BK262 HB GG38 HR276 HR280 hHeld ⊢; refine pureZ HT_ 0 (some 42) (bT 8 1) ?_; refine pureZ HT_ 1 (some 43) (bT 8 2) ?_; refine pureZ HT_ 2 (some 44) (bT 8 3) ?_; refine pureZ HT_ 3 (some 45) (bT 8 4) ?_; refine pureZ HT_ 4 (some 46) (bT 8 5) ?_; refine pureZ HT_ 5 (some 47) (bT 8 6) ?_; refine pureZ HT_ 6 (some 48) (bT 8 7) ?_; refine one_ (i := 7) (N := some 49) (bT 8 8) rfl rfl (one_of HT_.out Zi) (by decide) (fun K hK => ?_); have hj_ : 0 ≤ (x7_2 : Int) := of_decide_eq_true Zn; have hl_ : (ji24 : Int) ≤ (y270.length : Int) := of_decide_eq_true Zn; have hh_ : (x7_2 : Int) ≤ (y270.length : Int) := of_decide_eq_true Zn; have hb_ := (Kd.R_reads' HO272.out).2.2.2.1; have h0_ : (0 : Int) ≤ (ji24 : Int) := of_decide_eq_true Zn; have hk_ : (ji24 : Int).toNat = (x7_2 : Int).toNat + 1 := (by have hw_ : (ji24 : Int) = x7_2 + 1 := (by have h00_ := h0_; rw [← hji24] at h00_ ⊢; unfold wrap64 at h00_ ⊢; omega); rw [hw_]; omega); refine R_copyup_step (w0 := w) w.heap.size (by rfl) (.tmp 45) (.tmp 48) 28 2 rfl Try.underlying28 Zi (g := go38) (n := y270.length) (c := co35) (k := (x7_2 : Int).toNat) rfl rfl ?hA ?hB ?hm1 ?hm2 (Zo HO272) ?hk (Zf GE262) (below_size (Zf GE262)) ?_
                      (case hA => have ha_ := KA34.out; rw [hk_] at ha_; exact ha_)
                      (case hB => exact KA36.out)
                      (case hm1 => have ha_ := KY34.out; omega)
                      (case hm2 => have ha_ := KY36.out; omega)
                      (case hk => omega)
                      intro w37 ho hb hg; clear hj_ hl_ hh_ hb_ hk_ h0_; rw [← Ny281.out] at ho; have hn_ : y270.length = y281.length := (Kd.R_reads' ho).1; rw [hn_] at ho ⊢; clear hn_; replace HO_4 := am_ (Kd.R_after (v := (.slice (some ⟨go38, 0, none⟩) y270.length co35)) (v1 := .slice (some ⟨go38, 0, none⟩) y281.length co35) (ok := (fun _ => True)) (Zo HO_4) hg (.inl rfl)); replace BK262 := am_ (blk_grown (g := gb262) (b0Z BK262) hg (Kd.R_ne HO272.out BK262.out (by decide))); replace HO272 := am_ (ho); replace HB := am_ (hb); clear ho hb hg; refine hK.out _ _ trivial (fun hHeld => ?_); clear hK K; refine normZ 49 ?_; refine done_ (done_of HT_.out Zi) ?_; have p30 : 0 ≤ (x7_2 : Int) := of_decide_eq_true Zn; have q30 : (x7_2 : Int) < ((y281.length : Int) : Int) := of_decide_eq_true Zn; obtain ⟨hx30_0, hf30_0⟩ := Kd.R_celln 0 HO272.out (x7_2 : Int) p30 q30; replace p30 := eq_true p30; replace q30 := eq_true q30; obtain ⟨hy39_, hz39_⟩ := Kd.R_celln 0 HO272.out (x7_2 : Int) (of_decide_eq_true Zn) (of_decide_eq_true Zn); have HP39 := Kd.R_putg HO272.out (x7_2 : Int) x15_1
                      try go_wp2_with (first | ((with_reducible refine gate_store (t := 2) (p := 53) rfl ?_); refine store_event (t := 2) (p := 53) (v := ?vo_w40) (w1 := (w37.setCell ⟨go38, (x7_2 : Int).toNat, none⟩ (.int .i64 x15_1))) ?hg ?ho ?hn ?hr ?_; (case ho => rfl); (case hg => rfl); (case hn => rfl); (case hr => first | (go_simp; done) | (go_simp; rfl)); intro w40 hw; have hg : w37.grownBy w40 (some go38) := (by rw [hw]; exact HP39.2); have hp_ : Kd.R (Kd.int .i64) 2 w40 w.heap.size (fun k_ => some k_ ≠ (.slice (some ad268) x4_1.length co10 : Value).ownBlock) (.slice (some ⟨go38, 0, none⟩) y281.length co35) y284 := (by rw [hw, Ny284.out]; exact HP39.1); clear HP39; replace HO_4 := am_ (Kd.R_after (v := (.slice (some ⟨go38, 0, none⟩) y281.length co35)) (v1 := (.slice (some ⟨go38, 0, none⟩) y281.length co35)) (ok := (fun _ => True)) (Zo HO_4) hg (.inl rfl)); replace BK262 := am_ (blk_grown (g := gb262) (b0Z BK262) hg (Kd.R_ne HO272.out BK262.out (by decide))); replace HO272 := am_ (hp_); replace HB := am_ (((Zu GB38) : Below w.heap.size w w40)); clear hg hw hp_))
                      (try simp only [← hl4_1])
                      go_roundg k2
                      case measure => have := HK1.out; have := HK2.out; omega
                      case rel => exact ⟨(x4_1), (y284), (wrap64 (x15_1 + 1)), Za, (by (try simp only [hl4_1]); exact H'), ⟨by have := HK1.out; have := HK2.out; omega⟩, ⟨by (try simp only [hl4_1]); (with_reducible repeat (first | apply Kd.R_alloc | apply Kd.R_drewN | apply Kd.R_drew)); exact Kd.R_mono HO_4.out (fun _ hk => hk.2)⟩, ⟨(Zaq HO272)⟩, ⟨(Zar BK262)⟩, ⟨(Zf GE262)⟩⟩
                     ·rw [if_neg c29] at H
                      exact absurd H (by simp)
                    ·rw [if_neg c28] at H
                     exact absurd H (by simp)
                   ·rw [if_neg c27] at H
                    exact absurd H (by simp)
                  ·rw [if_neg c26] at H
                   exact absurd H (by simp)
                 ·rw [if_neg c25] at H
                  exact absurd H (by simp)
                ·rw [if_neg c23] at H
                 exact absurd H (by simp)
              ·rw [if_neg c20] at H
               exact absurd H (by simp)
             ·rw [if_neg c19] at H
              exact absurd H (by simp)
            ·rw [if_neg c18] at H
             exact absurd H (by simp)
           ·rw [if_neg c17] at H
            exact absurd H (by simp)
          ·rw [if_neg c16] at H
           exact absurd H (by simp)
         ·rw [if_neg c15] at H
          exact absurd H (by simp)
        ·rw [if_neg c13] at H
         have c13b0 : decide (0 < x7_2) = false := decide_eq_false c13; clear c13
         by_cases c41 : x5_1.length < 17592186044416
         ·rw [if_pos c41] at H
          have LMc41 := am_ c41; clear c41; obtain ⟨y285, hy285⟩ : ∃ y_ : List Int, y_ = (x5_1 ++ [0]) := ⟨_, rfl⟩
          (first | (rw [← hy285] at H; with_reducible replace H := bindZ H) | rw [← hy285] at H | skip)
          have Ny285 := am_ hy285; clear hy285; obtain ⟨ji42, hji42⟩ : ∃ j_ : Int, (wrap64 (x7_2 + 1)) = j_ := ⟨_, rfl⟩
          replace H : (if 0 ≤ (ji42) then (if (ji42) ≤ (y285.length : Int) then (if 0 ≤ x7_2 then (if x7_2 ≤ (y285.length : Int) then ((some (cpyup y285 (x7_2 : Int).toNat : List Int)).bind fun y296 => (if x7_2 < (y296.length : Int) then (impl_FireOrder.l0 k2 x4_1 (y296.set (x7_2 : Int).toNat x15_1) (x4_1.length : Int) (wrap64 (x15_1 + 1))) else (none))) else (none)) else (none)) else (none)) else (none)) = some (r1, r2) := by first | (rw [hji42] at H; exact H) | (simp only [hji42] at H ⊢; exact H)
          have hji42w : (IntKind.i64.wrap (x7_2 + 1)) = ji42 := (i64_w _).trans hji42
          by_cases c43 : 0 ≤ (ji42)
          ·rw [if_pos c43] at H
           have c43b0 := eq_true c43; have c43b1 := decide_eq_true c43; clear c43
           by_cases c44 : (ji42) ≤ (y285.length : Int)
           ·rw [if_pos c44] at H
            have c44b0 := eq_true c44; have c44b1 := decide_eq_true c44; clear c44; obtain ⟨y288, hy288⟩ : ∃ y_ : List Int, y_ = (y285.drop ((ji42) : Int).toNat) := ⟨_, rfl⟩
            (first | (rw [← hy288] at H; with_reducible replace H := bindZ H) | rw [← hy288] at H | skip)
            have Ny288 := am_ hy288; clear hy288
            by_cases c45 : 0 ≤ x7_2
            ·rw [if_pos c45] at H
             have c45b0 := eq_true c45; have c45b1 := decide_eq_true c45; clear c45
             by_cases c46 : x7_2 ≤ (y285.length : Int)
             ·rw [if_pos c46] at H
              have c46b0 := eq_true c46; have c46b1 := decide_eq_true c46; clear c46; obtain ⟨y292, hy292⟩ : ∃ y_ : List Int, y_ = (y285.drop (x7_2 : Int).toNat) := ⟨_, rfl⟩
              (first | (rw [← hy292] at H; with_reducible replace H := bindZ H) | rw [← hy292] at H | skip)
              have Ny292 := am_ hy292; clear hy292; obtain ⟨y296, hy296⟩ : ∃ y_ : List Int, y_ = (cpyup y285 (x7_2 : Int).toNat) := ⟨_, rfl⟩
              (first | (rw [← hy296] at H; with_reducible replace H := bindZ H) | rw [← hy296] at H | skip)
              have Ny296 := am_ hy296; clear hy296
              by_cases c47 : x7_2 < (y296.length : Int)
              ·rw [if_pos c47] at H
               have c47b0 := decide_eq_true c47; clear c47; obtain ⟨y299, hy299⟩ : ∃ y_ : List Int, y_ = (y296.set (x7_2 : Int).toNat x15_1) := ⟨_, rfl⟩
               (first | (rw [← hy299] at H; with_reducible replace H := bindZ H) | rw [← hy299] at H | skip)
               have Ny299 := am_ hy299; clear hy299; have H' := am_ H; clear H
               try go_wp2
               replace HO_4 := am_ (Kd.R_drew HO_4.out); replace HO_5 := am_ (Kd.R_drew HO_5.out); replace BK262 := am_ (blk_drew BK262.out); replace HB := am_ (below_drew1 HB.out); refine start_ (n := 17) (S := fun w' => True) (ds := []) (bT 17 0) Zi rfl rfl trivial (fun hHeld => ?_); refine with_tabW impl_FireOrder.tab9 impl_FireOrder.bits9 (fun HT_ HW_ => ?_); generalize wr.drew = w49 at HO_4 HO_5 BK262 HB hHeld ⊢; refine pureZ HT_ 0 (some 20) (bT 17 1) ?_; refine pureZ HT_ 1 (some 21) (bT 17 2) ?_; refine pureZ HT_ 2 (some 22) (bT 17 3) ?_; refine pureU HT_ 3 (some 23) (bT 17 4) ?_; refine pureU HT_ 4 (some 24) (bT 17 5) ?_; refine pureU HT_ 5 (some 25) (bT 17 6) ?_; refine pureU HT_ 6 (some 26) (bT 17 7) ?_; refine pureU HT_ 7 (some 27) (bT 17 8) ?_; refine pureU HT_ 8 (some 28) (bT 17 9) ?_; refine pureU HT_ 9 (some 29) (bT 17 10) ?_; refine pureU HT_ 10 (some 30) (bT 17 11) ?_; refine pureU HT_ 11 (some 31) (bT 17 12) ?_; refine pureU HT_ 12 (some 32) (bT 17 13) ?_; refine pureU HT_ 13 (some 33) (bT 17 14) ?_; refine pureU HT_ 14 (some 34) (bT 17 15) ?_; refine pureU HT_ 15 (some 35) (bT 17 16) ?_; refine pureZ HT_ 16 (some 36) (bT 17 17) ?_; refine done_ (done_of HT_.out Zi) ?_
               try go_wp2_with (first | ((with_reducible refine gate_builtin (b := .append) (xs := #[.tmp 39, .tmp 40]) rfl ?_); at_builtin; refine Kd.R_append (Kd.int .i64) (w0 := w) w.heap.size rfl (.tmp 39) (.tmp 40) 28 2 (.int .i64 0) 8 rfl Try.underlying28 info2 rfl (by decide) (by omega) (.slice Ao12 x5_1.length co12) x5_1 0 [.int .i64 0] (fun k_ => some k_ ≠ (.slice Ao10 x4_1.length co10 : Value).ownBlock) (fun _ => False) rfl rfl ?aP (fun _ hk => hk.elim) ?aF ?aO ?aB ?aS ?aL ?_; (case aP => exact rfl); (case aB => exact (Zf GE262)); (case aF => exact (fun k_ hk => Kd.fresh' (Kd.R_lt (Zo HO_4)) k_ hk)); (case aO => exact (Zo HO_5)); (case aS => exact (below_size (Zf GE262))); (case aL => have := LMc41.out; omega); intro v286 w50 ho hb hg hat; rw [← Ny285.out] at ho; replace HO_4 := am_ (Kd.R_after (ok := (fun _ => True)) (by (with_reducible repeat (first | apply Kd.R_alloc | apply Kd.R_drewN | apply Kd.R_drew)); exact Kd.R_mono HO_4.out (fun _ hk => ⟨trivial, hk⟩)) hg hat); replace BK262 := am_ (blk_grown (g := gb262) (b0Z BK262) hg (Kd.R_ne HO_5.out BK262.out (by decide))); replace HB := am_ (hb); replace HO287 := am_ (ho); clear HO_5; clear ho hb hg hat))
               replace HO_4 := am_ (Kd.R_drew HO_4.out); replace HO287 := am_ (Kd.R_drew HO287.out); replace BK262 := am_ (blk_drew BK262.out); replace HB := am_ (below_drew1 HB.out); obtain ⟨Ao53, co53, eo53⟩ := Kd.R_slice HO287.out
               (first | subst eo53 | (injection eo53 with f1_ f2_ f3_; have f4_ := f1_.symm; have f5_ := f3_.symm; clear f1_ f2_ f3_; subst f4_; subst f5_))
               have q52 : ((ji42) : Int) ≤ ((y285.length : Int) : Int) := of_decide_eq_true Zn; obtain ⟨i052, hi052, _, hsz52, _⟩ := info_parts info2; have hroom52 : y285.length ≤ co53 := (Kd.R_reads' HO287.out).2.1; have hC52 : Kd.C (Kd.int .i64) _ Ao53 y285.length y285 := (Kd.R_reads' HO287.out).2.2; have q052 : (0 : Int) ≤ ((ji42) : Int) := of_decide_eq_true Zn; have hcut52 := cut_from (P := Try.prog) 28 2 .i64 Try.underlying28 hi052 1 hsz52 Ao53 y285.length co53 (ji42) q052 q52; have hr52 := Kd.C_drop (m := ((ji42) : Int).toNat) (c := co53) hC52 (by omega) hroom52; obtain ⟨A52, hA52⟩ : ∃ A1, A1 = (if co53 = ((ji42) : Int).toNat then Ao53 else (Ao53 : Option Addr).map (·.add (((ji42) : Int).toNat * 1))) := ⟨_, rfl⟩; obtain ⟨c52, hc52⟩ : ∃ c1, c1 = co53 - ((ji42) : Int).toNat := ⟨_, rfl⟩; have hy52 : y288.length = y285.length - ((ji42) : Int).toNat := (by rw [Ny288.out, List.length_drop] <;> omega); rw [show (y285).drop ((ji42) : Int).toNat = y288 from Ny288.out.symm] at hr52; replace hr52 : Kd.C (Kd.int .i64) _ A52 y288.length y288 := (by rw [hA52]; exact hr52); rw [← hy52, ← hA52, ← hc52] at hcut52; have HR291 := am_ hr52; have HC291 := am_ (show y288.length ≤ c52 from (by rw [hy52, hc52]; exact Nat.sub_le_sub_right hroom52 _)); clear hr52 hC52 hroom52 hi052 hsz52 hc52; have KY52 := am_ hy52; have KA52 := am_ hA52; clear hy52 hA52; have KL52 := am_ (show ((ji42) : Int).toNat ≤ y285.length from (by omega)); replace q52 := eq_true q52; have q54 : (x7_2 : Int) ≤ ((y285.length : Int) : Int) := of_decide_eq_true Zn; obtain ⟨i054, hi054, _, hsz54, _⟩ := info_parts info2; have hroom54 : y285.length ≤ co53 := (Kd.R_reads' HO287.out).2.1; have hC54 : Kd.C (Kd.int .i64) _ Ao53 y285.length y285 := (Kd.R_reads' HO287.out).2.2; have q054 : (0 : Int) ≤ (x7_2 : Int) := of_decide_eq_true Zn; have hcut54 := cut_from (P := Try.prog) 28 2 .i64 Try.underlying28 hi054 1 hsz54 Ao53 y285.length co53 x7_2 q054 q54; have hr54 := Kd.C_drop (m := (x7_2 : Int).toNat) (c := co53) hC54 (by omega) hroom54; obtain ⟨A54, hA54⟩ : ∃ A1, A1 = (if co53 = (x7_2 : Int).toNat then Ao53 else (Ao53 : Option Addr).map (·.add ((x7_2 : Int).toNat * 1))) := ⟨_, rfl⟩; obtain ⟨c54, hc54⟩ : ∃ c1, c1 = co53 - (x7_2 : Int).toNat := ⟨_, rfl⟩; have hy54 : y292.length = y285.length - (x7_2 : Int).toNat := (by rw [Ny292.out, List.length_drop] <;> omega); rw [show (y285).drop (x7_2 : Int).toNat = y292 from Ny292.out.symm] at hr54; replace hr54 : Kd.C (Kd.int .i64) _ A54 y292.length y292 := (by rw [hA54]; exact hr54); rw [← hy54, ← hA54, ← hc54] at hcut54; have HR295 := am_ hr54; have HC295 := am_ (show y292.length ≤ c54 from (by rw [hy54, hc54]; exact Nat.sub_le_sub_right hroom54 _)); clear hr54 hC54 hroom54 hi054 hsz54 hc54; have KY54 := am_ hy54; have KA54 := am_ hA54; clear hy54 hA54; have KL54 := am_ (show (x7_2 : Int).toNat ≤ y285.length from (by omega)); replace q54 := eq_true q54; obtain ⟨go56, co56, eo56, gb56, gl56, cl56, HG56⟩ := Kd.R_form HO287.out (by have hj_ : 0 ≤ (x7_2 : Int) := of_decide_eq_true Zn; have hl_ : (ji42 : Int) ≤ (y285.length : Int) := of_decide_eq_true Zn; have hh_ : (x7_2 : Int) ≤ (y285.length : Int) := of_decide_eq_true Zn; rw [← hji42] at hl_; unfold wrap64 at hl_; omega)
               (first | cases eo56 | (injection eo56 with ea_ en_ ec_; (first | subst ea_ | (injection ea_ with ea_; subst ea_)); subst ec_; clear en_))
               have GB56 := am_ gb56; have GG56 := am_ HG56; clear gb56 gl56 HG56; refine start_ (n := 8) (S := fun w' => True) (ds := []) (bT 8 0) Zi rfl rfl trivial (fun hHeld => ?_); refine with_tabW impl_FireOrder.tab12 impl_FireOrder.bits12 (fun HT_ HW_ => ?_); generalize w50.drew = w51 at HO_4 HO287 BK262 HB GG56 HR291 HR295 hHeld ⊢; refine pureZ HT_ 0 (some 42) (bT 8 1) ?_; refine pureZ HT_ 1 (some 43) (bT 8 2) ?_; refine pureZ HT_ 2 (some 44) (bT 8 3) ?_; refine pureZ HT_ 3 (some 45) (bT 8 4) ?_; refine pureZ HT_ 4 (some 46) (bT 8 5) ?_; refine pureZ HT_ 5 (some 47) (bT 8 6) ?_; refine pureZ HT_ 6 (some 48) (bT 8 7) ?_; refine one_ (i := 7) (N := some 49) (bT 8 8) rfl rfl (one_of HT_.out Zi) (by decide) (fun K hK => ?_); have hj_ : 0 ≤ (x7_2 : Int) := of_decide_eq_true Zn; have hl_ : (ji42 : Int) ≤ (y285.length : Int) := of_decide_eq_true Zn; have hh_ : (x7_2 : Int) ≤ (y285.length : Int) := of_decide_eq_true Zn; have hb_ := (Kd.R_reads' HO287.out).2.2.2.1; have h0_ : (0 : Int) ≤ (ji42 : Int) := of_decide_eq_true Zn; have hk_ : (ji42 : Int).toNat = (x7_2 : Int).toNat + 1 := (by have hw_ : (ji42 : Int) = x7_2 + 1 := (by have h00_ := h0_; rw [← hji42] at h00_ ⊢; unfold wrap64 at h00_ ⊢; omega); rw [hw_]; omega); refine R_copyup_step (w0 := w) w.heap.size (by rfl) (.tmp 45) (.tmp 48) 28 2 rfl Try.underlying28 Zi (g := go56) (n := y285.length) (c := co53) (k := (x7_2 : Int).toNat) rfl rfl ?hA ?hB ?hm1 ?hm2 (Zo HO287) ?hk (Zf GE262) (below_size (Zf GE262)) ?_
               (case hA => have ha_ := KA52.out; rw [hk_] at ha_; exact ha_)
               (case hB => exact KA54.out)
               (case hm1 => have ha_ := KY52.out; omega)
               (case hm2 => have ha_ := KY54.out; omega)
               (case hk => omega)
               intro w55 ho hb hg; clear hj_ hl_ hh_ hb_ hk_ h0_; rw [← Ny296.out] at ho; have hn_ : y285.length = y296.length := (Kd.R_reads' ho).1; rw [hn_] at ho ⊢; clear hn_; replace HO_4 := am_ (Kd.R_after (v := (.slice (some ⟨go56, 0, none⟩) y285.length co53)) (v1 := .slice (some ⟨go56, 0, none⟩) y296.length co53) (ok := (fun _ => True)) (Zo HO_4) hg (.inl rfl)); replace BK262 := am_ (blk_grown (g := gb262) (b0Z BK262) hg (Kd.R_ne HO287.out BK262.out (by decide))); replace HO287 := am_ (ho); replace HB := am_ (hb); clear ho hb hg; refine hK.out _ _ trivial (fun hHeld => ?_); clear hK K; refine normZ 49 ?_; refine done_ (done_of HT_.out Zi) ?_; have p48 : 0 ≤ (x7_2 : Int) := of_decide_eq_true Zn; have q48 : (x7_2 : Int) < ((y296.length : Int) : Int) := of_decide_eq_true Zn; obtain ⟨hx48_0, hf48_0⟩ := Kd.R_celln 0 HO287.out (x7_2 : Int) p48 q48; replace p48 := eq_true p48; replace q48 := eq_true q48; obtain ⟨hy57_, hz57_⟩ := Kd.R_celln 0 HO287.out (x7_2 : Int) (of_decide_eq_true Zn) (of_decide_eq_true Zn); have HP57 := Kd.R_putg HO287.out (x7_2 : Int) x15_1
               try go_wp2_with (first | ((with_reducible refine gate_store (t := 2) (p := 53) rfl ?_); refine store_event (t := 2) (p := 53) (v := ?vo_w58) (w1 := (w55.setCell ⟨go56, (x7_2 : Int).toNat, none⟩ (.int .i64 x15_1))) ?hg ?ho ?hn ?hr ?_; (case ho => rfl); (case hg => rfl); (case hn => rfl); (case hr => first | (go_simp; done) | (go_simp; rfl)); intro w58 hw; have hg : w55.grownBy w58 (some go56) := (by rw [hw]; exact HP57.2); have hp_ : Kd.R (Kd.int .i64) 2 w58 w.heap.size (fun k_ => some k_ ≠ (.slice Ao10 x4_1.length co10 : Value).ownBlock) (.slice (some ⟨go56, 0, none⟩) y296.length co53) y299 := (by rw [hw, Ny299.out]; exact HP57.1); clear HP57; replace HO_4 := am_ (Kd.R_after (v := (.slice (some ⟨go56, 0, none⟩) y296.length co53)) (v1 := (.slice (some ⟨go56, 0, none⟩) y296.length co53)) (ok := (fun _ => True)) (Zo HO_4) hg (.inl rfl)); replace BK262 := am_ (blk_grown (g := gb262) (b0Z BK262) hg (Kd.R_ne HO287.out BK262.out (by decide))); replace HO287 := am_ (hp_); replace HB := am_ (((Zu GB56) : Below w.heap.size w w58)); clear hg hw hp_))
               (try simp only [← hl4_1])
               go_roundg k2
               case measure => have := HK1.out; have := HK2.out; omega
               case rel => exact ⟨(x4_1), (y299), (wrap64 (x15_1 + 1)), Za, (by (try simp only [hl4_1]); exact H'), ⟨by have := HK1.out; have := HK2.out; omega⟩, ⟨by (try simp only [hl4_1]); (with_reducible repeat (first | apply Kd.R_alloc | apply Kd.R_drewN | apply Kd.R_drew)); exact Kd.R_mono HO_4.out (fun _ hk => hk.2)⟩, ⟨(Zaq HO287)⟩, ⟨(Zar BK262)⟩, ⟨(Zf GE262)⟩⟩
              ·rw [if_neg c47] at H
               exact absurd H (by simp)
             ·rw [if_neg c46] at H
              exact absurd H (by simp)
            ·rw [if_neg c45] at H
             exact absurd H (by simp)
           ·rw [if_neg c44] at H
            exact absurd H (by simp)
          ·rw [if_neg c43] at H
           exact absurd H (by simp)
         ·rw [if_neg c41] at H
          exact absurd H (by simp)
     ·rw [if_neg c11] at H
      have c11b0 := decide_eq_false c11; clear c11; simp only [Option.some.injEq, Prod.mk.injEq] at H; obtain ⟨rfl, rfl⟩ := H
      go_wp2
      go_ret2
      exact ⟨_, Zj, (Zan HO_5), (Zf GE262)⟩
  ·have H := HS_.out
   clear HS_; replace c3 := Bool.eq_false_iff.mpr c3; subst c3; rw [if_neg (show ¬ (false = true) by decide)] at H; simp only [Option.some.injEq, Prod.mk.injEq] at H; obtain ⟨rfl, rfl⟩ := H
   go_wp2_with (first | fail)
   go_ret2
   exact ⟨_, Zj, Zm, (Zf GE262)⟩
def laws_eqInt64S.l0 : Nat → List Int → List Int → Int → Option (Bool)
 | 0, _, _, _ => none
 | k + 1, x0, x1, x5 => if x5 < (x0.length : Int) then (if 0 ≤ x5 then (if x5 < (x1.length : Int) then (if (rd x0 x5) = (rd x1 x5) then (laws_eqInt64S.l0 k x0 x1 (wrap64 (x5 + 1))) else (some false)) else (none)) else (none)) else (some true)
def laws_eqInt64S.f (k : Nat) (l0 : List Int) (l1 : List Int) : Option (Bool) := if (l0.length : Int) = (l1.length : Int) then (laws_eqInt64S.l0 k l0 l1 0) else (some false)
set_option maxHeartbeats 8000000 in
set_option maxRecDepth 100000 in
theorem laws_eqInt64S.calls (k : Nat) (A0 : Option Addr) (c0 : Nat) (l0 : List Int) (A1 : Option Addr) (c1 : Nat) (l1 : List Int) (r : Bool) (w : World) (hr0 : Kd.C (Kd.int .i64) w A0 l0.length l0) (hc0 : l0.length ≤ c0) (hr1 : Kd.C (Kd.int .i64) w A1 l1.length l1) (hc1 : l1.length ≤ c1) (h : laws_eqInt64S.f k l0 l1 = some r) :
  Calls Try.prog 11 #[.slice A0 l0.length c0, .slice A1 l1.length c1] w fun e w' => e = .returned (.bool r) ∧ Drawn0 w w' := by
 have HR0 := am_ hr0; have HC0 := am_ hc0; clear hr0 hc0; have HR1 := am_ hr1; have HC1 := am_ hc1; clear hr1 hc1; have H : (if (l0.length : Int) = (l1.length : Int) then (laws_eqInt64S.l0 k l0 l1 0) else (some false)) = some r := h; clear h
 by_cases c3 : (l0.length : Int) = (l1.length : Int)
 ·rw [if_pos c3] at H
  have c3b0 := beq_iff_eq.mpr c3; have c3b1 := bne_eq_false_iff_eq.mpr c3
  have c3b2 : (l0.length == l1.length) = true := by first | simpa using c3 | (simp at c3 ⊢; omega)
  clear c3; have H' := am_ H; clear H
  go_enter Try.func11, Try.ntmps11
  go_wp2
  repeat (go_quiet (fail); try go_wp2)
  go_loopg [5] k (fun kq v5 w' => ∃ (x5_1 : Int), v5 = .int .i64 x5_1 ∧ Aside0 (laws_eqInt64S.l0 kq l0 l1 x5_1 = some r) ∧ Aside0 (kq ≤ k) ∧ Drawn0 w w')
  case atStart => exact ⟨(0), Za, H', ⟨Nat.le_refl _⟩, Zb⟩
  case round =>
   clear H'
   try clear c1
   try clear p2
   try clear c3
   try clear c3b0
   try clear c3b1
   try clear c3b2
   obtain ⟨x5_1, rfl, HA, HK1, ⟨m1, rfl⟩⟩ := hrel
   cases gk with
   | zero => exact absurd HA.out (by simp [laws_eqInt64S.l0])
   | succ k1 =>
    have H := HA.out; clear HA; simp only [laws_eqInt64S.l0] at H
    by_cases c4 : x5_1 < (l0.length : Int)
    ·rw [if_pos c4] at H
     have c4b0 := decide_eq_true c4; clear c4
     by_cases c5 : 0 ≤ x5_1
     ·rw [if_pos c5] at H
      have c5b0 := decide_eq_true c5; clear c5
      by_cases c6 : x5_1 < (l1.length : Int)
      ·rw [if_pos c6] at H
       have c6b0 := decide_eq_true c6; clear c6
       by_cases c7 : (rd l0 x5_1) = (rd l1 x5_1)
       ·rw [if_pos c7] at H
        have c7b0 := beq_iff_eq.mpr c7; have c7b1 := bne_eq_false_iff_eq.mpr c7; clear c7; have H' := am_ H; clear H; have p1150 : 0 ≤ (x5_1 : Int) := of_decide_eq_true Zn; have q1150 : x5_1 < (l0.length : Int) := of_decide_eq_true Zn; obtain ⟨ad1150, e1150, hx1150_0⟩ := Kd.at_int HR0.out x5_1 p1150 q1150
        cases e1150
        replace p1150 := eq_true p1150; replace q1150 := eq_true q1150; have p1151 : 0 ≤ (x5_1 : Int) := of_decide_eq_true Zn; have q1151 : x5_1 < (l1.length : Int) := of_decide_eq_true Zn; obtain ⟨ad1151, e1151, hx1151_0⟩ := Kd.at_int HR1.out x5_1 p1151 q1151
        cases e1151
        replace p1151 := eq_true p1151; replace q1151 := eq_true q1151
        go_wp2
        repeat (go_quiet (fail); try go_wp2)
        go_roundg k1
        case measure => have := HK1.out; omega
        case rel => exact ⟨(wrap64 (x5_1 + 1)), Za, H', ⟨Zs⟩, Zb⟩
       ·rw [if_neg c7] at H
        have c7b0 := beq_eq_false_iff_ne.mpr c7; have c7b1 := bne_iff_ne.mpr c7; obtain rfl := Option.some.inj H; have p1150 : 0 ≤ (x5_1 : Int) := of_decide_eq_true Zn; have q1150 : x5_1 < (l0.length : Int) := of_decide_eq_true Zn; obtain ⟨ad1150, e1150, hx1150_0⟩ := Kd.at_int HR0.out x5_1 p1150 q1150
        cases e1150
        replace p1150 := eq_true p1150; replace q1150 := eq_true q1150; have p1151 : 0 ≤ (x5_1 : Int) := of_decide_eq_true Zn; have q1151 : x5_1 < (l1.length : Int) := of_decide_eq_true Zn; obtain ⟨ad1151, e1151, hx1151_0⟩ := Kd.at_int HR1.out x5_1 p1151 q1151
        cases e1151
        replace p1151 := eq_true p1151; replace q1151 := eq_true q1151
        go_wp2
        repeat (go_quiet (fail); try go_wp2)
        go_ret
        exact ⟨Za, Zb⟩
      ·rw [if_neg c6] at H
       exact absurd H (by simp)
     ·rw [if_neg c5] at H
      exact absurd H (by simp)
    ·rw [if_neg c4] at H
     have c4b0 := decide_eq_false c4; clear c4; obtain rfl := Option.some.inj H
     go_wp2
     repeat (go_quiet (fail); try go_wp2)
     go_ret
     exact ⟨Za, Zb⟩
 ·rw [if_neg c3] at H
  have c3b0 := beq_eq_false_iff_ne.mpr c3; have c3b1 := bne_iff_ne.mpr c3
  have c3b2 : (l0.length == l1.length) = false := by first | simpa using c3 | (simp at c3 ⊢; omega)
  obtain rfl := Option.some.inj H
  go_enter Try.func11, Try.ntmps11
  go_wp2
  repeat (go_quiet (fail); try go_wp2)
  go_ret
  exact ⟨Za, Zb⟩
 /-! ### laws_markInt64S: function 14 -/
def laws_markInt64S.l0 : Nat → List Int → Int → Int → Option (Int × List Int)
 | 0, _, _, _ => none
 | k + 1, x0, x1, x5 => if x5 < (x0.length : Int) then (if 0 ≤ x5 then (laws_markInt64S.l0 k (x0.set (x5 : Int).toNat x1) (wrap64 (x1 + 1)) (wrap64 (x5 + 1))) else (none)) else (some (x1, x0))
def laws_markInt64S.f (k : Nat) (l0 : List Int) (a1 : Int) : Option (Int × List Int) := laws_markInt64S.l0 k l0 a1 0
set_option maxHeartbeats 8000000 in
set_option maxRecDepth 100000 in
theorem laws_markInt64S.calls (k : Nat) (P0_ : Nat → Prop) (u9000_ : Value) (l0 : List Int) (a1 : Int) (r1 : Int) (r2 : List Int) (w0 w : World) (hB : Below w0.heap.size w0 w) (ho0 : Kd.R (Kd.int .i64) 2 w w0.heap.size P0_ u9000_ l0) (h : laws_markInt64S.f k l0 a1 = some (r1, r2)) :
  Calls Try.prog 14 #[u9000_, .int .i64 a1] w fun e w' => e = .returned (.int .i64 r1) ∧ Kd.R (Kd.int .i64) 2 w' w0.heap.size (fun k_ => (P0_ k_ ∨ w.heap.size ≤ k_)) u9000_ r2 ∧ Below w0.heap.size w0 w' ∧ Kept w w' (fun k_ => P0_ k_) := by
 have HO0 := am_ (show Kd.R (Kd.int .i64) 2 w w0.heap.size (fun k_ => (P0_ k_ ∨ w.heap.size ≤ k_)) u9000_ l0 from Kd.R_mono ho0 (fun k_ hk => (.inl hk))); have HK := am_ (Kept.refl w (fun k_ => P0_ k_)); have HW0 := am_ hB.size; have HB := am_ hB; clear hB; have H : (laws_markInt64S.l0 k l0 a1 0) = some (r1, r2) := h; clear h; have H' := am_ H; clear H
 go_enter Try.func14, Try.ntmps14
 go_wp2
 go_loopg [1, 5] k (fun kq v1 v5 w' => ∃ (x0_1 : List Int) (x1_1 : Int) (x5_1 : Int), v1 = .int .i64 x1_1 ∧ v5 = .int .i64 x5_1 ∧ Aside0 (laws_markInt64S.l0 kq x0_1 x1_1 x5_1 = some (r1, r2)) ∧ Aside0 (kq ≤ k) ∧ Aside0 (Kd.R (Kd.int .i64) 2 w' w0.heap.size (fun k_ => (P0_ k_ ∨ w.heap.size ≤ k_)) u9000_ x0_1) ∧ Aside0 (Kept w w' (fun k_ => P0_ k_)) ∧ Aside0 (Below w0.heap.size w0 w'))
 case atStart => exact ⟨(l0), (a1), (0), Za, Za, H', ⟨Nat.le_refl _⟩, ⟨(Zo HO0)⟩, ⟨Zt⟩, ⟨Zd⟩⟩
 case round =>
  clear H'
  try clear c1
  try clear p2
  obtain ⟨x0_1, x1_1, x5_1, rfl, rfl, HA, HK1, HO_0, HK, HB⟩ := hrel
  cases gk with
  | zero => exact absurd HA.out (by simp [laws_markInt64S.l0])
  | succ k1 =>
   have H := HA.out; clear HA; simp only [laws_markInt64S.l0] at H
   by_cases c3 : x5_1 < (x0_1.length : Int)
   ·rw [if_pos c3] at H
    have c3b0 := decide_eq_true c3; clear c3
    by_cases c4 : 0 ≤ x5_1
    ·rw [if_pos c4] at H
     have c4b0 := decide_eq_true c4; clear c4; obtain ⟨y1229, hy1229⟩ : ∃ y_ : List Int, y_ = (x0_1.set (x5_1 : Int).toNat x1_1) := ⟨_, rfl⟩
     (first | (rw [← hy1229] at H; with_reducible replace H := bindZ H) | rw [← hy1229] at H | skip)
     have Ny1229 := am_ hy1229; clear hy1229; have H' := am_ H; clear H; obtain ⟨Ao6, co6, eo6⟩ := Kd.R_slice HO_0.out; subst eo6; have p5 : 0 ≤ (x5_1 : Int) := of_decide_eq_true Zn; have q5 : (x5_1 : Int) < ((x0_1.length : Int) : Int) := of_decide_eq_true Zn; obtain ⟨go5, co5, eo5, gb5, gl5, cl5, HG5⟩ := Kd.R_form HO_0.out (by omega)
     (first | cases eo5 | (injection eo5 with ea_ en_ ec_; (first | subst ea_ | (injection ea_ with ea_; subst ea_)); subst ec_; clear en_))
     have GB5 := am_ gb5; have GG5 := am_ HG5; clear gb5 gl5 HG5; have HMgo5 := am_ (show (P0_ go5 ∨ w.heap.size ≤ go5) from (HO_0.out.1 _ rfl)); obtain ⟨hx5_0, hf5_0⟩ := Kd.R_celln 0 HO_0.out (x5_1 : Int) p5 q5; replace p5 := eq_true p5; replace q5 := eq_true q5; have HP7 := Kd.R_putg HO_0.out (x5_1 : Int) x1_1
     go_wp2_with (first | ((with_reducible refine gate_store (t := 2) (p := 15) rfl ?_); refine store_event (t := 2) (p := 15) (v := ?vo_w8) (w1 := (wr.setCell ⟨go5, (x5_1 : Int).toNat, none⟩ (.int .i64 x1_1))) ?hg ?ho ?hn ?hr ?_; (case ho => rfl); (case hg => rfl); (case hn => rfl); (case hr => first | (go_simp; done) | (go_simp; rfl)); intro w8 hw; have hg : wr.grownBy w8 (some go5) := (by rw [hw]; exact HP7.2); have hp_ : Kd.R (Kd.int .i64) 2 w8 w0.heap.size (fun k_ => (P0_ k_ ∨ w.heap.size ≤ k_)) (.slice (some ⟨go5, 0, none⟩) x0_1.length co6) y1229 := (by rw [hw, Ny1229.out]; exact HP7.1); clear HP7; replace HB := am_ (((Zu GB5) : Below w0.heap.size w0 w8)); replace HK := am_ (Kept.of_grown (S := (fun k_ => P0_ k_)) hg Zt (fun k_ e_ => (HO_0.out.1 k_ e_))); replace HO_0 := am_ (hp_); clear hg hw hp_))
     go_roundg k1
     case measure => have := HK1.out; omega
     case rel => exact ⟨(y1229), (wrap64 (x1_1 + 1)), (wrap64 (x5_1 + 1)), Za, Za, H', ⟨Zs⟩, ⟨(Zo HO_0)⟩, ⟨Zt⟩, ⟨Zd⟩⟩
    ·rw [if_neg c4] at H
     exact absurd H (by simp)
   ·rw [if_neg c3] at H
    have c3b0 := decide_eq_false c3; clear c3; simp only [Option.some.injEq, Prod.mk.injEq] at H; obtain ⟨rfl, rfl⟩ := H; obtain ⟨Ao9, co9, eo9⟩ := Kd.R_slice HO_0.out; subst eo9
    go_wp2
    go_ret
    exact ⟨Zj, (Zo HO_0), Zd, Zt⟩
 /-! ### laws_heldInt64S: function 15 -/
def laws_heldInt64S.l0 : Nat → List Int → Int → Int → Option (Int)
 | 0, _, _, _ => none
 | k + 1, x0, x1, x5 => if x5 < (x0.length : Int) then (if 0 ≤ x5 then (if (rd x0 x5) = x1 then (laws_heldInt64S.l0 k x0 (wrap64 (x1 + 1)) (wrap64 (x5 + 1))) else (some (-1))) else (none)) else (some x1)
def laws_heldInt64S.f (k : Nat) (l0 : List Int) (a1 : Int) : Option (Int) := laws_heldInt64S.l0 k l0 a1 0
set_option maxHeartbeats 8000000 in
set_option maxRecDepth 100000 in
theorem laws_heldInt64S.calls (k : Nat) (A0 : Option Addr) (c0 : Nat) (l0 : List Int) (a1 : Int) (r : Int) (w : World) (hr0 : Kd.C (Kd.int .i64) w A0 l0.length l0) (hc0 : l0.length ≤ c0) (h : laws_heldInt64S.f k l0 a1 = some r) :
  Calls Try.prog 15 #[.slice A0 l0.length c0, .int .i64 a1] w fun e w' => e = .returned (.int .i64 r) ∧ Drawn0 w w' := by
 have HR0 := am_ hr0; have HC0 := am_ hc0; clear hr0 hc0; have H : (laws_heldInt64S.l0 k l0 a1 0) = some r := h; clear h; have H' := am_ H; clear H
 go_enter Try.func15, Try.ntmps15
 go_wp2
 go_loopg [1, 5] k (fun kq v1 v5 w' => ∃ (x1_1 : Int) (x5_1 : Int), v1 = .int .i64 x1_1 ∧ v5 = .int .i64 x5_1 ∧ Aside0 (laws_heldInt64S.l0 kq l0 x1_1 x5_1 = some r) ∧ Aside0 (kq ≤ k) ∧ Drawn0 w w')
 case atStart => exact ⟨(a1), (0), Za, Za, H', ⟨Nat.le_refl _⟩, Zb⟩
 case round =>
  clear H'
  try clear c1
  try clear p2
  obtain ⟨x1_1, x5_1, rfl, rfl, HA, HK1, ⟨m1, rfl⟩⟩ := hrel
  cases gk with
  | zero => exact absurd HA.out (by simp [laws_heldInt64S.l0])
  | succ k1 =>
   have H := HA.out; clear HA; simp only [laws_heldInt64S.l0] at H
   by_cases c3 : x5_1 < (l0.length : Int)
   ·rw [if_pos c3] at H
    have c3b0 := decide_eq_true c3; clear c3
    by_cases c4 : 0 ≤ x5_1
    ·rw [if_pos c4] at H
     have c4b0 := decide_eq_true c4; clear c4
     by_cases c5 : (rd l0 x5_1) = x1_1
     ·rw [if_pos c5] at H
      have c5b0 := beq_iff_eq.mpr c5; have c5b1 := bne_eq_false_iff_eq.mpr c5; clear c5; have H' := am_ H; clear H; have p1230 : 0 ≤ (x5_1 : Int) := of_decide_eq_true Zn; have q1230 : x5_1 < (l0.length : Int) := of_decide_eq_true Zn; obtain ⟨ad1230, e1230, hx1230_0⟩ := Kd.at_int HR0.out x5_1 p1230 q1230
      cases e1230
      replace p1230 := eq_true p1230; replace q1230 := eq_true q1230
      go_wp2
      go_roundg k1
      case measure => have := HK1.out; omega
      case rel => exact ⟨(wrap64 (x1_1 + 1)), (wrap64 (x5_1 + 1)), Za, Za, H', ⟨Zs⟩, Zb⟩
     ·rw [if_neg c5] at H
      have c5b0 := beq_eq_false_iff_ne.mpr c5; have c5b1 := bne_iff_ne.mpr c5; obtain rfl := Option.some.inj H; have p1230 : 0 ≤ (x5_1 : Int) := of_decide_eq_true Zn; have q1230 : x5_1 < (l0.length : Int) := of_decide_eq_true Zn; obtain ⟨ad1230, e1230, hx1230_0⟩ := Kd.at_int HR0.out x5_1 p1230 q1230
      cases e1230
      replace p1230 := eq_true p1230; replace q1230 := eq_true q1230
      go_wp2
      go_ret
      exact ⟨Za, Zb⟩
    ·rw [if_neg c4] at H
     exact absurd H (by simp)
   ·rw [if_neg c3] at H
    have c3b0 := decide_eq_false c3; clear c3; obtain rfl := Option.some.inj H
    go_wp2
    go_ret
    exact ⟨Za, Zb⟩
end Go.Proofs.Ytmnnbmdfepogiaa.F
