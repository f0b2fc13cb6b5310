import Derived.Test.YthhijbdekboahaaJFnEveryBurst3
import Derived.Below
import Derived.Deep.Draws
import Derived.Deep.AppendLies
import Derived.Maps.AppendAt
import Derived.OwnWalk
import Derived.Laws.BytesArg
import Derived.Laws.MakeOwn
import Derived.Laws.OwnMore
import Derived.Deep.OwnRows
import Derived.Tactics
import Derived.Lib.ConvBytes
import Derived.Laws.Slices
import Derived.WalkKit
import Derived.KernelRfl
import Derived.RowKit3
import Derived.Deep.LoopGhost
import Derived.Deep.QuietTactic
import Derived.BigQuiet
import Derived.WideLaws
import Derived.Deep.DeepCutAuto
import Derived.Deep.CutBlock
import Derived.Deep.RegionHeld3
import Derived.Laws.Rows
import Derived.Lib.AppendStr
import Derived.ArgAppend
import Derived.Laws.IdiomCopy
import Derived.RowKit
import Derived.OrdersHeld
import Derived.Laws.BitsLemmas
import Derived.Laws.StructEq
import Derived.Test.YthhijbdekboahaaProg
import Derived.ChangeSlices
import Derived.OpenShut
import Derived.Laws.Cover1
import Derived.Test.YthhijbdekboahaaRows
import Derived.Test.YthhijbdekboahaaGcFnEveryBurst
import Derived.ProofKit
import Derived.ShutString
import Derived.ChangeOld
import Derived.SizedLaws
namespace Go.Proofs.Ythhijbdekboahaa.F
open Go.RowKit Go.Proofs.YthhijbdekboahaaW.PrintWords Go.Proofs.YthhijbdekboahaaW.PrintLast Go.Proofs.YthhijbdekboahaaW.PrintMore
attribute [local go_sem] max2_int min2_int max_two min_two max_three min_three max_four min_four
set_option linter.unusedVariables false
set_option linter.unusedSimpArgs false
mutual
def laws_FnEveryBurst.j0 : Nat → List (List Int) → Int → Bool → List (S104) → List (S62) → List (S39) → Option (Bool)
 | 0, _, _, _, _, _, _ => none
 | k + 1, x3, x4, x33, x1411000, x1411001, x1411002 => if x33 = true then (some false) else (laws_FnEveryBurst.l0 k x3 x4 0 0 x1411000 x1411001 x1411002)
def laws_FnEveryBurst.l0 : Nat → List (List Int) → Int → Int → Int → List (S104) → List (S62) → List (S39) → Option (Bool)
 | 0, _, _, _, _, _, _, _ => none
 | k + 1, x3, x4, x7, x8, x1411000, x1411001, x1411002 => if x4 = 0 then (laws_FnEveryBurst.j2 k x3 x4 x7 x8 (decide (x8 < (x1411002.length : Int))) x1411000 x1411001 x1411002) else (laws_FnEveryBurst.j2 k x3 x4 x7 x8 false x1411000 x1411001 x1411002)
def laws_FnEveryBurst.j2 : Nat → List (List Int) → Int → Int → Int → Bool → List (S104) → List (S62) → List (S39) → Option (Bool)
 | 0, _, _, _, _, _, _, _, _ => none
 | k + 1, x3, x4, x7, x8, x42, x1411000, x1411001, x1411002 => if x42 = true then (if 0 ≤ x8 then (if x8 < (x1411002.length : Int) then ((impl_BeatTime.f k x1411000 ((rd_T39 x1411002 x8).f0) ((rd_T39 x1411002 x8).f1)).bind fun bt1422 => (if bt1422.2 = 0 then (if x7 ≥ (x3.length : Int) then (laws_FnEveryBurst.j3 k x3 x4 x7 x8 true x1411000 x1411001 x1411002) else (if 0 ≤ x7 then (if x7 < (x3.length : Int) then (if 2 < ((rd_L6 x3 x7).length : Int) then (if (rd (rd_L6 x3 x7) 2) = x8 then (if 0 < ((rd_L6 x3 x7).length : Int) then (if (rd (rd_L6 x3 x7) 0) > bt1422.1 then (laws_FnEveryBurst.j3 k x3 x4 x7 x8 true x1411000 x1411001 x1411002) else (if 1 < ((rd_L6 x3 x7).length : Int) then (laws_FnEveryBurst.j3 k x3 x4 x7 x8 (decide ((rd (rd_L6 x3 x7) 1) < bt1422.1)) x1411000 x1411001 x1411002) else (none))) else (none)) else (laws_FnEveryBurst.j3 k x3 x4 x7 x8 true x1411000 x1411001 x1411002)) else (none)) else (none)) else (none))) else (laws_FnEveryBurst.j3 k x3 x4 x7 x8 true x1411000 x1411001 x1411002))) else (none)) else (none)) else (if x4 = 0 then (some (x7 == (x3.length : Int))) else (some true))
def laws_FnEveryBurst.j3 : Nat → List (List Int) → Int → Int → Int → Bool → List (S104) → List (S62) → List (S39) → Option (Bool)
 | 0, _, _, _, _, _, _, _, _ => none
 | k + 1, x3, x4, x7, x8, x100, x1411000, x1411001, x1411002 => if x100 = true then (some false) else (laws_FnEveryBurst.l1 k x3 x4 x7 x8 x1411000 x1411001 x1411002)
def laws_FnEveryBurst.l1 : Nat → List (List Int) → Int → Int → Int → List (S104) → List (S62) → List (S39) → Option (Bool)
 | 0, _, _, _, _, _, _, _ => none
 | k + 1, x3, x4, x7, x8, x1411000, x1411001, x1411002 => if x7 < (x3.length : Int) then (if 0 ≤ x7 then (if 2 < ((rd_L6 x3 x7).length : Int) then (if (rd (rd_L6 x3 x7) 2) = x8 then (laws_FnEveryBurst.l1 k x3 x4 (wrap64 (x7 + 1)) x8 x1411000 x1411001 x1411002) else (laws_FnEveryBurst.l0 k x3 x4 x7 (wrap64 (x8 + 1)) x1411000 x1411001 x1411002)) else (none)) else (none)) else (laws_FnEveryBurst.l0 k x3 x4 x7 (wrap64 (x8 + 1)) x1411000 x1411001 x1411002)
end
def laws_FnEveryBurst.f (k : Nat) (l0_0 : List (S104)) (l0_1 : List (S62)) (l0_2 : List (S39)) : Option (Bool) := if (l0_2.length : Int) > 65536 then (some true) else ((impl_WindowsOf.f k l0_0 l0_1 l0_2).bind fun bt1411 => ((spec_WindowsOf.f k l0_0 l0_1 l0_2).bind fun bt1415 => (if bt1411.2 = bt1415.2 then ((laws_likeRows.f k bt1411.1 bt1415.1).bind fun t1419 => (laws_FnEveryBurst.j0 k bt1411.1 bt1411.2 (!t1419) l0_0 l0_1 l0_2)) else (laws_FnEveryBurst.j0 k bt1411.1 bt1411.2 true l0_0 l0_1 l0_2))))
def laws_FnEveryBurst.T11 : Bool × List (List Nat × List Nat) := (true, [([], []), ([0], [0]), ([], []), ([2], [2]), ([], []), ([3, 4], [3, 4]), ([5], [5]), ([6], [6]), ([], []), ([8], [8]), ([], []), ([9, 10], [9, 10]), ([11], [11]), ([12], [12]), ([1, 7, 13], [1, 7, 13]), ([14], [14]), ([15], [15]), ([15], [15]), ([16, 14, 0, 1, 2, 3, 4, 5, 6, 7, 8, 9, 10, 11, 12, 13, 14, 15, 16], [16]), ([17, 18, 0, 1, 2, 3, 4, 5, 6, 7, 8, 9, 10, 11, 12, 13, 14, 15, 16, 17, 18], [17])])
def laws_FnEveryBurst.B11 : List Nat := [0, 1, 0, 4, 0, 28, 60, 124, 0, 256, 0, 1792, 3840, 7936, 16383, 32767, 65535, 65535, 131071, 524287]
theorem laws_FnEveryBurst.tab11 : rtab .any (opsOf Try.f7 11) = laws_FnEveryBurst.T11 := by kernel_rfl
theorem laws_FnEveryBurst.bits11 : waitsOk laws_FnEveryBurst.T11.2 laws_FnEveryBurst.B11 = true := by kernel_rfl
theorem laws_FnEveryBurst.j0_true (k : Nat) (x3 : List (List Int)) (x4 : Int) (x1411000 : List (S104)) (x1411001 : List (S62)) (x1411002 : List (S39)) : ¬ laws_FnEveryBurst.j0 k x3 x4 true x1411000 x1411001 x1411002 = some true := by
 cases k with
 | zero => simp [laws_FnEveryBurst.j0]
 | succ k => simp [laws_FnEveryBurst.j0]
theorem laws_FnEveryBurst.j3_true (k : Nat) (x3 : List (List Int)) (x4 : Int) (x7 : Int) (x8 : Int) (x1411000 : List (S104)) (x1411001 : List (S62)) (x1411002 : List (S39)) : ¬ laws_FnEveryBurst.j3 k x3 x4 x7 x8 true x1411000 x1411001 x1411002 = some true := by
 cases k with
 | zero => simp [laws_FnEveryBurst.j3]
 | succ k => simp [laws_FnEveryBurst.j3]
set_option maxHeartbeats 8000000 in
set_option maxRecDepth 100000 in
theorem laws_FnEveryBurst.calls (k : Nat) (A0_0 : Option Addr) (c0_0 : Nat) (l0_0 : List (S104)) (A0_1 : Option Addr) (c0_1 : Nat) (l0_1 : List (S62)) (A0_2 : Option Addr) (c0_2 : Nat) (l0_2 : List (S39)) (r : Bool) (w : World) (hr0_0 : Kd.C k104 w A0_0 l0_0.length l0_0) (hc0_0 : l0_0.length ≤ c0_0) (hr0_1 : Kd.C k62 w A0_1 l0_1.length l0_1) (hc0_1 : l0_1.length ≤ c0_1) (hr0_2 : Kd.C k39 w A0_2 l0_2.length l0_2) (hc0_2 : l0_2.length ≤ c0_2) (h : laws_FnEveryBurst.f k l0_0 l0_1 l0_2 = some r) (hr_ : r = true) :
  Calls Try.prog 7 #[.agg #[.slice A0_0 l0_0.length c0_0, .slice A0_1 l0_1.length c0_1, .slice A0_2 l0_2.length c0_2]] w fun e w' => e = .returned (.bool r) ∧ Below w.heap.size w w' := by
 have HR_ := am_ hr_; clear hr_; have hu28 := Try.underlying28; have HR0_0 := am_ hr0_0; have HC0_0 := am_ hc0_0; clear hr0_0 hc0_0; have HR0_1 := am_ hr0_1; have HC0_1 := am_ hc0_1; clear hr0_1 hc0_1; have HR0_2 := am_ hr0_2; have HC0_2 := am_ hc0_2; clear hr0_2 hc0_2; have HB := am_ (Below.refl w.heap.size w); have H : (if (l0_2.length : Int) > 65536 then (some true) else ((impl_WindowsOf.f k l0_0 l0_1 l0_2).bind fun bt1411 => ((spec_WindowsOf.f k l0_0 l0_1 l0_2).bind fun bt1415 => (if bt1411.2 = bt1415.2 then ((laws_likeRows.f k bt1411.1 bt1415.1).bind fun t1419 => (laws_FnEveryBurst.j0 k bt1411.1 bt1411.2 (!t1419) l0_0 l0_1 l0_2)) else (laws_FnEveryBurst.j0 k bt1411.1 bt1411.2 true l0_0 l0_1 l0_2))))) = some r := h; clear h
 by_cases c2 : (l0_2.length : Int) > 65536
 ·rw [if_pos c2] at H
  have c2b0 : decide (65536 < (l0_2.length : Int)) = true := decide_eq_true c2; have c2b1 : decide (65536 < l0_2.length) = true := decide_eq_true (by omega); clear c2; obtain rfl := Option.some.inj H
  go_enter Try.func7, Try.ntmps7
  go_wp2_with (first | ((with_reducible refine gate_dst (N := 1) rfl ?_); (try (refine gate_guard (by rfl) ?_; dsimp only)); refine boxZ 1 #[.slice A0_0 l0_0.length c0_0, .slice A0_1 l0_1.length c0_1, .slice A0_2 l0_2.length c0_2] 28 ?_; intro gb1410 hg w3 hbox hb; replace BK1410 := am_ (hbox); replace GW1410 := am_ ((Zh : w.heap.size ≤ gb1410)); replace GE1410 := GW1410; replace HB := (bsZ Zf hb); clear hb hbox hg; obtain ⟨hcz4_0, hcz4_1, hcz4_2, hfz4_0, hfz4_1, hfz4_2⟩ := cz3 BK1410))
  go_ret
  exact ⟨Zg, (have z0_ := GE1410; Zk)⟩
 ·rw [if_neg c2] at H
  have c2b0 : decide (65536 < (l0_2.length : Int)) = false := decide_eq_false c2; have c2b1 : decide (65536 < l0_2.length) = false := decide_eq_false (by omega); clear c2; replace H := Option.bind_eq_some_iff.mp H; obtain ⟨⟨t1411, t1414⟩, A50, H⟩ := H; replace H : ((spec_WindowsOf.f k l0_0 l0_1 l0_2).bind fun bt1415 => (if t1414 = bt1415.2 then ((laws_likeRows.f k t1411 bt1415.1).bind fun t1419 => (laws_FnEveryBurst.j0 k t1411 t1414 (!t1419) l0_0 l0_1 l0_2)) else (laws_FnEveryBurst.j0 k t1411 t1414 true l0_0 l0_1 l0_2))) = some r := H; have A5 := am_ A50; clear A50; replace H := Option.bind_eq_some_iff.mp H; obtain ⟨⟨t1415, t1418⟩, A60, H⟩ := H; replace H : (if t1414 = t1418 then ((laws_likeRows.f k t1411 t1415).bind fun t1419 => (laws_FnEveryBurst.j0 k t1411 t1414 (!t1419) l0_0 l0_1 l0_2)) else (laws_FnEveryBurst.j0 k t1411 t1414 true l0_0 l0_1 l0_2)) = some r := H; have A6 := am_ A60; clear A60; have HC7 := am_ H; clear H
  go_enter Try.func7, Try.ntmps7
  go_upto_region 5 with (first | ((with_reducible refine gate_dst (N := 1) rfl ?_); (try (refine gate_guard (by rfl) ?_; dsimp only)); refine boxZ 1 #[.slice A0_0 l0_0.length c0_0, .slice A0_1 l0_1.length c0_1, .slice A0_2 l0_2.length c0_2] 28 ?_; intro gb1410 hg w8 hbox hb; replace BK1410 := am_ (hbox); replace GW1410 := am_ ((Zh : w.heap.size ≤ gb1410)); replace GE1410 := GW1410; replace HB := (bsZ Zf hb); clear hb hbox hg; obtain ⟨hcz9_0, hcz9_1, hcz9_2, hfz9_0, hfz9_1, hfz9_2⟩ := cz3 BK1410) | ((with_reducible refine gate_callee (f := 39) rfl ?_); refine goesL_ (some 17) rfl rfl Try.func39 Zi rfl #[.agg #[.slice A0_0 l0_0.length c0_0, .slice A0_1 l0_1.length c0_1, .slice A0_2 l0_2.length c0_2]] rfl Zj ?_; (with_reducible refine (impl_WindowsOf.calls k _ _ l0_0 _ _ l0_1 _ _ l0_2 t1411 t1414 _ ?side1 ?side2 ?side3 ?side4 ?side5 ?side6 A5.out).mono ?_); (case side1 => exact (have z0_ := HR0_0; Zq)); (case side2 => exact HC0_0.out); (case side3 => exact (have z0_ := HR0_1; Zq)); (case side4 => exact HC0_1.out); (case side5 => exact (have z0_ := HR0_2; Zq)); (case side6 => exact HC0_2.out); rintro e w10 ⟨v1412, rfl, ho0, hb⟩; refine ⟨_, rfl, ?_⟩; replace HO1413 := am_ (Kd.N_lower (Kd.N_mono (ok' := fun k_ => k_ ≠ gb1410) (Kd.S_N (Kd.S_bound ho0)) (fun k_ hk_ => (Kd.freshB (g := gb1410) (o := .cells #[.slice A0_0 l0_0.length c0_0, .slice A0_1 l0_1.length c0_1, .slice A0_2 l0_2.length c0_2] 28 (0, 0)) (have z0_ := BK1410; Zs) k_ hk_.2.1))) (below_size (have z0_ := GE1410; Zk))); replace BK1410 := (have z0_ := BK1410; bkZ hb); replace HB := (bsZ (have z0_ := GE1410; Zk) hb); (try clear hb); (try clear hb2); (try clear hk); (try clear hi); (try clear ho0); obtain ⟨hcz11_0, hcz11_1, hcz11_2, hfz11_0, hfz11_1, hfz11_2⟩ := cz3 BK1410) | ((with_reducible refine gate_callee (f := 40) rfl ?_); refine goesL_ (some 22) rfl rfl Try.func40 Zi rfl #[.agg #[.slice A0_0 l0_0.length c0_0, .slice A0_1 l0_1.length c0_1, .slice A0_2 l0_2.length c0_2]] rfl Zj ?_; (with_reducible refine (spec_WindowsOf.calls k _ _ l0_0 _ _ l0_1 _ _ l0_2 t1415 t1418 _ ?side1 ?side2 ?side3 ?side4 ?side5 ?side6 A6.out).mono ?_); (case side1 => exact (have z0_ := HR0_0; Zq)); (case side2 => exact HC0_0.out); (case side3 => exact (have z0_ := HR0_1; Zq)); (case side4 => exact HC0_1.out); (case side5 => exact (have z0_ := HR0_2; Zq)); (case side6 => exact HC0_2.out); rintro e w12 ⟨v1416, rfl, ho0, hb⟩; refine ⟨_, rfl, ?_⟩; replace HO1417 := am_ (Kd.N_lower (Kd.N_mono (ok' := fun k_ => some k_ ≠ (v1412 : Value).ownBlock ∧ k_ ≠ gb1410) ho0 (fun k_ hk_ => ⟨(Kd.fresh' (Kd.N_lt (have z0_ := HO1413; Zau)) k_ hk_), (Kd.freshB (g := gb1410) (o := .cells #[.slice A0_0 l0_0.length c0_0, .slice A0_1 l0_1.length c0_1, .slice A0_2 l0_2.length c0_2] 28 (0, 0)) (have z0_ := BK1410; Zs) k_ hk_)⟩)) (below_size (have z0_ := GE1410; Zk))); replace HO1413 := am_ (Kd.N_elder' (have z0_ := HO1413; Zau) (Kd.N_base ho0) hb); replace BK1410 := (have z0_ := BK1410; bkZ hb); replace HB := (bsZ (have z0_ := GE1410; Zk) hb); (try clear hb); (try clear hb2); (try clear hk); (try clear hi); (try clear ho0)))
  (try simp only [Act.put, List.setIfInBounds_toArray, List.set_cons_zero, List.set_cons_succ])
  go_cut [33] (fun v33 wc => ∃ (kq : Nat) (x33_6 : Bool), v33 = .bool x33_6 ∧ Aside0 (laws_FnEveryBurst.j0 kq t1411 t1414 x33_6 l0_0 l0_1 l0_2 = some r) ∧ Aside0 (kq ≤ k) ∧ Aside0 (Kd.N (Kd.slice 2 (Kd.int .i64)) 33 wc w.heap.size (fun k_ => k_ ≠ gb1410) v1412 t1411) ∧ Aside0 (wc.heap[gb1410]? = some (.cells #[(.slice A0_0 l0_0.length c0_0), (.slice A0_1 l0_1.length c0_1), (.slice A0_2 l0_2.length c0_2)] 28 (0, 0))) ∧ Aside0 (Below w.heap.size w wc))
  case first => as_aux_lemma =>
   have H := HC7.out; clear HC7
   by_cases c13 : t1414 = t1418
   ·rw [if_pos c13] at H
    have c13b0 := beq_iff_eq.mpr c13; have c13b1 := bne_eq_false_iff_eq.mpr c13; clear c13
    (first | rw [c13b0] | (simp only [i64_w, i32_w]; rw [c13b0]) | skip)
    replace H := Option.bind_eq_some_iff.mp H; obtain ⟨t1419, A140, H⟩ := H; have A14 := am_ A140; clear A140; have H' := am_ H; clear H; obtain ⟨Ao15, co15, eo15⟩ := Kd.N_slice HO1413.out; subst eo15; obtain ⟨Ao16, co16, eo16⟩ := Kd.N_slice HO1417.out; subst eo16
    go_wp2_with (first | (go_at_call 34; (with_reducible refine (laws_likeRows.calls k _ _ t1411 _ _ t1415 t1419 _ ?side1 ?side2 ?side3 ?side4 A14.out).mono ?_); (case side1 => repeat (first | exact (Kd.N_reads' HO1413.out).2.2 | (with_reducible refine Kd.C_alloc ?_ _) | (with_reducible refine Kd.C_drewN ?_ _) | (with_reducible refine Kd.C_drew ?_))); (case side2 => exact (Kd.N_reads' HO1413.out).2.1); (case side3 => repeat (first | exact (Kd.N_reads' HO1417.out).2.2 | (with_reducible refine Kd.C_alloc ?_ _) | (with_reducible refine Kd.C_drewN ?_ _) | (with_reducible refine Kd.C_drew ?_))); (case side4 => exact (Kd.N_reads' HO1417.out).2.1); rintro e w' ⟨rfl, ⟨nd, rfl⟩⟩))
    go_meet
    case rel => exact ⟨_, (!t1419), Za, H', ⟨Ze⟩, ⟨by (with_reducible repeat (first | apply Kd.N_alloc | apply Kd.N_drewN | apply Kd.N_drew)); exact Kd.N_mono HO1413.out (fun _ hk => hk.1)⟩, ⟨(have z0_ := BK1410; Zs)⟩, ⟨(have z0_ := GE1410; Zk)⟩⟩
   ·rw [if_neg c13] at H
    have c13b0 := beq_eq_false_iff_ne.mpr c13; have c13b1 := bne_iff_ne.mpr c13
    (first | rw [c13b0] | (simp only [i64_w, i32_w]; rw [c13b0]) | skip)
    exact absurd (H.trans (congrArg some HR_.out)) (laws_FnEveryBurst.j0_true _ _ _ _ _ _)
  case rest => as_aux_lemma =>
   clear HC7
   try clear c1
   try clear c2
   try clear c2b0
   try clear c2b1
   try clear p2
   try clear c3
   try clear c4
   try clear c7
   try clear c13
   try clear c13b0
   try clear c13b1
   try clear hcz11_0
   try clear hcz11_1
   try clear hcz11_2
   try clear hcz4_0
   try clear hcz4_1
   try clear hcz4_2
   try clear hcz9_0
   try clear hcz9_1
   try clear hcz9_2
   try clear hfz11_0
   try clear hfz11_1
   try clear hfz11_2
   try clear hfz4_0
   try clear hfz4_1
   try clear hfz4_2
   try clear hfz9_0
   try clear hfz9_1
   try clear hfz9_2
   obtain ⟨kq, x33_6, rfl, HA, HJ6, HO_3, BK1410, HB⟩ := hcut
   cases kq with
   | zero => exact absurd HA.out (by simp [laws_FnEveryBurst.j0])
   | succ kj6 =>
    have H := HA.out; clear HA; simp only [laws_FnEveryBurst.j0] at H
    by_cases c17 : x33_6 = true
    ·subst c17
     have H1 : (some false) = some r := by rw [if_pos rfl] at H; exact H
     clear H; have H := H1; clear H1; exact absurd ((Option.some.inj H).trans HR_.out) (by decide)
    ·replace c17 := Bool.eq_false_iff.mpr c17
     subst c17
     have H1 : (laws_FnEveryBurst.l0 kj6 t1411 t1414 0 0 l0_0 l0_1 l0_2) = some r := by rw [if_neg (show ¬ (false = true) by decide)] at H; exact H
     clear H; have H := H1; clear H1; have H' := am_ H; clear H
     go_wp2
     go_loopg [7, 8] kj6 (fun kq v7 v8 w' => ∃ (x7_2 : Int) (x8_2 : Int), v7 = .int .i64 x7_2 ∧ v8 = .int .i64 x8_2 ∧ Aside0 (laws_FnEveryBurst.l0 kq t1411 t1414 x7_2 x8_2 l0_0 l0_1 l0_2 = some r) ∧ Aside0 (kq ≤ kj6) ∧ Aside0 (Kd.N (Kd.slice 2 (Kd.int .i64)) 33 w' w.heap.size (fun k_ => k_ ≠ gb1410) v1412 t1411) ∧ Aside0 (w'.heap[gb1410]? = some (.cells #[(.slice A0_0 l0_0.length c0_0), (.slice A0_1 l0_1.length c0_1), (.slice A0_2 l0_2.length c0_2)] 28 (0, 0))) ∧ Aside0 (Below w.heap.size w w'))
     case atStart => exact ⟨(0), (0), Za, Za, H', ⟨Nat.le_refl _⟩, ⟨(have z0_ := HO_3; Zau)⟩, ⟨(have z0_ := BK1410; Zs)⟩, ⟨(have z0_ := GE1410; Zk)⟩⟩
     case round => as_aux_lemma =>
      clear H'
      try clear c1
      try clear c2
      try clear c2b0
      try clear c2b1
      try clear p2
      try clear c3
      try clear c4
      try clear c7
      try clear c13
      try clear c13b0
      try clear c13b1
      try clear c17
      try clear hcz11_0
      try clear hcz11_1
      try clear hcz11_2
      try clear hcz4_0
      try clear hcz4_1
      try clear hcz4_2
      try clear hcz9_0
      try clear hcz9_1
      try clear hcz9_2
      try clear hfz11_0
      try clear hfz11_1
      try clear hfz11_2
      try clear hfz4_0
      try clear hfz4_1
      try clear hfz4_2
      try clear hfz9_0
      try clear hfz9_1
      try clear hfz9_2
      try clear p2
      obtain ⟨x7_2, x8_2, rfl, rfl, HA, HK2, HO_3, BK1410, HB⟩ := hrel
      cases gk with
      | zero => exact absurd HA.out (by simp [laws_FnEveryBurst.l0])
      | succ k2 =>
       have H := HA.out; clear HA; simp only [laws_FnEveryBurst.l0] at H; have HC18 := am_ H; clear H
       go_upto_region 9 with (fail)
       go_cut [42] (fun v42 wc => ∃ (kq : Nat) (x42_17 : Bool), v42 = .bool x42_17 ∧ Aside0 (laws_FnEveryBurst.j2 kq t1411 t1414 x7_2 x8_2 x42_17 l0_0 l0_1 l0_2 = some r) ∧ Aside0 (kq ≤ k2) ∧ Aside0 (Kd.N (Kd.slice 2 (Kd.int .i64)) 33 wc w.heap.size (fun k_ => k_ ≠ gb1410) v1412 t1411) ∧ Aside0 (wc.heap[gb1410]? = some (.cells #[(.slice A0_0 l0_0.length c0_0), (.slice A0_1 l0_1.length c0_1), (.slice A0_2 l0_2.length c0_2)] 28 (0, 0))) ∧ Aside0 (Below w.heap.size w wc))
       case first => as_aux_lemma =>
        have H := HC18.out; clear HC18
        by_cases c19 : t1414 = 0
        ·rw [if_pos c19] at H
         have c19b0 := beq_iff_eq.mpr c19; have c19b1 := bne_eq_false_iff_eq.mpr c19; clear c19
         (first | rw [c19b0] | (simp only [i64_w, i32_w]; rw [c19b0]) | skip)
         have H' := am_ H; clear H; obtain ⟨hcz20_0, hcz20_1, hcz20_2, hfz20_0, hfz20_1, hfz20_2⟩ := cz3 BK1410
         go_wp2
         go_meet
         case rel => exact ⟨_, (decide (x8_2 < (l0_2.length : Int))), Za, H', ⟨by have := HJ6.out; have := HK2.out; first | omega | exact Nat.le_refl _⟩, ⟨(have z0_ := HO_3; Zau)⟩, ⟨(have z0_ := BK1410; Zs)⟩, ⟨(have z0_ := GE1410; Zk)⟩⟩
        ·rw [if_neg c19] at H
         have c19b0 := beq_eq_false_iff_ne.mpr c19; have c19b1 := bne_iff_ne.mpr c19
         (first | rw [c19b0] | (simp only [i64_w, i32_w]; rw [c19b0]) | skip)
         have H' := am_ H; clear H
         go_wp2
         go_meet
         case rel => exact ⟨_, (false), Za, H', ⟨by have := HJ6.out; have := HK2.out; first | omega | exact Nat.le_refl _⟩, ⟨(have z0_ := HO_3; Zau)⟩, ⟨(have z0_ := BK1410; Zs)⟩, ⟨(have z0_ := GE1410; Zk)⟩⟩
       case rest => as_aux_lemma =>
        clear HC18
        try clear c1
        try clear c2
        try clear c2b0
        try clear c2b1
        try clear p2
        try clear c3
        try clear c4
        try clear c7
        try clear c13
        try clear c13b0
        try clear c13b1
        try clear c17
        try clear c19
        try clear c19b0
        try clear c19b1
        try clear hcz11_0
        try clear hcz11_1
        try clear hcz11_2
        try clear hcz20_0
        try clear hcz20_1
        try clear hcz20_2
        try clear hcz4_0
        try clear hcz4_1
        try clear hcz4_2
        try clear hcz9_0
        try clear hcz9_1
        try clear hcz9_2
        try clear hfz11_0
        try clear hfz11_1
        try clear hfz11_2
        try clear hfz20_0
        try clear hfz20_1
        try clear hfz20_2
        try clear hfz4_0
        try clear hfz4_1
        try clear hfz4_2
        try clear hfz9_0
        try clear hfz9_1
        try clear hfz9_2
        try clear p2
        obtain ⟨kq, x42_17, rfl, HA, HJ17, HO_3, BK1410, HB⟩ := hcut
        cases kq with
        | zero => exact absurd HA.out (by simp [laws_FnEveryBurst.j2])
        | succ kj17 =>
         have H := HA.out; clear HA; simp only [laws_FnEveryBurst.j2] at H
         by_cases c21 : x42_17 = true
         ·subst c21
          have H1 : (if 0 ≤ x8_2 then (if x8_2 < (l0_2.length : Int) then ((impl_BeatTime.f kj17 l0_0 ((rd_T39 l0_2 x8_2).f0) ((rd_T39 l0_2 x8_2).f1)).bind fun bt1422 => (if bt1422.2 = 0 then (if x7_2 ≥ (t1411.length : Int) then (laws_FnEveryBurst.j3 kj17 t1411 t1414 x7_2 x8_2 true l0_0 l0_1 l0_2) else (if 0 ≤ x7_2 then (if x7_2 < (t1411.length : Int) then (if 2 < ((rd_L6 t1411 x7_2).length : Int) then (if (rd (rd_L6 t1411 x7_2) 2) = x8_2 then (if 0 < ((rd_L6 t1411 x7_2).length : Int) then (if (rd (rd_L6 t1411 x7_2) 0) > bt1422.1 then (laws_FnEveryBurst.j3 kj17 t1411 t1414 x7_2 x8_2 true l0_0 l0_1 l0_2) else (if 1 < ((rd_L6 t1411 x7_2).length : Int) then (laws_FnEveryBurst.j3 kj17 t1411 t1414 x7_2 x8_2 (decide ((rd (rd_L6 t1411 x7_2) 1) < bt1422.1)) l0_0 l0_1 l0_2) else (none))) else (none)) else (laws_FnEveryBurst.j3 kj17 t1411 t1414 x7_2 x8_2 true l0_0 l0_1 l0_2)) else (none)) else (none)) else (none))) else (laws_FnEveryBurst.j3 kj17 t1411 t1414 x7_2 x8_2 true l0_0 l0_1 l0_2))) else (none)) else (none)) = some r := by rw [if_pos rfl] at H; exact H
          clear H; have H := H1; clear H1
          by_cases c22 : 0 ≤ x8_2
          ·rw [if_pos c22] at H
           have c22b0 := decide_eq_true c22; clear c22
           by_cases c23 : x8_2 < (l0_2.length : Int)
           ·rw [if_pos c23] at H
            have c23b0 := decide_eq_true c23; clear c23; replace H := Option.bind_eq_some_iff.mp H; obtain ⟨⟨t1422, t1423⟩, A240, H⟩ := H; replace H : (if t1423 = 0 then (if x7_2 ≥ (t1411.length : Int) then (laws_FnEveryBurst.j3 kj17 t1411 t1414 x7_2 x8_2 true l0_0 l0_1 l0_2) else (if 0 ≤ x7_2 then (if x7_2 < (t1411.length : Int) then (if 2 < ((rd_L6 t1411 x7_2).length : Int) then (if (rd (rd_L6 t1411 x7_2) 2) = x8_2 then (if 0 < ((rd_L6 t1411 x7_2).length : Int) then (if (rd (rd_L6 t1411 x7_2) 0) > t1422 then (laws_FnEveryBurst.j3 kj17 t1411 t1414 x7_2 x8_2 true l0_0 l0_1 l0_2) else (if 1 < ((rd_L6 t1411 x7_2).length : Int) then (laws_FnEveryBurst.j3 kj17 t1411 t1414 x7_2 x8_2 (decide ((rd (rd_L6 t1411 x7_2) 1) < t1422)) l0_0 l0_1 l0_2) else (none))) else (none)) else (laws_FnEveryBurst.j3 kj17 t1411 t1414 x7_2 x8_2 true l0_0 l0_1 l0_2)) else (none)) else (none)) else (none))) else (laws_FnEveryBurst.j3 kj17 t1411 t1414 x7_2 x8_2 true l0_0 l0_1 l0_2)) = some r := H; have A24 := am_ A240; clear A240; have HC25 := am_ H; clear H
            try go_wp2
            replace HO_3 := am_ (Kd.N_drew HO_3.out); replace BK1410 := am_ (blk_drew BK1410.out); replace HB := am_ (below_drew1 HB.out); have p1420 : 0 ≤ (x8_2 : Int) := of_decide_eq_true Zc; have q1420 : x8_2 < (l0_2.length : Int) := of_decide_eq_true Zc; obtain ⟨ad1420, e1420, hx1420_0, hx1420_1, hx1420_2, hx1420_3⟩ := at_T39 HR0_2.out x8_2 p1420 q1420; have hw1420_3 := hx1420_3; have hw1420_2 := hx1420_2; have hw1420_1 := hx1420_1; have hw1420_0 := hx1420_0
            cases e1420
            replace hx1420_0 := cbH HB hx1420_0; replace hx1420_1 := cbH HB hx1420_1; replace hx1420_2 := cbH HB hx1420_2; replace hx1420_3 := cbH HB hx1420_3; replace p1420 := eq_true p1420; replace q1420 := eq_true q1420; have p1421 : 0 ≤ (x8_2 : Int) := of_decide_eq_true Zc; have q1421 : x8_2 < (l0_2.length : Int) := of_decide_eq_true Zc; obtain ⟨ad1421, e1421, hx1421_0, hx1421_1, hx1421_2, hx1421_3⟩ := at_T39 HR0_2.out x8_2 p1421 q1421; have hw1421_3 := hx1421_3; have hw1421_2 := hx1421_2; have hw1421_1 := hx1421_1; have hw1421_0 := hx1421_0; obtain rfl : ad1420 = ad1421 := (by injection e1421); replace hx1421_0 := cbH HB hx1421_0; replace hx1421_1 := cbH HB hx1421_1; replace hx1421_2 := cbH HB hx1421_2; replace hx1421_3 := cbH HB hx1421_3; replace p1421 := eq_true p1421; replace q1421 := eq_true q1421; refine start_ (n := 20) (S := fun w' => w'.cell? ⟨gb1410, 0, none⟩ = some (.slice A0_0 l0_0.length c0_0) ∧ w'.cell? ⟨gb1410, 1, none⟩ = some (.slice A0_1 l0_1.length c0_1) ∧ w'.cell? ⟨gb1410, 2, none⟩ = some (.slice (some ad1420) l0_2.length c0_2) ∧ w'.cell? (ad1420.add ((x8_2).toNat * 4)) = some (.int .i64 ((rd_T39 l0_2 x8_2).f0)) ∧ w'.cell? ⟨(ad1420.add ((x8_2).toNat * 4)).block, (ad1420.add ((x8_2).toNat * 4)).off + 1, none⟩ = some (.int .i64 ((rd_T39 l0_2 x8_2).f1)) ∧ w'.cell? ⟨(ad1420.add ((x8_2).toNat * 4)).block, (ad1420.add ((x8_2).toNat * 4)).off + 2, none⟩ = some (.string ((rd_T39 l0_2 x8_2).f2)) ∧ w'.cell? ⟨(ad1420.add ((x8_2).toNat * 4)).block, (ad1420.add ((x8_2).toNat * 4)).off + 3, none⟩ = some (.int .i64 ((rd_T39 l0_2 x8_2).f3)) ∧ w'.cell? (ad1420.add ((x8_2).toNat * 4)) = some (.int .i64 ((rd_T39 l0_2 x8_2).f0)) ∧ w'.cell? ⟨(ad1420.add ((x8_2).toNat * 4)).block, (ad1420.add ((x8_2).toNat * 4)).off + 1, none⟩ = some (.int .i64 ((rd_T39 l0_2 x8_2).f1)) ∧ w'.cell? ⟨(ad1420.add ((x8_2).toNat * 4)).block, (ad1420.add ((x8_2).toNat * 4)).off + 2, none⟩ = some (.string ((rd_T39 l0_2 x8_2).f2)) ∧ w'.cell? ⟨(ad1420.add ((x8_2).toNat * 4)).block, (ad1420.add ((x8_2).toNat * 4)).off + 3, none⟩ = some (.int .i64 ((rd_T39 l0_2 x8_2).f3))) (ds := []) (bT 20 0) Zi rfl rfl ⟨(blk_cell BK1410.out 0).trans rfl, (blk_cell BK1410.out 1).trans rfl, (blk_cell BK1410.out 2).trans rfl, (cbH HB hw1420_0 :), (cbH HB hw1420_1 :), (cbH HB hw1420_2 :), (cbH HB hw1420_3 :), (cbH HB hw1421_0 :), (cbH HB hw1421_1 :), (cbH HB hw1421_2 :), (cbH HB hw1421_3 :)⟩ (fun hHeld => ?_); refine with_tabW laws_FnEveryBurst.tab11 laws_FnEveryBurst.bits11 (fun HT_ HW_ => ?_); generalize wc.drew = w26 at HO_3 BK1410 HB hx1420_0 hx1420_1 hx1420_2 hx1420_3 hx1421_0 hx1421_1 hx1421_2 hx1421_3 hHeld ⊢; refine pureZ HT_ 0 (some 46) (bT 20 1) ?_; refine pureZ HT_ 2 (some 48) #[true, false, true, false, false, false, false, false, false, false, false, false, false, false, false, false, false, false, false, false] ?_; refine pureZ HT_ 4 (some 50) #[true, false, true, false, true, false, false, false, false, false, false, false, false, false, false, false, false, false, false, false] ?_
            refine pureZ HT_ 8 (some 54) #[true, false, true, false, true, false, false, false, true, false, false, false, false, false, false, false, false, false, false, false] ?_; refine pureZ HT_ 10 (some 56) #[true, false, true, false, true, false, false, false, true, false, true, false, false, false, false, false, false, false, false, false] ?_; refine takeZ11 HT_ HW_ 1 (some 47) #[true, true, true, false, true, false, false, false, true, false, true, false, false, false, false, false, false, false, false, false] hHeld ?_; refine takeZ11 HT_ HW_ 3 (some 49) #[true, true, true, true, true, false, false, false, true, false, true, false, false, false, false, false, false, false, false, false] hHeld ?_; refine pureZ HT_ 5 (some 51) #[true, true, true, true, true, true, false, false, true, false, true, false, false, false, false, false, false, false, false, false] ?_; refine pureZ HT_ 6 (some 52) #[true, true, true, true, true, true, true, false, true, false, true, false, false, false, false, false, false, false, false, false] ?_; refine takeZ11 HT_ HW_ 7 (some 53) #[true, true, true, true, true, true, true, true, true, false, true, false, false, false, false, false, false, false, false, false] hHeld ?_; refine takeZ11 HT_ HW_ 9 (some 55) (bT 20 11) hHeld ?_; refine pureZ HT_ 11 (some 57) (bT 20 12) ?_; refine pureZ HT_ 12 (some 58) (bT 20 13) ?_; refine takeZ11 HT_ HW_ 13 (some 59) (bT 20 14) hHeld ?_; refine one_ (i := 14) (N := some 60) (bT 20 15) rfl rfl (one_of HT_.out Zi) (by decide) (fun K hK => ?_); refine goes_ Try.func48 Zi rfl #[.slice A0_0 l0_0.length c0_0, .int .i64 ((rd_T39 l0_2 x8_2).f0), .int .i64 ((rd_T39 l0_2 x8_2).f1)] (by rfl) rfl rfl Zj ?_
            with_reducible refine (impl_BeatTime.calls kj17 _ _ l0_0 ((rd_T39 l0_2 x8_2).f0) ((rd_T39 l0_2 x8_2).f1) t1422 t1423 _ ?side1 ?side2 A24.out).mono ?_
            (case side1 => exact (have z0_ := HR0_0; Zq))
            (case side2 => exact HC0_0.out)
            rintro e w27 ⟨rfl, hb⟩; refine ⟨_, rfl, ?_⟩; replace HO_3 := am_ (Kd.N_below (have z0_ := HO_3; Zau) hb); replace BK1410 := (have z0_ := BK1410; bkZ hb); replace HB := (bsZ (have z0_ := GE1410; Zk) hb)
            (try clear hb)
            (try clear hb2)
            (try clear hk)
            (try clear hi)
            refine hK.out _ _ (by exact ⟨(blk_cell BK1410.out 0).trans rfl, (blk_cell BK1410.out 1).trans rfl, (blk_cell BK1410.out 2).trans rfl, (cbH HB hw1420_0 :), (cbH HB hw1420_1 :), (cbH HB hw1420_2 :), (cbH HB hw1420_3 :), (cbH HB hw1421_0 :), (cbH HB hw1421_1 :), (cbH HB hw1421_2 :), (cbH HB hw1421_3 :)⟩) (fun hHeld => ?_); clear hK K; refine normZ 60 ?_; refine pureZ HT_ 15 (some 45) (bT 20 16) ?_; refine pureZ HT_ 16 (some 61) (bT 20 17) ?_; refine pureZ HT_ 17 (some 62) (bT 20 18) ?_; refine pureZ HT_ 18 (some 9) (bT 20 19) ?_; refine pureZ HT_ 19 (some 10) (bT 20 20) ?_; refine done_ (done_of HT_.out Zi) ?_
            go_upto_region 12 with (fail)
            go_cut [100] (fun v100 wc => ∃ (kq : Nat) (x100_24 : Bool), v100 = .bool x100_24 ∧ Aside0 (laws_FnEveryBurst.j3 kq t1411 t1414 x7_2 x8_2 x100_24 l0_0 l0_1 l0_2 = some r) ∧ Aside0 (kq ≤ kj17) ∧ Aside0 (Kd.N (Kd.slice 2 (Kd.int .i64)) 33 wc w.heap.size (fun k_ => k_ ≠ gb1410) v1412 t1411) ∧ Aside0 (wc.heap[gb1410]? = some (.cells #[(.slice A0_0 l0_0.length c0_0), (.slice A0_1 l0_1.length c0_1), (.slice (some ad1420) l0_2.length c0_2)] 28 (0, 0))) ∧ Aside0 (Below w.heap.size w wc))
            case first => as_aux_lemma =>
             have H := HC25.out; clear HC25
             by_cases c28 : t1423 = 0
             ·rw [if_pos c28] at H
              have c28b0 := beq_iff_eq.mpr c28; have c28b1 := bne_eq_false_iff_eq.mpr c28; clear c28
              (first | rw [c28b0] | (simp only [i64_w, i32_w]; rw [c28b0]) | skip)
              by_cases c29 : x7_2 ≥ (t1411.length : Int)
              ·rw [if_pos c29] at H
               have c29b0 : decide ((t1411.length : Int) ≤ x7_2) = true := decide_eq_true c29; clear c29; exact absurd (H.trans (congrArg some HR_.out)) (laws_FnEveryBurst.j3_true _ _ _ _ _ _ _ _)
              ·rw [if_neg c29] at H
               have c29b0 : decide ((t1411.length : Int) ≤ x7_2) = false := decide_eq_false c29; clear c29
               by_cases c31 : 0 ≤ x7_2
               ·rw [if_pos c31] at H
                have c31b0 := decide_eq_true c31; clear c31
                by_cases c32 : x7_2 < (t1411.length : Int)
                ·rw [if_pos c32] at H
                 have c32b0 := decide_eq_true c32; clear c32
                 by_cases c33 : 2 < ((rd_L6 t1411 x7_2).length : Int)
                 ·rw [if_pos c33] at H
                  have c33b0 := decide_eq_true c33; have c33b1 : decide (2 < (rd_L6 t1411 x7_2).length) = true := decide_eq_true (by omega); clear c33
                  by_cases c34 : (rd (rd_L6 t1411 x7_2) 2) = x8_2
                  ·rw [if_pos c34] at H
                   have c34b0 := beq_iff_eq.mpr c34; have c34b1 := bne_eq_false_iff_eq.mpr c34; clear c34
                   by_cases c35 : 0 < ((rd_L6 t1411 x7_2).length : Int)
                   ·rw [if_pos c35] at H
                    have c35b0 := decide_eq_true c35; have c35b1 : decide (0 < (rd_L6 t1411 x7_2).length) = true := decide_eq_true (by omega); clear c35
                    by_cases c36 : (rd (rd_L6 t1411 x7_2) 0) > t1422
                    ·rw [if_pos c36] at H
                     have c36b0 : decide (t1422 < (rd (rd_L6 t1411 x7_2) 0)) = true := decide_eq_true c36; clear c36; exact absurd (H.trans (congrArg some HR_.out)) (laws_FnEveryBurst.j3_true _ _ _ _ _ _ _ _)
                    ·rw [if_neg c36] at H
                     have c36b0 : decide (t1422 < (rd (rd_L6 t1411 x7_2) 0)) = false := decide_eq_false c36; clear c36
                     by_cases c38 : 1 < ((rd_L6 t1411 x7_2).length : Int)
                     ·rw [if_pos c38] at H
                      have c38b0 := decide_eq_true c38; have c38b1 : decide (1 < (rd_L6 t1411 x7_2).length) = true := decide_eq_true (by omega); clear c38; have H' := am_ H; clear H; obtain ⟨Ao39, co39, eo39⟩ := Kd.N_slice HO_3.out; subst eo39; have p1424 : 0 ≤ (x7_2 : Int) := of_decide_eq_true Zc; have q1424 : x7_2 < (t1411.length : Int) := of_decide_eq_true Zc; obtain ⟨ad1424, A1424_0, c1424_0, e1424, hx1424_0, hl1424_0, hi1424_0⟩ := at_L6 (Kd.N_reads' HO_3.out).2.2 x7_2 p1424 q1424
                      cases e1424
                      obtain ⟨ce1424, hce1424, hMe1424, hcc1424⟩ := Kd.N_get HO_3.out [] x7_2 p1424 (by first | exact q1424 | exact of_decide_eq_true Zc | (have e_ := (Kd.N_reads' HO_3.out).1; omega)); obtain ⟨ua1424_0, uc1424_0, rfl, ul1424_0, ge1424_0⟩ := Kd.FK_slice_open hMe1424; have hv1424_0 := hcc1424 0 _ rfl; rw [Nat.add_zero, show ((Kd.slice 2 (Kd.int .i64))).sz = 1 from rfl, Nat.mul_one] at hv1424_0; replace hv1424_0 := Option.some.inj (hv1424_0.symm.trans hx1424_0); injection hv1424_0 with hva_ hvn_ hvc_; rw [hva_] at ge1424_0; rw [hvc_] at ul1424_0; have HL1424_0 := am_ (show Kd.V (Kd.int .i64) 2 _ w.heap.size _ _ (rd_L6 t1411 x7_2) from Kd.V_mk ul1424_0 ge1424_0); clear hva_ hvn_ hvc_ ge1424_0 ul1424_0; clear hcc1424 hce1424; have HR1424_0 := am_ hi1424_0; have HC1424_0 := am_ hl1424_0; clear hi1424_0 hl1424_0; replace p1424 := eq_true p1424; replace q1424 := eq_true q1424; have p1425 : 0 ≤ (2 : Int) := (by omega); have q1425 : 2 < ((rd_L6 t1411 x7_2).length : Int) := of_decide_eq_true Zc; obtain ⟨ad1425, e1425, hx1425_0⟩ := Kd.at_int (have z0_ := HR1424_0; Zah) 2 p1425 q1425
                      cases e1425
                      (try simp only [show (2 : Int).toNat = 2 from rfl, Nat.reduceMul, Nat.reduceEqDiff, Go.Addr.add, ↓reduceIte] at hx1425_0)
                      have qi1425 : (2 < (rd_L6 t1411 x7_2).length) = True := eq_true (by omega)
                      (try rw [show ((2 : Int)).toNat = 2 from rfl] at hx1425_0)
                      replace p1425 := eq_true p1425; replace q1425 := eq_true q1425; have p1426 : 0 ≤ (x7_2 : Int) := of_decide_eq_true Zc; have q1426 : x7_2 < (t1411.length : Int) := of_decide_eq_true Zc; obtain ⟨ad1426, A1426_0, c1426_0, e1426, hx1426_0, hl1426_0, hi1426_0⟩ := at_L6 (Kd.N_reads' HO_3.out).2.2 x7_2 p1426 q1426; obtain rfl : ad1424 = ad1426 := (by injection e1426); obtain ⟨ce1426, hce1426, hMe1426, hcc1426⟩ := Kd.N_get HO_3.out [] x7_2 p1426 (by first | exact q1426 | exact of_decide_eq_true Zc | (have e_ := (Kd.N_reads' HO_3.out).1; omega)); obtain ⟨ua1426_0, uc1426_0, rfl, ul1426_0, ge1426_0⟩ := Kd.FK_slice_open hMe1426; have hv1426_0 := hcc1426 0 _ rfl; rw [Nat.add_zero, show ((Kd.slice 2 (Kd.int .i64))).sz = 1 from rfl, Nat.mul_one] at hv1426_0; replace hv1426_0 := Option.some.inj (hv1426_0.symm.trans hx1426_0); injection hv1426_0 with hva_ hvn_ hvc_; rw [hva_] at ge1426_0; rw [hvc_] at ul1426_0; have HL1426_0 := am_ (show Kd.V (Kd.int .i64) 2 _ w.heap.size _ _ (rd_L6 t1411 x7_2) from Kd.V_mk ul1426_0 ge1426_0); clear hva_ hvn_ hvc_ ge1426_0 ul1426_0; clear hcc1426 hce1426; have HR1426_0 := am_ hi1426_0; have HC1426_0 := am_ hl1426_0; clear hi1426_0 hl1426_0; replace p1426 := eq_true p1426; replace q1426 := eq_true q1426; have ea_ := Option.some.inj (hx1424_0.symm.trans hx1426_0); injection ea_ with ea_ en_ ec_; subst ea_; subst ec_; clear en_; have p1427 : 0 ≤ (0 : Int) := (by omega); have q1427 : 0 < ((rd_L6 t1411 x7_2).length : Int) := of_decide_eq_true Zc; obtain ⟨ad1427, e1427, hx1427_0⟩ := Kd.at_int (have z0_ := HR1426_0; Zah) 0 p1427 q1427
                      cases e1427
                      have qi1427 : (0 < (rd_L6 t1411 x7_2).length) = True := eq_true (by omega)
                      (try rw [show ((0 : Int)).toNat = 0 from rfl] at hx1427_0)
                      (try rw [Addr.add_zero'] at hx1427_0)
                      replace p1427 := eq_true p1427; replace q1427 := eq_true q1427; have p1428 : 0 ≤ (x7_2 : Int) := of_decide_eq_true Zc; have q1428 : x7_2 < (t1411.length : Int) := of_decide_eq_true Zc; obtain ⟨ad1428, A1428_0, c1428_0, e1428, hx1428_0, hl1428_0, hi1428_0⟩ := at_L6 (Kd.N_reads' HO_3.out).2.2 x7_2 p1428 q1428; obtain rfl : ad1424 = ad1428 := (by injection e1428); obtain ⟨ce1428, hce1428, hMe1428, hcc1428⟩ := Kd.N_get HO_3.out [] x7_2 p1428 (by first | exact q1428 | exact of_decide_eq_true Zc | (have e_ := (Kd.N_reads' HO_3.out).1; omega)); obtain ⟨ua1428_0, uc1428_0, rfl, ul1428_0, ge1428_0⟩ := Kd.FK_slice_open hMe1428; have hv1428_0 := hcc1428 0 _ rfl; rw [Nat.add_zero, show ((Kd.slice 2 (Kd.int .i64))).sz = 1 from rfl, Nat.mul_one] at hv1428_0; replace hv1428_0 := Option.some.inj (hv1428_0.symm.trans hx1428_0); injection hv1428_0 with hva_ hvn_ hvc_; rw [hva_] at ge1428_0; rw [hvc_] at ul1428_0; have HL1428_0 := am_ (show Kd.V (Kd.int .i64) 2 _ w.heap.size _ _ (rd_L6 t1411 x7_2) from Kd.V_mk ul1428_0 ge1428_0); clear hva_ hvn_ hvc_ ge1428_0 ul1428_0; clear hcc1428 hce1428; have HR1428_0 := am_ hi1428_0; have HC1428_0 := am_ hl1428_0; clear hi1428_0 hl1428_0; replace p1428 := eq_true p1428; replace q1428 := eq_true q1428; have ea_ := Option.some.inj (hx1424_0.symm.trans hx1428_0); injection ea_ with ea_ en_ ec_; subst ea_; subst ec_; clear en_; have p1429 : 0 ≤ (1 : Int) := (by omega); have q1429 : 1 < ((rd_L6 t1411 x7_2).length : Int) := of_decide_eq_true Zc; obtain ⟨ad1429, e1429, hx1429_0⟩ := Kd.at_int (have z0_ := HR1428_0; Zah) 1 p1429 q1429
                      cases e1429
                      (try simp only [show (1 : Int).toNat = 1 from rfl, Nat.reduceMul, Nat.reduceEqDiff, Go.Addr.add, ↓reduceIte] at hx1429_0)
                      have qi1429 : (1 < (rd_L6 t1411 x7_2).length) = True := eq_true (by omega)
                      (try rw [show ((1 : Int)).toNat = 1 from rfl] at hx1429_0)
                      replace p1429 := eq_true p1429; replace q1429 := eq_true q1429
                      go_wp2
                      go_meet
                      case rel => exact ⟨_, (decide ((rd (rd_L6 t1411 x7_2) 1) < t1422)), Za, H', ⟨by have := HJ6.out; have := HK2.out; have := HJ17.out; first | omega | exact Nat.le_refl _⟩, ⟨(have z0_ := HO_3; Zau)⟩, ⟨(have z0_ := BK1410; Zs)⟩, ⟨(have z0_ := GE1410; Zk)⟩⟩
                     ·rw [if_neg c38] at H
                      exact absurd H (by simp)
                   ·rw [if_neg c35] at H
                    exact absurd H (by simp)
                  ·rw [if_neg c34] at H
                   have c34b0 := beq_eq_false_iff_ne.mpr c34; have c34b1 := bne_iff_ne.mpr c34; exact absurd (H.trans (congrArg some HR_.out)) (laws_FnEveryBurst.j3_true _ _ _ _ _ _ _ _)
                 ·rw [if_neg c33] at H
                  exact absurd H (by simp)
                ·rw [if_neg c32] at H
                 exact absurd H (by simp)
               ·rw [if_neg c31] at H
                exact absurd H (by simp)
             ·rw [if_neg c28] at H
              have c28b0 := beq_eq_false_iff_ne.mpr c28; have c28b1 := bne_iff_ne.mpr c28
              (first | rw [c28b0] | (simp only [i64_w, i32_w]; rw [c28b0]) | skip)
              exact absurd (H.trans (congrArg some HR_.out)) (laws_FnEveryBurst.j3_true _ _ _ _ _ _ _ _)
            case rest => as_aux_lemma =>
             clear HC25
             try clear c1
             try clear p1
             try clear q1
             try clear hx1
             try clear qi1
             try clear c2
             try clear c2b0
             try clear c2b1
             try clear p2
             try clear c3
             try clear c4
             try clear c7
             try clear c13
             try clear c13b0
             try clear c13b1
             try clear c14
             try clear p14
             try clear q14
             try clear hx14
             try clear qi14
             try clear c17
             try clear c19
             try clear c19b0
             try clear c19b1
             try clear c21
             try clear c22
             try clear c22b0
             try clear c23
             try clear c23b0
             try clear c28
             try clear c28b0
             try clear c28b1
             try clear c29
             try clear c29b0
             try clear c31
             try clear c31b0
             try clear c32
             try clear c32b0
             try clear c33
             try clear c33b0
             try clear c33b1
             try clear c34
             try clear c34b0
             try clear c34b1
             try clear c35
             try clear c35b0
             try clear c35b1
             try clear c36
             try clear c36b0
             try clear c38
             try clear c38b0
             try clear c38b1
             try clear hcz11_0
             try clear hcz11_1
             try clear hcz11_2
             try clear hcz20_0
             try clear hcz20_1
             try clear hcz20_2
             try clear hcz4_0
             try clear hcz4_1
             try clear hcz4_2
             try clear hcz9_0
             try clear hcz9_1
             try clear hcz9_2
             try clear hfz11_0
             try clear hfz11_1
             try clear hfz11_2
             try clear hfz20_0
             try clear hfz20_1
             try clear hfz20_2
             try clear hfz4_0
             try clear hfz4_1
             try clear hfz4_2
             try clear hfz9_0
             try clear hfz9_1
             try clear hfz9_2
             try clear hx1420_0
             try clear hx1420_1
             try clear hx1420_2
             try clear hx1420_3
             try clear hx1421_0
             try clear hx1421_1
             try clear hx1421_2
             try clear hx1421_3
             try clear hx1424_0
             try clear hx1425_0
             try clear hx1426_0
             try clear hx1427_0
             try clear hx1428_0
             try clear hx1429_0
             try clear p1420
             try clear p1421
             try clear p1424
             try clear p1425
             try clear p1426
             try clear p1427
             try clear p1428
             try clear p1429
             try clear p2
             try clear q1420
             try clear q1421
             try clear q1424
             try clear q1425
             try clear q1426
             try clear q1427
             try clear q1428
             try clear q1429
             obtain ⟨kq, x100_24, rfl, HA, HJ24, HO_3, BK1410, HB⟩ := hcut
             cases kq with
             | zero => exact absurd HA.out (by simp [laws_FnEveryBurst.j3])
             | succ kj24 =>
              have H := HA.out; clear HA; simp only [laws_FnEveryBurst.j3] at H
              by_cases c41 : x100_24 = true
              ·subst c41
               have H1 : (some false) = some r := by rw [if_pos rfl] at H; exact H
               clear H; have H := H1; clear H1; exact absurd ((Option.some.inj H).trans HR_.out) (by decide)
              ·replace c41 := Bool.eq_false_iff.mpr c41
               subst c41
               have H1 : (laws_FnEveryBurst.l1 kj24 t1411 t1414 x7_2 x8_2 l0_0 l0_1 l0_2) = some r := by rw [if_neg (show ¬ (false = true) by decide)] at H; exact H
               clear H; have H := H1; clear H1; have H' := am_ H; clear H
               go_wp2
               go_loopg [7] kj24 (fun kq v7 w' => ∃ (x7_5 : Int), v7 = .int .i64 x7_5 ∧ Aside0 (laws_FnEveryBurst.l1 kq t1411 t1414 x7_5 x8_2 l0_0 l0_1 l0_2 = some r) ∧ Aside0 (kq ≤ kj24) ∧ Aside0 (Kd.N (Kd.slice 2 (Kd.int .i64)) 33 w' w.heap.size (fun k_ => k_ ≠ gb1410) v1412 t1411) ∧ Aside0 (w'.heap[gb1410]? = some (.cells #[(.slice A0_0 l0_0.length c0_0), (.slice A0_1 l0_1.length c0_1), (.slice (some ad1420) l0_2.length c0_2)] 28 (0, 0))) ∧ Aside0 (Below w.heap.size w w'))
               case atStart => exact ⟨(x7_2), Za, H', ⟨Nat.le_refl _⟩, ⟨(have z0_ := HO_3; Zau)⟩, ⟨(have z0_ := BK1410; Zs)⟩, ⟨(have z0_ := GE1410; Zk)⟩⟩
               case round => as_aux_lemma =>
                clear H'
                try clear c1
                try clear p1
                try clear q1
                try clear hx1
                try clear qi1
                try clear c2
                try clear c2b0
                try clear c2b1
                try clear p2
                try clear c3
                try clear c4
                try clear c7
                try clear c13
                try clear c13b0
                try clear c13b1
                try clear c14
                try clear p14
                try clear q14
                try clear hx14
                try clear qi14
                try clear c17
                try clear c19
                try clear c19b0
                try clear c19b1
                try clear c21
                try clear c22
                try clear c22b0
                try clear c23
                try clear c23b0
                try clear c28
                try clear c28b0
                try clear c28b1
                try clear c29
                try clear c29b0
                try clear c31
                try clear c31b0
                try clear c32
                try clear c32b0
                try clear c33
                try clear c33b0
                try clear c33b1
                try clear c34
                try clear c34b0
                try clear c34b1
                try clear c35
                try clear c35b0
                try clear c35b1
                try clear c36
                try clear c36b0
                try clear c38
                try clear c38b0
                try clear c38b1
                try clear c41
                try clear hcz11_0
                try clear hcz11_1
                try clear hcz11_2
                try clear hcz20_0
                try clear hcz20_1
                try clear hcz20_2
                try clear hcz4_0
                try clear hcz4_1
                try clear hcz4_2
                try clear hcz9_0
                try clear hcz9_1
                try clear hcz9_2
                try clear hfz11_0
                try clear hfz11_1
                try clear hfz11_2
                try clear hfz20_0
                try clear hfz20_1
                try clear hfz20_2
                try clear hfz4_0
                try clear hfz4_1
                try clear hfz4_2
                try clear hfz9_0
                try clear hfz9_1
                try clear hfz9_2
                try clear hx1420_0
                try clear hx1420_1
                try clear hx1420_2
                try clear hx1420_3
                try clear hx1421_0
                try clear hx1421_1
                try clear hx1421_2
                try clear hx1421_3
                try clear hx1424_0
                try clear hx1425_0
                try clear hx1426_0
                try clear hx1427_0
                try clear hx1428_0
                try clear hx1429_0
                try clear p1
                try clear p14
                try clear p1420
                try clear p1421
                try clear p1424
                try clear p1425
                try clear p1426
                try clear p1427
                try clear p1428
                try clear p1429
                try clear p2
                try clear q1
                try clear q14
                try clear q1420
                try clear q1421
                try clear q1424
                try clear q1425
                try clear q1426
                try clear q1427
                try clear q1428
                try clear q1429
                obtain ⟨x7_5, rfl, HA, HK5, HO_3, BK1410, HB⟩ := hrel
                cases gk with
                | zero => exact absurd HA.out (by simp [laws_FnEveryBurst.l1])
                | succ k5 =>
                 have H := HA.out; clear HA; simp only [laws_FnEveryBurst.l1] at H
                 by_cases c42 : x7_5 < (t1411.length : Int)
                 ·rw [if_pos c42] at H
                  have c42b0 := decide_eq_true c42; clear c42
                  by_cases c43 : 0 ≤ x7_5
                  ·rw [if_pos c43] at H
                   have c43b0 := decide_eq_true c43; clear c43
                   by_cases c44 : 2 < ((rd_L6 t1411 x7_5).length : Int)
                   ·rw [if_pos c44] at H
                    have c44b0 := decide_eq_true c44; have c44b1 : decide (2 < (rd_L6 t1411 x7_5).length) = true := decide_eq_true (by omega); clear c44
                    by_cases c45 : (rd (rd_L6 t1411 x7_5) 2) = x8_2
                    ·rw [if_pos c45] at H
                     have c45b0 := beq_iff_eq.mpr c45; have c45b1 := bne_eq_false_iff_eq.mpr c45; clear c45; have H' := am_ H; clear H; obtain ⟨Ao46, co46, eo46⟩ := Kd.N_slice HO_3.out; subst eo46; have p1430 : 0 ≤ (x7_5 : Int) := of_decide_eq_true Zc; have q1430 : x7_5 < (t1411.length : Int) := of_decide_eq_true Zc; obtain ⟨ad1430, A1430_0, c1430_0, e1430, hx1430_0, hl1430_0, hi1430_0⟩ := at_L6 (Kd.N_reads' HO_3.out).2.2 x7_5 p1430 q1430
                     cases e1430
                     obtain ⟨ce1430, hce1430, hMe1430, hcc1430⟩ := Kd.N_get HO_3.out [] x7_5 p1430 (by first | exact q1430 | exact of_decide_eq_true Zc | (have e_ := (Kd.N_reads' HO_3.out).1; omega)); obtain ⟨ua1430_0, uc1430_0, rfl, ul1430_0, ge1430_0⟩ := Kd.FK_slice_open hMe1430; have hv1430_0 := hcc1430 0 _ rfl; rw [Nat.add_zero, show ((Kd.slice 2 (Kd.int .i64))).sz = 1 from rfl, Nat.mul_one] at hv1430_0; replace hv1430_0 := Option.some.inj (hv1430_0.symm.trans hx1430_0); injection hv1430_0 with hva_ hvn_ hvc_; rw [hva_] at ge1430_0; rw [hvc_] at ul1430_0; have HL1430_0 := am_ (show Kd.V (Kd.int .i64) 2 _ w.heap.size _ _ (rd_L6 t1411 x7_5) from Kd.V_mk ul1430_0 ge1430_0); clear hva_ hvn_ hvc_ ge1430_0 ul1430_0; clear hcc1430 hce1430; have HR1430_0 := am_ hi1430_0; have HC1430_0 := am_ hl1430_0; clear hi1430_0 hl1430_0; replace p1430 := eq_true p1430; replace q1430 := eq_true q1430; have p1431 : 0 ≤ (2 : Int) := (by omega); have q1431 : 2 < ((rd_L6 t1411 x7_5).length : Int) := of_decide_eq_true Zc; obtain ⟨ad1431, e1431, hx1431_0⟩ := Kd.at_int (have z0_ := HR1430_0; Zah) 2 p1431 q1431
                     cases e1431
                     (try simp only [show (2 : Int).toNat = 2 from rfl, Nat.reduceMul, Nat.reduceEqDiff, Go.Addr.add, ↓reduceIte] at hx1431_0)
                     have qi1431 : (2 < (rd_L6 t1411 x7_5).length) = True := eq_true (by omega)
                     (try rw [show ((2 : Int)).toNat = 2 from rfl] at hx1431_0)
                     replace p1431 := eq_true p1431; replace q1431 := eq_true q1431
                     go_wp2
                     go_roundg k5
                     case measure => have := HJ6.out; have := HK2.out; have := HJ17.out; have := HJ24.out; have := HK5.out; omega
                     case rel => exact ⟨(wrap64 (x7_5 + 1)), Za, H', ⟨by have := HJ6.out; have := HK2.out; have := HJ17.out; have := HJ24.out; have := HK5.out; omega⟩, ⟨(have z0_ := HO_3; Zau)⟩, ⟨(have z0_ := BK1410; Zs)⟩, ⟨(have z0_ := GE1410; Zk)⟩⟩
                    ·rw [if_neg c45] at H
                     have c45b0 := beq_eq_false_iff_ne.mpr c45; have c45b1 := bne_iff_ne.mpr c45; have H' := am_ H; clear H; obtain ⟨Ao47, co47, eo47⟩ := Kd.N_slice HO_3.out; subst eo47; have p1430 : 0 ≤ (x7_5 : Int) := of_decide_eq_true Zc; have q1430 : x7_5 < (t1411.length : Int) := of_decide_eq_true Zc; obtain ⟨ad1430, A1430_0, c1430_0, e1430, hx1430_0, hl1430_0, hi1430_0⟩ := at_L6 (Kd.N_reads' HO_3.out).2.2 x7_5 p1430 q1430
                     cases e1430
                     obtain ⟨ce1430, hce1430, hMe1430, hcc1430⟩ := Kd.N_get HO_3.out [] x7_5 p1430 (by first | exact q1430 | exact of_decide_eq_true Zc | (have e_ := (Kd.N_reads' HO_3.out).1; omega)); obtain ⟨ua1430_0, uc1430_0, rfl, ul1430_0, ge1430_0⟩ := Kd.FK_slice_open hMe1430; have hv1430_0 := hcc1430 0 _ rfl; rw [Nat.add_zero, show ((Kd.slice 2 (Kd.int .i64))).sz = 1 from rfl, Nat.mul_one] at hv1430_0; replace hv1430_0 := Option.some.inj (hv1430_0.symm.trans hx1430_0); injection hv1430_0 with hva_ hvn_ hvc_; rw [hva_] at ge1430_0; rw [hvc_] at ul1430_0; have HL1430_0 := am_ (show Kd.V (Kd.int .i64) 2 _ w.heap.size _ _ (rd_L6 t1411 x7_5) from Kd.V_mk ul1430_0 ge1430_0); clear hva_ hvn_ hvc_ ge1430_0 ul1430_0; clear hcc1430 hce1430; have HR1430_0 := am_ hi1430_0; have HC1430_0 := am_ hl1430_0; clear hi1430_0 hl1430_0; replace p1430 := eq_true p1430; replace q1430 := eq_true q1430; have p1431 : 0 ≤ (2 : Int) := (by omega); have q1431 : 2 < ((rd_L6 t1411 x7_5).length : Int) := of_decide_eq_true Zc; obtain ⟨ad1431, e1431, hx1431_0⟩ := Kd.at_int (have z0_ := HR1430_0; Zah) 2 p1431 q1431
                     cases e1431
                     (try simp only [show (2 : Int).toNat = 2 from rfl, Nat.reduceMul, Nat.reduceEqDiff, Go.Addr.add, ↓reduceIte] at hx1431_0)
                     have qi1431 : (2 < (rd_L6 t1411 x7_5).length) = True := eq_true (by omega)
                     (try rw [show ((2 : Int)).toNat = 2 from rfl] at hx1431_0)
                     replace p1431 := eq_true p1431; replace q1431 := eq_true q1431
                     go_wp2
                     go_roundg k5
                     case measure => have := HJ6.out; have := HK2.out; have := HJ17.out; have := HJ24.out; have := HK5.out; omega
                     case rel => exact ⟨(x7_5), (wrap64 (x8_2 + 1)), Za, Za, H', ⟨by have := HJ6.out; have := HK2.out; have := HJ17.out; have := HJ24.out; have := HK5.out; omega⟩, ⟨(have z0_ := HO_3; Zau)⟩, ⟨(have z0_ := BK1410; Zs)⟩, ⟨(have z0_ := GE1410; Zk)⟩⟩
                   ·rw [if_neg c44] at H
                    exact absurd H (by simp)
                  ·rw [if_neg c43] at H
                   exact absurd H (by simp)
                 ·rw [if_neg c42] at H
                  have c42b0 := decide_eq_false c42; clear c42; have H' := am_ H; clear H; obtain ⟨Ao48, co48, eo48⟩ := Kd.N_slice HO_3.out; subst eo48
                  go_wp2
                  go_roundg k5
                  case measure => have := HJ6.out; have := HK2.out; have := HJ17.out; have := HJ24.out; have := HK5.out; omega
                  case rel => exact ⟨(x7_5), (wrap64 (x8_2 + 1)), Za, Za, H', ⟨by have := HJ6.out; have := HK2.out; have := HJ17.out; have := HJ24.out; have := HK5.out; omega⟩, ⟨(have z0_ := HO_3; Zau)⟩, ⟨(have z0_ := BK1410; Zs)⟩, ⟨(have z0_ := GE1410; Zk)⟩⟩
           ·rw [if_neg c23] at H
            exact absurd H (by simp)
          ·rw [if_neg c22] at H
           exact absurd H (by simp)
         ·replace c21 := Bool.eq_false_iff.mpr c21
          subst c21
          have H1 : (if t1414 = 0 then (some (x7_2 == (t1411.length : Int))) else (some true)) = some r := by rw [if_neg (show ¬ (false = true) by decide)] at H; exact H
          clear H; have H := H1; clear H1
          by_cases c49 : t1414 = 0
          ·rw [if_pos c49] at H
           have c49b0 := beq_iff_eq.mpr c49; have c49b1 := bne_eq_false_iff_eq.mpr c49; clear c49; obtain rfl := Option.some.inj H; obtain ⟨Ao50, co50, eo50⟩ := Kd.N_slice HO_3.out; subst eo50
           go_wp2
           go_ret
           exact ⟨Zg, (have z0_ := GE1410; Zk)⟩
          ·rw [if_neg c49] at H
           have c49b0 := beq_eq_false_iff_ne.mpr c49; have c49b1 := bne_iff_ne.mpr c49; obtain rfl := Option.some.inj H
           go_wp2
           go_ret
           exact ⟨Zg, (have z0_ := GE1410; Zk)⟩
end Go.Proofs.Ythhijbdekboahaa.F
namespace Go.Proofs.Ythhijbdekboahaa.F
open Go.RowKit Go.Proofs.YthhijbdekboahaaW.PrintWords Go.Proofs.YthhijbdekboahaaW.PrintLast Go.Proofs.YthhijbdekboahaaW.PrintMore
set_option linter.unusedVariables false
set_option linter.unusedSimpArgs false
theorem one104 : Try.prog.cellsOf 2 = 1 := by kernel_rfl
theorem size104 : Try.prog.cellsOf 104 = 2 := by kernel_rfl
def Pr104 (x : S104) : Prop := I64 x.f0 ∧ I64 x.f1
theorem open_S104 {H : Type} {enc : TypeId × Value → H} {W : World} {base : Nat} {sp : Nat → Bool} {held : Bool} {fuel : Nat} {cs : List Value} {y : DataW H × List MemPlace} (h : DataW.trod enc Try.prog W base sp held fuel 104 cs = some y) (w : World) : ∃ a : S104, k104.K w a cs ∧ Pr104 a := by
 obtain ⟨xs, n, _, rfl, hl, hlen, hf⟩ := DataW.trod_struct Try.underlying104 h; rw [size104] at hl; obtain ⟨v0, e0, _, w0⟩ := DataW.trod_int Try.underlying2 ((hf 0 _ rfl).trans (List.getElem?_eq_getElem Zav)); have g0 : cs[0]? = some (.int .i64 v0) := one_cell (by have z : List.take (Try.prog.cellsOf 2) (List.drop 0 cs) = [.int .i64 v0] := e0; rw [one104] at z; exact z); obtain ⟨v1, e1, _, w1⟩ := DataW.trod_int Try.underlying2 ((hf 1 _ rfl).trans (List.getElem?_eq_getElem Zav)); have g1 : cs[1]? = some (.int .i64 v1) := one_cell (by have z : List.take (Try.prog.cellsOf 2) (List.drop 1 cs) = [.int .i64 v1] := e1; rw [one104] at z; exact z)
 have hcs : cs = [.int .i64 v0, .int .i64 v1] := by
  apply List.ext_getElem?
  intro i
  match i with
  | 0 => exact g0
  | 1 => exact g1
  | i + 2 => rw [List.getElem?_eq_none (by omega)]; rfl
 subst hcs; exact ⟨⟨v0, v1⟩, k104_mk w _, I64_of w0, I64_of w1⟩
theorem one62 : Try.prog.cellsOf 2 = 1 := by kernel_rfl
theorem ones62 : Try.prog.cellsOf 9 = 1 := by kernel_rfl
theorem size62 : Try.prog.cellsOf 62 = 9 := by kernel_rfl
def Pr62 (x : S62) : Prop := x.f0.size ≤ maxLen ∧ I64 x.f1 ∧ I64 x.f2 ∧ I64 x.f3 ∧ I64 x.f4 ∧ I64 x.f5 ∧ I64 x.f6 ∧ I64 x.f7 ∧ I64 x.f8
theorem open_S62 {H : Type} {enc : TypeId × Value → H} {W : World} {base : Nat} {sp : Nat → Bool} {held : Bool} {fuel : Nat} {cs : List Value} {y : DataW H × List MemPlace} (h : DataW.trod enc Try.prog W base sp held fuel 62 cs = some y) (w : World) : ∃ a : S62, k62.K w a cs ∧ Pr62 a := by
 obtain ⟨xs, n, _, rfl, hl, hlen, hf⟩ := DataW.trod_struct Try.underlying62 h; rw [size62] at hl; obtain ⟨v0, e0, _, w0⟩ := DataW.trod_string Try.underlying9 ((hf 0 _ rfl).trans (List.getElem?_eq_getElem Zav)); have g0 : cs[0]? = some (.string v0) := one_cell (by have z : List.take (Try.prog.cellsOf 9) (List.drop 0 cs) = [.string v0] := e0; rw [ones62] at z; exact z); obtain ⟨v1, e1, _, w1⟩ := DataW.trod_int Try.underlying2 ((hf 1 _ rfl).trans (List.getElem?_eq_getElem Zav)); have g1 : cs[1]? = some (.int .i64 v1) := one_cell (by have z : List.take (Try.prog.cellsOf 2) (List.drop 1 cs) = [.int .i64 v1] := e1; rw [one62] at z; exact z); obtain ⟨v2, e2, _, w2⟩ := DataW.trod_int Try.underlying2 ((hf 2 _ rfl).trans (List.getElem?_eq_getElem Zav)); have g2 : cs[2]? = some (.int .i64 v2) := one_cell (by have z : List.take (Try.prog.cellsOf 2) (List.drop 2 cs) = [.int .i64 v2] := e2; rw [one62] at z; exact z); obtain ⟨v3, e3, _, w3⟩ := DataW.trod_int Try.underlying2 ((hf 3 _ rfl).trans (List.getElem?_eq_getElem Zav)); have g3 : cs[3]? = some (.int .i64 v3) := one_cell (by have z : List.take (Try.prog.cellsOf 2) (List.drop 3 cs) = [.int .i64 v3] := e3; rw [one62] at z; exact z); obtain ⟨v4, e4, _, w4⟩ := DataW.trod_int Try.underlying2 ((hf 4 _ rfl).trans (List.getElem?_eq_getElem Zav)); have g4 : cs[4]? = some (.int .i64 v4) := one_cell (by have z : List.take (Try.prog.cellsOf 2) (List.drop 4 cs) = [.int .i64 v4] := e4; rw [one62] at z; exact z); obtain ⟨v5, e5, _, w5⟩ := DataW.trod_int Try.underlying2 ((hf 5 _ rfl).trans (List.getElem?_eq_getElem Zav)); have g5 : cs[5]? = some (.int .i64 v5) := one_cell (by have z : List.take (Try.prog.cellsOf 2) (List.drop 5 cs) = [.int .i64 v5] := e5; rw [one62] at z; exact z); obtain ⟨v6, e6, _, w6⟩ := DataW.trod_int Try.underlying2 ((hf 6 _ rfl).trans (List.getElem?_eq_getElem Zav)); have g6 : cs[6]? = some (.int .i64 v6) := one_cell (by have z : List.take (Try.prog.cellsOf 2) (List.drop 6 cs) = [.int .i64 v6] := e6; rw [one62] at z; exact z); obtain ⟨v7, e7, _, w7⟩ := DataW.trod_int Try.underlying2 ((hf 7 _ rfl).trans (List.getElem?_eq_getElem Zav)); have g7 : cs[7]? = some (.int .i64 v7) := one_cell (by have z : List.take (Try.prog.cellsOf 2) (List.drop 7 cs) = [.int .i64 v7] := e7; rw [one62] at z; exact z); obtain ⟨v8, e8, _, w8⟩ := DataW.trod_int Try.underlying2 ((hf 8 _ rfl).trans (List.getElem?_eq_getElem Zav)); have g8 : cs[8]? = some (.int .i64 v8) := one_cell (by have z : List.take (Try.prog.cellsOf 2) (List.drop 8 cs) = [.int .i64 v8] := e8; rw [one62] at z; exact z)
 have hcs : cs = [.string v0, .int .i64 v1, .int .i64 v2, .int .i64 v3, .int .i64 v4, .int .i64 v5, .int .i64 v6, .int .i64 v7, .int .i64 v8] := by
  apply List.ext_getElem?
  intro i
  match i with
  | 0 => exact g0
  | 1 => exact g1
  | 2 => exact g2
  | 3 => exact g3
  | 4 => exact g4
  | 5 => exact g5
  | 6 => exact g6
  | 7 => exact g7
  | 8 => exact g8
  | i + 9 => rw [List.getElem?_eq_none (by omega)]; rfl
 subst hcs; exact ⟨⟨v0, v1, v2, v3, v4, v5, v6, v7, v8⟩, k62_mk w _, w0, I64_of w1, I64_of w2, I64_of w3, I64_of w4, I64_of w5, I64_of w6, I64_of w7, I64_of w8⟩
theorem one39 : Try.prog.cellsOf 2 = 1 := by kernel_rfl
theorem ones39 : Try.prog.cellsOf 9 = 1 := by kernel_rfl
theorem size39 : Try.prog.cellsOf 39 = 4 := by kernel_rfl
def Pr39 (x : S39) : Prop := I64 x.f0 ∧ I64 x.f1 ∧ x.f2.size ≤ maxLen ∧ I64 x.f3
theorem open_S39 {H : Type} {enc : TypeId × Value → H} {W : World} {base : Nat} {sp : Nat → Bool} {held : Bool} {fuel : Nat} {cs : List Value} {y : DataW H × List MemPlace} (h : DataW.trod enc Try.prog W base sp held fuel 39 cs = some y) (w : World) : ∃ a : S39, k39.K w a cs ∧ Pr39 a := by
 obtain ⟨xs, n, _, rfl, hl, hlen, hf⟩ := DataW.trod_struct Try.underlying39 h; rw [size39] at hl; obtain ⟨v0, e0, _, w0⟩ := DataW.trod_int Try.underlying2 ((hf 0 _ rfl).trans (List.getElem?_eq_getElem Zav)); have g0 : cs[0]? = some (.int .i64 v0) := one_cell (by have z : List.take (Try.prog.cellsOf 2) (List.drop 0 cs) = [.int .i64 v0] := e0; rw [one39] at z; exact z); obtain ⟨v1, e1, _, w1⟩ := DataW.trod_int Try.underlying2 ((hf 1 _ rfl).trans (List.getElem?_eq_getElem Zav)); have g1 : cs[1]? = some (.int .i64 v1) := one_cell (by have z : List.take (Try.prog.cellsOf 2) (List.drop 1 cs) = [.int .i64 v1] := e1; rw [one39] at z; exact z); obtain ⟨v2, e2, _, w2⟩ := DataW.trod_string Try.underlying9 ((hf 2 _ rfl).trans (List.getElem?_eq_getElem Zav)); have g2 : cs[2]? = some (.string v2) := one_cell (by have z : List.take (Try.prog.cellsOf 9) (List.drop 2 cs) = [.string v2] := e2; rw [ones39] at z; exact z); obtain ⟨v3, e3, _, w3⟩ := DataW.trod_int Try.underlying2 ((hf 3 _ rfl).trans (List.getElem?_eq_getElem Zav)); have g3 : cs[3]? = some (.int .i64 v3) := one_cell (by have z : List.take (Try.prog.cellsOf 2) (List.drop 3 cs) = [.int .i64 v3] := e3; rw [one39] at z; exact z)
 have hcs : cs = [.int .i64 v0, .int .i64 v1, .string v2, .int .i64 v3] := by
  apply List.ext_getElem?
  intro i
  match i with
  | 0 => exact g0
  | 1 => exact g1
  | 2 => exact g2
  | 3 => exact g3
  | i + 4 => rw [List.getElem?_eq_none (by omega)]; rfl
 subst hcs; exact ⟨⟨v0, v1, v2, v3⟩, k39_mk w _, I64_of w0, I64_of w1, w2, I64_of w3⟩
theorem size28 : Try.prog.cellsOf 28 = 3 := by kernel_rfl
theorem ones24 : Try.prog.cellsOf 24 = 1 := by kernel_rfl
theorem ones25 : Try.prog.cellsOf 25 = 1 := by kernel_rfl
theorem ones26 : Try.prog.cellsOf 26 = 1 := by kernel_rfl
theorem open_V28 {H : Type} {enc : TypeId × Value → H} {W : World} {base : Nat} {sp : Nat → Bool} {held : Bool} {fuel : Nat} {cs : List Value} {y : DataW H × List MemPlace} (h : DataW.trod enc Try.prog W base sp held fuel 28 cs = some y) : ∃ (A0 : Option Addr) (c0 : Nat) (l0 : List S104) (A1 : Option Addr) (c1 : Nat) (l1 : List S62) (A2 : Option Addr) (c2 : Nat) (l2 : List S39), cs = [.slice A0 l0.length c0, .slice A1 l1.length c1, .slice A2 l2.length c2] ∧ (l0.length ≤ c0 ∧ c0 ≤ maxLen ∧ Kd.C k104 W A0 l0.length l0 ∧ ∀ x ∈ l0, Pr104 x) ∧ (l1.length ≤ c1 ∧ c1 ≤ maxLen ∧ Kd.C k62 W A1 l1.length l1 ∧ ∀ x ∈ l1, Pr62 x) ∧ (l2.length ≤ c2 ∧ c2 ≤ maxLen ∧ Kd.C k39 W A2 l2.length l2 ∧ ∀ x ∈ l2, Pr39 x) := by
 obtain ⟨xs, n, _, rfl, hl, hlen, hf⟩ := DataW.trod_struct Try.underlying28 h; rw [size28] at hl; obtain ⟨A0, c0, l0, e0, p0, q0, r0, s0⟩ := open_rows k104 (Pr := Pr104) Try.underlying24 Zi (fun f_ c_ y_ hy_ => open_S104 hy_ W) ((hf 0 _ rfl).trans (List.getElem?_eq_getElem Zav)); have g0 : cs[0]? = some (.slice A0 l0.length c0) := one_cell (by have z : List.take (Try.prog.cellsOf 24) (List.drop 0 cs) = [.slice A0 l0.length c0] := e0; rw [ones24] at z; exact z); obtain ⟨A1, c1, l1, e1, p1, q1, r1, s1⟩ := open_rows k62 (Pr := Pr62) Try.underlying25 Zi (fun f_ c_ y_ hy_ => open_S62 hy_ W) ((hf 1 _ rfl).trans (List.getElem?_eq_getElem Zav)); have g1 : cs[1]? = some (.slice A1 l1.length c1) := one_cell (by have z : List.take (Try.prog.cellsOf 25) (List.drop 1 cs) = [.slice A1 l1.length c1] := e1; rw [ones25] at z; exact z); obtain ⟨A2, c2, l2, e2, p2, q2, r2, s2⟩ := open_rows k39 (Pr := Pr39) Try.underlying26 Zi (fun f_ c_ y_ hy_ => open_S39 hy_ W) ((hf 2 _ rfl).trans (List.getElem?_eq_getElem Zav)); have g2 : cs[2]? = some (.slice A2 l2.length c2) := one_cell (by have z : List.take (Try.prog.cellsOf 26) (List.drop 2 cs) = [.slice A2 l2.length c2] := e2; rw [ones26] at z; exact z)
 have hcs : cs = [.slice A0 l0.length c0, .slice A1 l1.length c1, .slice A2 l2.length c2] := by
  apply List.ext_getElem?
  intro i
  match i with
  | 0 => exact g0
  | 1 => exact g1
  | 2 => exact g2
  | i + 3 => rw [List.getElem?_eq_none (by omega)]; rfl
 exact ⟨A0, c0, l0, A1, c1, l1, A2, c2, l2, hcs, ⟨p0, q0, r0, s0⟩, ⟨p1, q1, r1, s1⟩, ⟨p2, q2, r2, s2⟩⟩
theorem law_FnEveryBurst (k : Nat) (A0_0 : Option Addr) (c0_0 : Nat) (l0_0 : List S104) (A0_1 : Option Addr) (c0_1 : Nat) (l0_1 : List S62) (A0_2 : Option Addr) (c0_2 : Nat) (l0_2 : List S39) (w : World) (hr0_0 : Kd.C k104 w A0_0 l0_0.length l0_0) (hc0_0 : l0_0.length ≤ c0_0) (hr0_1 : Kd.C k62 w A0_1 l0_1.length l0_1) (hc0_1 : l0_1.length ≤ c0_1) (hr0_2 : Kd.C k39 w A0_2 l0_2.length l0_2) (hc0_2 : l0_2.length ≤ c0_2) (h : laws_FnEveryBurst.f k l0_0 l0_1 l0_2 = some true) :
  Calls Try.prog 7 #[.agg #[.slice A0_0 l0_0.length c0_0, .slice A0_1 l0_1.length c0_1, .slice A0_2 l0_2.length c0_2]] w fun e w' => e = .returned (.bool true) ∧ Below w.heap.size w w' := laws_FnEveryBurst.calls k A0_0 c0_0 l0_0 A0_1 c0_1 l0_1 A0_2 c0_2 l0_2 true w hr0_0 hc0_0 hr0_1 hc0_1 hr0_2 hc0_2 h rfl
theorem In_eq (n lo hi : Int) : spec_l01In.f n lo hi = some (inB n lo hi) := by
 unfold spec_l01In.f inB
 by_cases h : n ≥ lo
 ·rw [if_pos h]; congr 1; simp; omega
 ·rw [if_neg h]; congr 1; simp; omega
theorem Wi_eq (n lo hi : Int) : impl_within.f n lo hi = some (inB n lo hi) := by
 unfold impl_within.f inB
 by_cases h : lo ≤ n
 ·rw [if_pos h]; congr 1; simp; omega
 ·rw [if_neg h]; congr 1; simp; omega
def word (s : ByteArray) : Bool := allF (fun j => inB (bt s (j : Int)) 97 122) 0 s.size && inB (s.size : Int) 1 16
theorem spec_word (s : ByteArray) (hs : s.size ≤ 9223372036854775807) (k : Nat) (hk : s.size < k) : spec_IsWord.f k s = some (word s) := by
 refine all_loop (f := fun k i => spec_IsWord.l0 k s (i : Int)) s.size (fun k i hi => ?_) (fun k => ?_) s.size k 0 (by omega) (by omega) (by omega)
 ·show spec_IsWord.l0 (k + 1) s i = _
  simp only [spec_IsWord.l0]; rw [if_pos (by omega), if_pos (by omega), w64 (n := (i : Int) + 1) (by omega)]
  by_cases c1 : bt s (i : Int) < 97
  ·rw [if_pos c1, inB_false.2 (by omega), if_neg (by decide)]
  ·rw [if_neg c1]
   by_cases c2 : bt s (i : Int) > 122
   ·rw [if_pos c2, inB_false.2 (by omega), if_neg (by decide)]
   ·rw [if_neg c2, inB_true.2 (by omega), if_pos rfl]; rfl
 ·show spec_IsWord.l0 (k + 1) s _ = _
  simp only [spec_IsWord.l0]; rw [if_neg (by omega), In_eq]; rfl
theorem impl_word (s : ByteArray) (hs : s.size ≤ 9223372036854775807) (k : Nat) (hk : s.size + 1 < k) : impl_IsWord.f k s = some (word s) := by
 obtain ⟨k, rfl⟩ : ∃ m, k = m + 1 := ⟨k - 1, by omega⟩
 unfold impl_IsWord.f word
 simp only [impl_IsWord.j0]
 by_cases h1 : (s.size : Int) < 1
 ·rw [if_pos h1, if_pos trivial, inB_false.2 (by omega), Bool.and_false]
 ·rw [if_neg h1]
  by_cases h2 : (s.size : Int) > 16
  ·rw [if_pos (decide_eq_true h2), inB_false.2 (by omega), Bool.and_false]
  ·rw [if_neg (by simpa using h2), inB_true.2 (by omega)]
   refine all_loop (f := fun k i => impl_IsWord.l0 k s (i : Int)) s.size (fun k i hi => ?_) (fun k => ?_) s.size k 0 (by omega) (by omega) (by omega)
   ·show impl_IsWord.l0 (k + 1) s i = _
    simp only [impl_IsWord.l0]; rw [if_pos (by omega), if_pos (by omega), w64 (n := (i : Int) + 1) (by omega)]
    by_cases c1 : bt s (i : Int) < 97
    ·rw [if_pos c1, inB_false.2 (by omega), if_neg (by decide)]
    ·rw [if_neg c1]
     by_cases c2 : bt s (i : Int) > 122
     ·rw [if_pos c2, inB_false.2 (by omega), if_neg (by decide)]
     ·rw [if_neg c2, inB_true.2 (by omega), if_pos rfl]; rfl
   ·show impl_IsWord.l0 (k + 1) s _ = _
    simp only [impl_IsWord.l0]; rw [if_neg (by omega)]
def art (a : S62) : Bool := word a.f0 && (inB a.f1 0 3 && (inB a.f2 20 300 && (inB a.f3 0 10000 && (inB a.f4 0 a.f3 && (inB a.f5 1 50 && (inB a.f6 0 10000 && (inB a.f7 1 100000 && inB a.f8 0 3)))))))
theorem spec_art (a : S62) (hs : a.f0.size ≤ 9223372036854775807) (k : Nat) (hk : a.f0.size < k) : spec_IsArticle.f k a.f0 a.f1 a.f2 a.f3 a.f4 a.f5 a.f6 a.f7 a.f8 = some (art a) := by
 unfold spec_IsArticle.f art
 rw [spec_word a.f0 hs k hk]; simp only [In_eq, Option.bind_some]
 cases word a.f0 <;> cases inB a.f1 0 3 <;> cases inB a.f2 20 300 <;> cases inB a.f3 0 10000 <;> cases inB a.f4 0 a.f3 <;> cases inB a.f5 1 50 <;> cases inB a.f6 0 10000 <;> cases inB a.f7 1 100000 <;> rfl
theorem impl_art (a : S62) (hs : a.f0.size ≤ 9223372036854775807) (k : Nat) (hk : a.f0.size + 1 < k) : impl_IsArticle.f k a.f0 a.f1 a.f2 a.f3 a.f4 a.f5 a.f6 a.f7 a.f8 = some (art a) := by
 unfold impl_IsArticle.f art
 rw [impl_word a.f0 hs k hk]; simp only [Wi_eq, Option.bind_some]
 cases word a.f0 <;> cases inB a.f1 0 3 <;> cases inB a.f2 20 300 <;> cases inB a.f3 0 10000 <;> cases inB a.f4 0 a.f3 <;> cases inB a.f5 1 50 <;> cases inB a.f6 0 10000 <;> cases inB a.f7 1 100000 <;> rfl
def ar_at (xs : List S62) (i : Nat) : S62 := xs.getD i z62
theorem rd_art (xs : List S62) (i : Nat) : rd_T62 xs (i : Int) = ar_at xs i := by unfold rd_T62 ar_at; rw [Int.toNat_natCast]
def artAt (xs : List S62) (i : Nat) : Bool := art (ar_at xs i) && (decide (i = 0) || Op.bytesLess (ar_at xs (i - 1)).f0.toList (ar_at xs i).f0.toList)
def areArts (xs : List S62) : Bool := allF (artAt xs) 0 xs.length && decide ((xs.length : Int) ≤ 12)
def Small (B : Nat) (xs : List S62) : Prop := B ≤ 9223372036854775807 ∧ ∀ x ∈ xs, x.f0.size ≤ B
theorem small_at {B : Nat} {xs : List S62} (h : Small B xs) (i : Nat) (hi : i < xs.length) : (ar_at xs i).f0.size ≤ B := by
 unfold ar_at
 rw [List.getD_eq_getElem?_getD, List.getElem?_eq_getElem hi]; exact h.2 _ (List.getElem_mem hi)
theorem spec_arts (B : Nat) (xs : List S62) (hx : xs.length ≤ 9223372036854775807) (hB : Small B xs) (k : Nat) (hk : xs.length + B < k) : spec_AreArticles.f k xs = some (areArts xs) := by
 have loop : ∀ d k i, xs.length - i = d → i ≤ xs.length → d + B < k → spec_AreArticles.l0 k xs (i : Int) = some (allF (artAt xs) i d && decide ((xs.length : Int) ≤ 12)) := by
  intro d
  induction d with
  | zero =>
   intro k i hd hi hk; obtain ⟨k, rfl⟩ : ∃ m, k = m + 1 := ⟨k - 1, by omega⟩; simp only [spec_AreArticles.l0]; rw [if_neg (by omega)]
   rfl
  | succ d ih =>
   intro k i hd hi hk; obtain ⟨k, rfl⟩ : ∃ m, k = m + 1 := ⟨k - 1, by omega⟩; have hb := small_at hB i (by omega); have hB1 := hB.1; have nx := ih k (i + 1) (by omega) (by omega) (by omega); simp only [spec_AreArticles.l0]; rw [if_pos (by omega), if_pos (by omega), rd_art, spec_art _ (by omega) k (by omega), w64 (n := (i : Int) + 1) (by omega)]; simp only [Option.bind_some]
   unfold allF artAt
   cases ha : art (ar_at xs i) with
   | false => rfl
   | true =>
    rw [if_pos rfl, Bool.true_and]
    by_cases i0 : i = 0
    ·subst i0
     rw [if_neg (by omega), decide_eq_true rfl, Bool.true_or, Bool.true_and]; exact nx
    ·rw [if_pos (by omega), w64 (n := (i : Int) - 1) (by omega), if_pos (by omega), if_pos (by omega), show (i : Int) - 1 = ((i - 1 : Nat) : Int) by omega, rd_art, decide_eq_false i0, Bool.false_or]
     cases hl : Op.bytesLess (ar_at xs (i - 1)).f0.toList (ar_at xs i).f0.toList with
     | false => rfl
     | true => rw [if_pos rfl, Bool.true_and]; exact nx
 unfold spec_AreArticles.f
 exact loop xs.length k 0 (by omega) (by omega) hk
theorem impl_arts (B : Nat) (xs : List S62) (hx : xs.length ≤ 9223372036854775807) (hB : Small B xs) (k : Nat) (hk : xs.length + B + 1 < k) : impl_AreArticles.f k xs = some (areArts xs) := by
 have loop : ∀ d k i, xs.length - i = d → i ≤ xs.length → d + B + 1 < k → impl_AreArticles.l0 k xs xs (xs.length : Int) (i : Int) = some (allF (artAt xs) i d && true) := by
  intro d
  induction d with
  | zero =>
   intro k i hd hi hk; obtain ⟨k, rfl⟩ : ∃ m, k = m + 1 := ⟨k - 1, by omega⟩; simp only [impl_AreArticles.l0]; rw [if_neg (by omega)]
   rfl
  | succ d ih =>
   intro k i hd hi hk; obtain ⟨k, rfl⟩ : ∃ m, k = m + 1 := ⟨k - 1, by omega⟩; have hb := small_at hB i (by omega); have hB1 := hB.1; have nx := ih k (i + 1) (by omega) (by omega) (by omega); simp only [impl_AreArticles.l0]; rw [if_pos (by omega), if_pos (by omega), if_pos (by omega), rd_art, impl_art _ (by omega) k (by omega), w64 (n := (i : Int) + 1) (by omega)]; simp only [Option.bind_some]
   unfold allF artAt
   cases ha : art (ar_at xs i) with
   | false => rfl
   | true =>
    rw [if_pos rfl, Bool.true_and]
    by_cases i0 : i = 0
    ·subst i0
     rw [if_neg (by omega), decide_eq_true rfl, Bool.true_or, Bool.true_and]; exact nx
    ·rw [if_pos (by omega), w64 (n := (i : Int) - 1) (by omega), if_pos (by omega), if_pos (by omega), show (i : Int) - 1 = ((i - 1 : Nat) : Int) by omega, rd_art, decide_eq_false i0, Bool.false_or]
     cases hl : Op.bytesLess (ar_at xs (i - 1)).f0.toList (ar_at xs i).f0.toList with
     | false => rfl
     | true => rw [if_pos rfl, Bool.true_and]; exact nx
 unfold impl_AreArticles.f areArts
 by_cases c : (xs.length : Int) > 12
 ·rw [if_pos c, decide_eq_false (by omega), Bool.and_false]
 ·rw [if_neg c, decide_eq_true (by omega)]
  exact loop xs.length k 0 (by omega) (by omega) hk
def findF (xs : List S62) (s : ByteArray) : Nat → Nat → Int
 | _, 0 => -1
 | i, d + 1 => if (ar_at xs i).f0.toList = s.toList then (i : Int) else findF xs s (i + 1) d
def find (xs : List S62) (s : ByteArray) : Int := findF xs s 0 xs.length
theorem find_go (xs : List S62) (hx : xs.length ≤ 9223372036854775807) (s : ByteArray) : ∀ d k i, xs.length - i = d → i ≤ xs.length → d < k → spec_l03Find.l0 k xs s (i : Int) = some (findF xs s i d) ∧ impl_articleOf.l0 k s xs (xs.length : Int) (i : Int) = some (findF xs s i d) := by
 intro d
 induction d with
 | zero =>
  intro k i hd hi hk; obtain ⟨k, rfl⟩ : ∃ m, k = m + 1 := ⟨k - 1, by omega⟩; simp only [spec_l03Find.l0, impl_articleOf.l0]; rw [if_neg (by omega), if_neg (by omega)]; exact ⟨rfl, rfl⟩
 | succ d ih =>
  intro k i hd hi hk; obtain ⟨k, rfl⟩ : ∃ m, k = m + 1 := ⟨k - 1, by omega⟩; obtain ⟨a, b⟩ := ih k (i + 1) (by omega) (by omega) (by omega); have w : wrap64 ((i : Int) + 1) = ((i + 1 : Nat) : Int) := w64 (by omega)
  have g1 : (i : Int) < (xs.length : Int) := by clear w; omega
  have g2 : 0 ≤ (i : Int) := by clear w; omega
  simp only [spec_l03Find.l0, impl_articleOf.l0, if_pos g1, if_pos g2, rd_art, w]
  unfold findF
  by_cases c : (ar_at xs i).f0.toList = s.toList
  ·rw [if_pos c, if_pos c, if_pos c]; exact ⟨rfl, rfl⟩
  ·rw [if_neg c, if_neg c, if_neg c]; exact ⟨a, b⟩
theorem spec_find (xs : List S62) (hx : xs.length ≤ 9223372036854775807) (s : ByteArray) (k : Nat) (hk : xs.length < k) : spec_l03Find.f k xs s = some (find xs s) := (find_go xs hx s xs.length k 0 (by omega) (by omega) hk).1
theorem impl_find (xs : List S62) (hx : xs.length ≤ 9223372036854775807) (s : ByteArray) (k : Nat) (hk : xs.length < k) : impl_articleOf.f k xs s = some (find xs s) := (find_go xs hx s xs.length k 0 (by omega) (by omega) hk).2
theorem findF_range (xs : List S62) (s : ByteArray) : ∀ d i, findF xs s i d = -1 ∨ ((i : Int) ≤ findF xs s i d ∧ findF xs s i d < (i : Int) + d)
 | 0, _ => .inl rfl
 | d + 1, i => by
  unfold findF
  by_cases c : (ar_at xs i).f0.toList = s.toList
  ·rw [if_pos c]; exact .inr ⟨Int.le_refl _, by omega⟩
  ·rw [if_neg c]
   rcases findF_range xs s d (i + 1) with h | h
   ·exact .inl h
   ·exact .inr ⟨by omega, by omega⟩
theorem find_range (xs : List S62) (s : ByteArray) : find xs s = -1 ∨ (0 ≤ find xs s ∧ find xs s < (xs.length : Int)) := by
 have := findF_range xs s xs.length 0
 unfold find
 omega
def bt_at (xs : List S104) (i : Nat) : Int := (xs.getD i z104).f0
def ln_at (xs : List S104) (i : Nat) : Int := (xs.getD i z104).f1
def barAt (xs : List S104) (i : Nat) : Bool := inB (bt_at xs i) 1 16 && inB (ln_at xs i) 100 5000
def isScore (xs : List S104) : Bool := allF (barAt xs) 0 xs.length && inB (xs.length : Int) 1 20
theorem rd_bar (xs : List S104) (i : Nat) : rd_T104 xs (i : Int) = xs.getD i z104 := by unfold rd_T104; rw [Int.toNat_natCast]
theorem spec_score (xs : List S104) (hx : xs.length ≤ 9223372036854775807) (k : Nat) (hk : xs.length < k) : spec_IsScore.f k xs = some (isScore xs) := by
 refine all_loop (f := fun k i => spec_IsScore.l0 k xs (i : Int)) xs.length (fun k i hi => ?_) (fun k => ?_) xs.length k 0 (by omega) (by omega) (by omega)
 ·show spec_IsScore.l0 (k + 1) xs i = _
  simp only [spec_IsScore.l0, In_eq, Option.bind_some]; rw [if_pos (by omega), if_pos (by omega), w64 (by omega), rd_bar]
  unfold barAt bt_at ln_at
  cases inB (xs.getD i z104).f0 1 16 <;> cases inB (xs.getD i z104).f1 100 5000 <;> rfl
 ·show spec_IsScore.l0 (k + 1) xs _ = _
  simp only [spec_IsScore.l0, In_eq, Option.bind_some]; rw [if_neg (by omega)]
theorem impl_score (xs : List S104) (hx : xs.length ≤ 9223372036854775807) (k : Nat) (hk : xs.length + 1 < k) : impl_IsScore.f k xs = some (isScore xs) := by
 obtain ⟨k, rfl⟩ : ∃ m, k = m + 1 := ⟨k - 1, by omega⟩
 unfold impl_IsScore.f isScore
 simp only [impl_IsScore.j0]
 by_cases h1 : (xs.length : Int) < 1
 ·rw [if_pos h1, if_pos trivial, inB_false.2 (by omega), Bool.and_false]
 ·rw [if_neg h1]
  by_cases h2 : (xs.length : Int) > 20
  ·rw [if_pos (decide_eq_true h2), inB_false.2 (by omega), Bool.and_false]
  ·rw [if_neg (by simpa using h2), inB_true.2 (by omega)]
   refine all_loop (f := fun k i => impl_IsScore.l0 k xs (xs.length : Int) (i : Int)) xs.length (fun k i hi => ?_) (fun k => ?_) xs.length k 0 (by omega) (by omega) (by omega)
   ·show impl_IsScore.l0 (k + 1) xs (xs.length : Int) i = _
    simp only [impl_IsScore.l0, Wi_eq, Option.bind_some]; rw [if_pos (by omega), if_pos (by omega), if_pos (by omega), w64 (by omega), rd_bar]
    unfold barAt bt_at ln_at
    cases inB (xs.getD i z104).f0 1 16 <;> cases inB (xs.getD i z104).f1 100 5000 <;> rfl
   ·show impl_IsScore.l0 (k + 1) xs (xs.length : Int) _ = _
    simp only [impl_IsScore.l0]; rw [if_neg (by omega)]
theorem isScore_true {xs : List S104} (h : isScore xs = true) : 1 ≤ xs.length ∧ xs.length ≤ 20 ∧ ∀ i, i < xs.length → 1 ≤ bt_at xs i ∧ bt_at xs i ≤ 16 ∧ 100 ≤ ln_at xs i ∧ ln_at xs i ≤ 5000 := by
 unfold isScore at h
 rw [Bool.and_eq_true, allF_true, inB_true] at h; refine ⟨by omega, by omega, fun i hi => ?_⟩; have := h.1 i (by omega) (by omega)
 unfold barAt at this
 rw [Bool.and_eq_true, inB_true, inB_true] at this
 omega
def tm (xs : List S104) (i : Nat) : Int := foldF (fun j s => s + bt_at xs j * ln_at xs j) 0 i 0
theorem tm_succ (xs : List S104) (i : Nat) : tm xs (i + 1) = tm xs i + bt_at xs i * ln_at xs i := by
 unfold tm
 rw [foldF_snoc, Nat.zero_add]
theorem prod_le {a b : Int} (h : 1 ≤ a ∧ a ≤ 16 ∧ 100 ≤ b ∧ b ≤ 5000) : 100 ≤ a * b ∧ a * b ≤ 80000 := by
 have h1 : 1 * b ≤ a * b := Int.mul_le_mul_of_nonneg_right h.1 (by omega); have h2 : a * b ≤ 16 * b := Int.mul_le_mul_of_nonneg_right h.2.1 (by omega)
 omega
theorem tm_le {xs : List S104} (h : isScore xs = true) : ∀ i, i ≤ xs.length → 0 ≤ tm xs i ∧ tm xs i ≤ 80000 * i
 | 0, _ => by unfold tm foldF; omega
 | i + 1, hi => by
  have h1 := tm_le h i (by omega); have h2 := prod_le ((isScore_true h).2.2 i (by omega)); rw [tm_succ]
  omega
theorem spec_time {xs : List S104} (h : isScore xs = true) (bar : Nat) (hb : bar < xs.length) (beat : Int) (h0 : 0 ≤ beat ∧ beat ≤ 16) (k : Nat) (hk : bar < k) : spec_l07Time.f k xs (bar : Int) beat = some (tm xs bar + beat * ln_at xs bar) := by
 have hs := isScore_true h; have hl := hs.2.2 bar hb
 have hb2 : 0 ≤ beat * ln_at xs bar ∧ beat * ln_at xs bar ≤ 80000 := by
  have h1 : 0 * ln_at xs bar ≤ beat * ln_at xs bar := Int.mul_le_mul_of_nonneg_right h0.1 (by omega); have h2 : beat * ln_at xs bar ≤ 16 * ln_at xs bar := Int.mul_le_mul_of_nonneg_right h0.2 (by omega)
  omega
 refine fold_loop (f := fun k i s => spec_l07Time.l0 k xs (bar : Int) beat s (i : Int)) (step := fun j s => s + bt_at xs j * ln_at xs j) (I := fun i s => s = tm xs i) (e := fun s => some (s + beat * ln_at xs bar)) bar (fun k i s hi hI => ?_) (fun i s hi hI => ?_) (fun k s hI => ?_) bar k 0 0 (by omega) (by omega) rfl hk
 ·have h1 := tm_le h i (by omega)
  have h2 := prod_le (hs.2.2 i (by omega)); show spec_l07Time.l0 (k + 1) xs (bar : Int) beat s (i : Int) = spec_l07Time.l0 k xs (bar : Int) beat (s + bt_at xs i * ln_at xs i) ((i + 1 : Nat) : Int); simp only [spec_l07Time.l0]; rw [if_pos (by omega), if_pos (by omega), if_pos (by omega), rd_bar]; show spec_l07Time.l0 k xs (bar : Int) beat (wrap64 (s + wrap64 (bt_at xs i * ln_at xs i))) (wrap64 ((i : Int) + 1)) = _; rw [w64 (n := bt_at xs i * ln_at xs i) (by omega), w64 (n := s + _) (by omega), w64 (by omega)]
  rfl
 ·show s + bt_at xs i * ln_at xs i = tm xs (i + 1)
  rw [tm_succ, hI]
 ·have h1 := tm_le h bar (by omega)
  show spec_l07Time.l0 (k + 1) xs (bar : Int) beat s (bar : Int) = some (s + beat * ln_at xs bar); simp only [spec_l07Time.l0]; rw [if_neg (by omega), if_pos (by omega), if_pos (by omega), rd_bar]; show some (wrap64 (s + wrap64 (beat * ln_at xs bar))) = _; rw [w64 (n := beat * ln_at xs bar) (by omega), w64 (by omega)]
theorem impl_time {xs : List S104} (h : isScore xs = true) (bar : Nat) (beat : Int) (hb : bar < xs.length ∨ (bar = xs.length ∧ beat = 0)) (h0 : 0 ≤ beat ∧ beat ≤ 16) (k : Nat) (hk : bar < k) : impl_beatTime.f k xs (bar : Int) beat = some (tm xs bar + beat * ln_at xs bar) := by
 have hs := isScore_true h
 have hlen : (xs.take bar).length = bar := by rw [List.length_take]; omega
 unfold impl_beatTime.f
 rw [if_pos (by omega), if_pos (by omega), Int.toNat_natCast]; simp only [Option.bind_some]; rw [hlen]; refine fold_loop (f := fun k i s => impl_beatTime.l0 k xs (bar : Int) beat s (xs.take bar) (bar : Int) (i : Int)) (step := fun j s => s + bt_at xs j * ln_at xs j) (I := fun i s => s = tm xs i) (e := fun s => some (s + beat * ln_at xs bar)) bar (fun k i s hi hI => ?_) (fun i s hi hI => ?_) (fun k s hI => ?_) bar k 0 0 (by omega) (by omega) rfl hk
 ·have h1 := tm_le h i (by omega)
  have h2 := prod_le (hs.2.2 i (by omega)); show impl_beatTime.l0 (k + 1) xs (bar : Int) beat s (xs.take bar) (bar : Int) (i : Int) = impl_beatTime.l0 k xs (bar : Int) beat (s + bt_at xs i * ln_at xs i) (xs.take bar) (bar : Int) ((i + 1 : Nat) : Int); simp only [impl_beatTime.l0]; rw [if_pos (by omega), if_pos (by omega), if_pos (by rw [hlen]; omega), rd_bar, getD_take _ _ _ _ hi]; show impl_beatTime.l0 k xs (bar : Int) beat (wrap64 (s + wrap64 (bt_at xs i * ln_at xs i))) (xs.take bar) (bar : Int) (wrap64 ((i : Int) + 1)) = _; rw [w64 (n := bt_at xs i * ln_at xs i) (by omega), w64 (n := s + _) (by omega), w64 (by omega)]
  rfl
 ·show s + bt_at xs i * ln_at xs i = tm xs (i + 1)
  rw [tm_succ, hI]
 ·have h1 := tm_le h bar (by omega)
  show impl_beatTime.l0 (k + 1) xs (bar : Int) beat s (xs.take bar) (bar : Int) (bar : Int) = some (s + beat * ln_at xs bar); simp only [impl_beatTime.l0]; rw [if_neg (by omega)]
  by_cases hp : beat > 0
  ·have hlt : bar < xs.length := by omega
   have hl := hs.2.2 bar hlt
   have hb2 : 0 ≤ beat * ln_at xs bar ∧ beat * ln_at xs bar ≤ 80000 := by
    have h1 : 0 * ln_at xs bar ≤ beat * ln_at xs bar := Int.mul_le_mul_of_nonneg_right h0.1 (by omega); have h2 : beat * ln_at xs bar ≤ 16 * ln_at xs bar := Int.mul_le_mul_of_nonneg_right h0.2 (by omega)
    omega
   rw [if_pos hp, if_pos (by omega), if_pos (by omega), rd_bar]; show some (wrap64 (s + wrap64 (beat * ln_at xs bar))) = _; rw [w64 (n := beat * ln_at xs bar) (by omega), w64 (by omega)]
  ·have e : beat = 0 := by omega
   rw [if_neg hp, e, Int.zero_mul, Int.add_zero]
theorem index_eq (a n : Int) : impl_isIndex.f a n = some (inB a 0 (wrap64 (n - 1))) := by
 unfold impl_isIndex.f
 simp only [Wi_eq, Option.bind_some]
def hasBeat (xs : List S104) (bar beat : Int) : Bool := inB bar 0 ((xs.length : Int) - 1) && inB beat 0 (bt_at xs bar.toNat - 1)
theorem hasBeat_true {xs : List S104} {bar beat : Int} (h : hasBeat xs bar beat = true) : ∃ b : Nat, bar = b ∧ b < xs.length ∧ 0 ≤ beat ∧ beat ≤ bt_at xs b - 1 := by
 unfold hasBeat at h
 rw [Bool.and_eq_true, inB_true, inB_true] at h; exact ⟨bar.toNat, by omega, by omega, h.2⟩
theorem spec_has {xs : List S104} (h : isScore xs = true) (bar beat : Int) : spec_l07Has.f xs bar beat = some (hasBeat xs bar beat) := by
 have hs := isScore_true h
 unfold spec_l07Has.f hasBeat
 rw [w64 (n := (xs.length : Int) - 1) (by omega), In_eq]; simp only [Option.bind_some]
 cases g : inB bar 0 ((xs.length : Int) - 1) with
 | false => rfl
 | true =>
  rw [inB_true] at g; obtain ⟨b, rfl⟩ : ∃ n : Nat, bar = n := ⟨bar.toNat, by omega⟩; have hb := hs.2.2 b (by omega); rw [if_pos rfl, if_pos (by omega), if_pos (by omega), rd_bar]; show ((spec_l01In.f beat 0 (wrap64 (bt_at xs b - 1))).bind fun t => some t) = _; rw [w64 (by omega), In_eq]; rfl
theorem impl_has {xs : List S104} (h : isScore xs = true) (bar beat : Int) : impl_isBeat.f xs bar beat = some (hasBeat xs bar beat) := by
 have hs := isScore_true h
 unfold impl_isBeat.f hasBeat
 rw [index_eq, w64 (n := (xs.length : Int) - 1) (by omega)]; simp only [Option.bind_some]
 cases g : inB bar 0 ((xs.length : Int) - 1) with
 | false => rfl
 | true =>
  rw [inB_true] at g; obtain ⟨b, rfl⟩ : ∃ n : Nat, bar = n := ⟨bar.toNat, by omega⟩; have hb := hs.2.2 b (by omega); rw [if_pos rfl, if_pos (by omega), if_pos (by omega), rd_bar]; show ((impl_within.f beat 0 (wrap64 (bt_at xs b - 1))).bind fun t => some t) = _; rw [w64 (by omega), Wi_eq]; rfl
def cu_at (C : List S39) (i : Nat) : S39 := C.getD i z39
theorem rd_cue (C : List S39) (i : Nat) : rd_T39 C (i : Int) = cu_at C i := by unfold rd_T39 cu_at; rw [Int.toNat_natCast]
def arOf (B : List S62) (c : S39) : S62 := ar_at B (find B c.f2).toNat
def ftime (A : List S104) (B : List S62) (c : S39) : Int := tm A c.f0.toNat + c.f1 * ln_at A c.f0.toNat - (arOf B c).f3
theorem areArts_true {xs : List S62} (h : areArts xs = true) : xs.length ≤ 12 ∧ ∀ i, i < xs.length → art (ar_at xs i) = true := by
 unfold areArts at h
 rw [Bool.and_eq_true, allF_true, decide_eq_true_iff] at h; refine ⟨by omega, fun i hi => ?_⟩; have := h.1 i (by omega) (by omega)
 unfold artAt at this
 rw [Bool.and_eq_true] at this; exact this.1
theorem art_true {a : S62} (h : art a = true) : (0 ≤ a.f1 ∧ a.f1 ≤ 3) ∧ (20 ≤ a.f2 ∧ a.f2 ≤ 300) ∧ (0 ≤ a.f3 ∧ a.f3 ≤ 10000) ∧ (0 ≤ a.f4 ∧ a.f4 ≤ a.f3) ∧ (1 ≤ a.f5 ∧ a.f5 ≤ 50) ∧ (0 ≤ a.f6 ∧ a.f6 ≤ 10000) ∧ (1 ≤ a.f7 ∧ a.f7 ≤ 100000) ∧ 0 ≤ a.f8 ∧ a.f8 ≤ 3 := by
 unfold art at h
 simp only [Bool.and_eq_true, inB_true] at h; exact h.2
theorem arOf_ok {B : List S62} (hB : areArts B = true) {c : S39} (hc : 0 ≤ find B c.f2) : art (arOf B c) = true ∧ find B c.f2 < (B.length : Int) := by
 rcases find_range B c.f2 with h | h
 ·omega
 ·exact ⟨(areArts_true hB).2 _ (by omega), h.2⟩
theorem time_range {A : List S104} (hA : isScore A = true) {b : Nat} (hb : b < A.length) {e : Int} (he : 0 ≤ e ∧ e ≤ bt_at A b - 1) : 0 ≤ tm A b + e * ln_at A b ∧ tm A b + e * ln_at A b ≤ 2000000 := by
 have hs := isScore_true hA; have hl := hs.2.2 b hb; have ht := tm_le hA b (by omega); have h1 : 0 ≤ e * ln_at A b := Int.mul_nonneg he.1 (by omega); have h2 : e * ln_at A b ≤ 16 * ln_at A b := Int.mul_le_mul_of_nonneg_right (by omega) (by omega)
 omega
theorem ftime_range {A : List S104} (hA : isScore A = true) {B : List S62} (hB : areArts B = true) {c : S39} (hc : 0 ≤ find B c.f2) (hb : hasBeat A c.f0 c.f1 = true) : -10000 ≤ ftime A B c ∧ ftime A B c ≤ 2000000 := by
 obtain ⟨b, e, h1, h2, h3⟩ := hasBeat_true hb; have ha := art_true (arOf_ok hB hc).1; have := time_range hA h1 ⟨h2, h3⟩
 unfold ftime
 rw [e, Int.toNat_natCast]
 omega
theorem spec_ftime {A : List S104} (hA : isScore A = true) {B : List S62} (hB : areArts B = true) (C : List S39) {c : S39} (hc : 0 ≤ find B c.f2) (hb : hasBeat A c.f0 c.f1 = true) (k : Nat) (hk : 100 ≤ k) : spec_l08Time.f k A B C c.f0 c.f1 c.f2 c.f3 = some (ftime A B c) := by
 obtain ⟨b, e, h1, h2, h3⟩ := hasBeat_true hb; have hs := isScore_true hA; have hl := hs.2.2 b h1; have hf := arOf_ok hB hc; have hr := time_range hA h1 ⟨h2, h3⟩; have ha := art_true hf.1; have hB12 := (areArts_true hB).1
 have ft : ftime A B c = tm A b + c.f1 * ln_at A b - (arOf B c).f3 := by unfold ftime; rw [e, Int.toNat_natCast]
 unfold spec_l08Time.f
 rw [e, spec_time hA b h1 c.f1 (by omega) k (by omega)]; simp only [Option.bind_some]; rw [spec_find B (by omega) c.f2 k (by omega)]; simp only [Option.bind_some]; rw [if_pos hc, if_pos hf.2, ft]
 have er : rd_T62 B (find B c.f2) = arOf B c := by
  have := rd_art B (find B c.f2).toNat; rw [show ((find B c.f2).toNat : Int) = find B c.f2 by omega] at this; exact this
 rw [er, w64 (by omega)]
theorem impl_ftime {A : List S104} (hA : isScore A = true) {B : List S62} (hB : areArts B = true) (C : List S39) (c : S39) (k : Nat) (hk : 100 ≤ k) : impl_firedAt.f k A B C c.f0 c.f1 c.f2 c.f3 = some (if 0 ≤ find B c.f2 ∧ hasBeat A c.f0 c.f1 = true then mx (-1) (ftime A B c) else -1) := by
 have hs := isScore_true hA; have hB12 := (areArts_true hB).1
 unfold impl_firedAt.f
 rw [impl_find B (by omega) c.f2 k (by omega)]; simp only [Option.bind_some]
 by_cases hc : 0 ≤ find B c.f2
 ·rw [if_neg (by omega), impl_has hA]
  simp only [Option.bind_some]
  by_cases hb : hasBeat A c.f0 c.f1 = true
  ·obtain ⟨b, e, h1, h2, h3⟩ := hasBeat_true hb
   have hl := hs.2.2 b h1; have hf := arOf_ok hB hc; have hr := time_range hA h1 ⟨h2, h3⟩; have ha := art_true hf.1
   have ft : ftime A B c = tm A b + c.f1 * ln_at A b - (arOf B c).f3 := by unfold ftime; rw [e, Int.toNat_natCast]
   have er : rd_T62 B (find B c.f2) = arOf B c := by
    have := rd_art B (find B c.f2).toNat; rw [show ((find B c.f2).toNat : Int) = find B c.f2 by omega] at this; exact this
   rw [if_pos hb, if_pos (show 0 ≤ find B c.f2 ∧ hasBeat A c.f0 c.f1 = true from ⟨hc, hb⟩), e, impl_time hA b c.f1 (.inl h1) (by omega) k (by omega)]; simp only [Option.bind_some]; rw [if_pos hc, if_pos hf.2, er, ft, w64 (by omega)]
  ·rw [if_neg hb, if_neg (show ¬ (0 ≤ find B c.f2 ∧ hasBeat A c.f0 c.f1 = true) from fun x => hb x.2)]
 ·rw [if_pos (by omega), if_neg (show ¬ (0 ≤ find B c.f2 ∧ hasBeat A c.f0 c.f1 = true) from fun x => hc x.1)]
def cueOk (A : List S104) (B : List S62) (c : S39) : Bool := hasBeat A c.f0 c.f1 && (decide (0 ≤ find B c.f2) && (inB c.f3 0 11 && decide (0 ≤ ftime A B c)))
def isShow (A : List S104) (B : List S62) (C : List S39) : Bool := isScore A && (areArts B && (decide ((C.length : Int) ≤ 20) && allF (fun i => cueOk A B (cu_at C i)) 0 C.length))
theorem cueOk_true {A : List S104} {B : List S62} {c : S39} (h : cueOk A B c = true) : hasBeat A c.f0 c.f1 = true ∧ 0 ≤ find B c.f2 ∧ (0 ≤ c.f3 ∧ c.f3 ≤ 11) ∧ 0 ≤ ftime A B c := by
 unfold cueOk at h
 simpa only [Bool.and_eq_true, inB_true, decide_eq_true_iff] using h
theorem isShow_true {A : List S104} {B : List S62} {C : List S39} (h : isShow A B C = true) : isScore A = true ∧ areArts B = true ∧ C.length ≤ 20 ∧ ∀ i, i < C.length → cueOk A B (cu_at C i) = true := by
 unfold isShow at h
 rw [Bool.and_eq_true, Bool.and_eq_true, Bool.and_eq_true, allF_true, decide_eq_true_iff] at h; exact ⟨h.1, h.2.1, by omega, fun i hi => h.2.2.2 i (by omega) (by omega)⟩
theorem spec_show (n : Nat) (A : List S104) (B : List S62) (C : List S39) (hA : A.length ≤ 9223372036854775807) (hB : B.length ≤ 9223372036854775807) (hC : C.length ≤ 9223372036854775807) (hS : Small n B) (k : Nat) (hk : A.length + B.length + C.length + n + 200 ≤ k) : spec_IsShow.f k A B C = some (isShow A B C) := by
 obtain ⟨k, rfl⟩ : ∃ m, k = m + 1 := ⟨k - 1, by omega⟩
 unfold spec_IsShow.f isShow
 rw [spec_score A (by omega) (k + 1) (by omega)]; simp only [Option.bind_some]
 cases a : isScore A with
 | false => rfl
 | true =>
  rw [if_pos rfl, spec_arts n B (by omega) hS (k + 1) (by omega)]; simp only [Option.bind_some]
  cases b : areArts B with
  | false => rfl
  | true =>
   rw [if_pos rfl]
   by_cases c : (C.length : Int) > 20
   ·rw [decide_eq_true c, decide_eq_false (by omega)]; rfl
   ·rw [decide_eq_false c, decide_eq_true (by omega)]
    simp only [spec_IsShow.j0, Bool.false_eq_true, if_false, Bool.true_and]; have hB12 := (areArts_true b).1
    have loop : ∀ d k i, C.length - i = d → i ≤ C.length → d + 110 ≤ k → spec_IsShow.l0 k (i : Int) A B C = some (allF (fun i => cueOk A B (cu_at C i)) i d) := by
     intro d
     induction d with
     | zero =>
      intro k i hd hi hk; obtain ⟨k, rfl⟩ : ∃ m, k = m + 1 := ⟨k - 1, by omega⟩; simp only [spec_IsShow.l0]; rw [if_neg (by omega)]
      rfl
     | succ d ih =>
      intro k i hd hi hk; obtain ⟨k, rfl⟩ : ∃ m, k = m + 1 := ⟨k - 1, by omega⟩; have nx := ih k (i + 1) (by omega) (by omega) (by omega); simp only [spec_IsShow.l0]; rw [if_pos (by omega), if_pos (by omega), rd_cue, spec_has a, spec_find B (by omega) _ k (by omega), In_eq, w64 (n := (i : Int) + 1) (by omega)]; simp only [Option.bind_some]
      unfold allF cueOk
      cases hb : hasBeat A (cu_at C i).f0 (cu_at C i).f1 with
      | false => rfl
      | true =>
       rw [if_pos rfl, Bool.true_and]
       by_cases hf : 0 ≤ find B (cu_at C i).f2
       ·rw [if_neg (by omega), decide_eq_true hf, Bool.true_and]
        cases hr : inB (cu_at C i).f3 0 11 with
        | false => rfl
        | true =>
         rw [if_pos rfl, Bool.true_and, spec_ftime a b C hf hb k (by omega)]; simp only [Option.bind_some]
         by_cases ht : ftime A B (cu_at C i) < 0
         ·rw [if_pos ht, decide_eq_false (by omega)]; rfl
         ·rw [if_neg ht, decide_eq_true (by omega), Bool.true_and]
          exact nx
       ·rw [if_pos (by omega), decide_eq_false hf]; rfl
    exact loop C.length k 0 (by omega) (by omega) (by omega)
theorem impl_show (n : Nat) (A : List S104) (B : List S62) (C : List S39) (hA : A.length ≤ 9223372036854775807) (hB : B.length ≤ 9223372036854775807) (hC : C.length ≤ 9223372036854775807) (hS : Small n B) (k : Nat) (hk : A.length + B.length + C.length + n + 200 ≤ k) : impl_IsShow.f k A B C = some (isShow A B C) := by
 obtain ⟨k, rfl⟩ : ∃ m, k = m + 1 := ⟨k - 1, by omega⟩
 unfold impl_IsShow.f isShow
 rw [impl_score A (by omega) (k + 1) (by omega)]; simp only [Option.bind_some]
 cases a : isScore A with
 | false => rfl
 | true =>
  rw [if_pos rfl, impl_arts n B (by omega) hS (k + 1) (by omega)]; simp only [Option.bind_some]
  cases b : areArts B with
  | false => rfl
  | true =>
   rw [if_pos rfl]
   by_cases c : (C.length : Int) > 20
   ·rw [decide_eq_true c, decide_eq_false (by omega)]; rfl
   ·rw [decide_eq_false c, decide_eq_true (by omega)]
    simp only [impl_IsShow.j0, Bool.false_eq_true, if_false, Bool.true_and]; have hB12 := (areArts_true b).1
    have loop : ∀ d k i, C.length - i = d → i ≤ C.length → d + 110 ≤ k → impl_IsShow.l0 k C (C.length : Int) (i : Int) A B C = some (allF (fun i => cueOk A B (cu_at C i)) i d) := by
     intro d
     induction d with
     | zero =>
      intro k i hd hi hk; obtain ⟨k, rfl⟩ : ∃ m, k = m + 1 := ⟨k - 1, by omega⟩; simp only [impl_IsShow.l0]; rw [if_neg (by omega)]
      rfl
     | succ d ih =>
      intro k i hd hi hk; obtain ⟨k, rfl⟩ : ∃ m, k = m + 1 := ⟨k - 1, by omega⟩; have nx := ih k (i + 1) (by omega) (by omega) (by omega); simp only [impl_IsShow.l0]; rw [if_pos (by omega), if_pos (by omega), if_pos (by omega), rd_cue, Wi_eq, impl_ftime a b C _ k (by omega), w64 (n := (i : Int) + 1) (by omega)]; simp only [Option.bind_some]
      unfold allF cueOk
      cases hr : inB (cu_at C i).f3 0 11 with
      | false =>
       rw [if_neg (by decide)]
       simp
      | true =>
       rw [if_pos rfl]
       cases hb : hasBeat A (cu_at C i).f0 (cu_at C i).f1 with
       | false =>
        rw [if_neg (show ¬ (0 ≤ find B (cu_at C i).f2 ∧ false = true) from fun x => absurd x.2 (by decide)), if_pos (by omega)]; rfl
       | true =>
        by_cases hf : 0 ≤ find B (cu_at C i).f2
        ·rw [if_pos (show 0 ≤ find B (cu_at C i).f2 ∧ true = true from ⟨hf, rfl⟩), decide_eq_true hf]
         by_cases ht : ftime A B (cu_at C i) < 0
         ·rw [if_pos (by unfold mx; split <;> omega), decide_eq_false (by omega)]; rfl
         ·rw [if_neg (by unfold mx; split <;> omega), decide_eq_true (by omega)]
          exact nx
        ·rw [if_neg (show ¬ (0 ≤ find B (cu_at C i).f2 ∧ true = true) from fun x => hf x.1), if_pos (by omega), decide_eq_false hf]; rfl
    exact loop C.length k 0 (by omega) (by omega) (by omega)
end Go.Proofs.Ythhijbdekboahaa.F
namespace Go.Proofs.Ythhijbdekboahaa.F
open Go.RowKit Go.Proofs.YthhijbdekboahaaW.PrintWords Go.Proofs.YthhijbdekboahaaW.PrintLast Go.Proofs.YthhijbdekboahaaW.PrintMore
attribute [local go_sem] max2_int min2_int max_two min_two max_three min_three max_four min_four
set_option linter.unusedVariables false
set_option linter.unusedSimpArgs false
end Go.Proofs.Ythhijbdekboahaa.F
namespace Go.Proofs.Ythhijbdekboahaa.F
open Go.RowKit Go.Proofs.YthhijbdekboahaaW.PrintWords Go.Proofs.YthhijbdekboahaaW.PrintLast Go.Proofs.YthhijbdekboahaaW.PrintMore
set_option linter.unusedVariables false
set_option linter.unusedSimpArgs false
def Frame (n0 : Nat) (A : List S104) (B : List S62) (C : List S39) : Prop := A.length ≤ 9223372036854775807 ∧ B.length ≤ 9223372036854775807 ∧ C.length ≤ 9223372036854775807 ∧ Small n0 B
theorem ss_ok {n0 : Nat} {A : List S104} {B : List S62} {C : List S39} (h : Frame n0 A B C) (k : Nat) (hk : 36893488147419103428 ≤ k) : spec_IsShow.f k A B C = some (isShow A B C) := spec_show n0 A B C h.1 h.2.1 h.2.2.1 h.2.2.2 k (by have := h.1; have := h.2.1; have := h.2.2.1; have := h.2.2.2.1; omega)
theorem si_ok {n0 : Nat} {A : List S104} {B : List S62} {C : List S39} (h : Frame n0 A B C) (k : Nat) (hk : 36893488147419103428 ≤ k) : impl_IsShow.f k A B C = some (isShow A B C) := impl_show n0 A B C h.1 h.2.1 h.2.2.1 h.2.2.2 k (by have := h.1; have := h.2.1; have := h.2.2.1; have := h.2.2.2.1; omega)
theorem cu_ok {A : List S104} {B : List S62} {C : List S39} (h : isShow A B C = true) {i : Nat} (hi : i < C.length) : hasBeat A (cu_at C i).f0 (cu_at C i).f1 = true ∧ 0 ≤ find B (cu_at C i).f2 ∧ find B (cu_at C i).f2 < (B.length : Int) ∧ 0 ≤ ftime A B (cu_at C i) ∧ ftime A B (cu_at C i) ≤ 2000000 ∧ art (arOf B (cu_at C i)) = true := by
 obtain ⟨hA, hB, hC, hc⟩ := isShow_true h; obtain ⟨h1, h2, h3, h4⟩ := cueOk_true (hc i hi); have := ftime_range hA hB h2 h1; have := arOf_ok hB h2; exact ⟨h1, h2, this.2, h4, by omega, this.1⟩
theorem rd_arOf (B : List S62) (c : S39) (h : 0 ≤ find B c.f2) : rd_T62 B (find B c.f2) = arOf B c := by
 have := rd_art B (find B c.f2).toNat; rw [show ((find B c.f2).toNat : Int) = find B c.f2 by omega] at this; exact this
theorem cue_time {A : List S104} {B : List S62} {C : List S39} (h : isShow A B C = true) {i : Nat} (hi : i < C.length) (k : Nat) (hk : 100 ≤ k) : spec_l08Time.f k A B C (cu_at C i).f0 (cu_at C i).f1 (cu_at C i).f2 (cu_at C i).f3 = some (ftime A B (cu_at C i)) ∧ impl_firedAt.f k A B C (cu_at C i).f0 (cu_at C i).f1 (cu_at C i).f2 (cu_at C i).f3 = some (ftime A B (cu_at C i)) := by
 obtain ⟨hA, hB, hC, hc⟩ := isShow_true h; obtain ⟨h1, h2, h3, h4⟩ := cueOk_true (hc i hi); refine ⟨spec_ftime hA hB C h2 h1 k hk, ?_⟩; rw [impl_ftime hA hB C _ k hk, if_pos (show 0 ≤ find B (cu_at C i).f2 ∧ hasBeat A (cu_at C i).f0 (cu_at C i).f1 = true from ⟨h2, h1⟩)]
 unfold mx
 rw [if_pos (by omega)]
end Go.Proofs.Ythhijbdekboahaa.F
namespace Go.Proofs.Ythhijbdekboahaa.F
open Go.RowKit Go.Proofs.YthhijbdekboahaaW.PrintWords Go.Proofs.YthhijbdekboahaaW.PrintLast Go.Proofs.YthhijbdekboahaaW.PrintMore
attribute [local go_sem] max2_int min2_int max_two min_two max_three min_three max_four min_four
set_option linter.unusedVariables false
set_option linter.unusedSimpArgs false
end Go.Proofs.Ythhijbdekboahaa.F
namespace Go.Proofs.Ythhijbdekboahaa.F
open Go.RowKit Go.Proofs.YthhijbdekboahaaW.PrintWords Go.Proofs.YthhijbdekboahaaW.PrintLast Go.Proofs.YthhijbdekboahaaW.PrintMore
set_option linter.unusedVariables false
set_option linter.unusedSimpArgs false
theorem artFor_ok {A : List S104} {B : List S62} {C : List S39} (h : isShow A B C = true) {i : Nat} (hi : i < C.length) (k : Nat) (hk : 100 ≤ k) : impl_articleFor.f k A B C (cu_at C i).f0 (cu_at C i).f1 (cu_at C i).f2 (cu_at C i).f3 = some ((arOf B (cu_at C i)).f0, (arOf B (cu_at C i)).f1, (arOf B (cu_at C i)).f2, (arOf B (cu_at C i)).f3, (arOf B (cu_at C i)).f4, (arOf B (cu_at C i)).f5, (arOf B (cu_at C i)).f6, (arOf B (cu_at C i)).f7, (arOf B (cu_at C i)).f8) := by
 obtain ⟨h1, h2, h3, _⟩ := cu_ok h hi; have hB := (areArts_true (isShow_true h).2.1).1
 unfold impl_articleFor.f
 rw [impl_find B (by omega) _ k (by omega)]; simp only [Option.bind_some]; rw [if_pos h2, if_pos h3, rd_arOf B _ h2]
theorem shot_range {a : S62} (h : art a = true) {j : Int} (h0 : 0 ≤ j) (h1 : j < a.f5) : 0 ≤ j * a.f6 ∧ j * a.f6 ≤ 490000 := by
 have ha := art_true h; have h2 : 0 ≤ j * a.f6 := Int.mul_nonneg h0 (by omega); have h3 : j * a.f6 ≤ 49 * a.f6 := Int.mul_le_mul_of_nonneg_right (by omega) (by omega)
 omega
def wlo (A : List S104) (B : List S62) (c : S39) (j : Nat) : Int := ftime A B c + (arOf B c).f3 + (j : Int) * (arOf B c).f6 - (arOf B c).f4
def whi (A : List S104) (B : List S62) (c : S39) (j : Nat) : Int := ftime A B c + (arOf B c).f3 + (j : Int) * (arOf B c).f6 + (arOf B c).f4
def wn (B : List S62) (c : S39) : Nat := (arOf B c).f5.toNat
def cueW2 (A : List S104) (B : List S62) (c : S39) : List (List Int) := (List.range (wn B c)).map (fun j => [wlo A B c j, whi A B c j])
def cueW3 (A : List S104) (B : List S62) (c : S39) (x : Int) : List (List Int) := (List.range (wn B c)).map (fun j => [wlo A B c j, whi A B c j, x])
theorem cueW2_len (A : List S104) (B : List S62) (c : S39) : (cueW2 A B c).length = wn B c := by unfold cueW2; rw [List.length_map, List.length_range]
theorem cueW3_len (A : List S104) (B : List S62) (c : S39) (x : Int) : (cueW3 A B c x).length = wn B c := by unfold cueW3; rw [List.length_map, List.length_range]
theorem rdL_map (f : Nat → List Int) (n j : Nat) (h : j < n) : rd_L6 ((List.range n).map f) (j : Int) = f j := by
 unfold rd_L6
 rw [Int.toNat_natCast, List.getD_eq_getElem?_getD, List.getElem?_map, List.getElem?_range h]; rfl
theorem rdL_cue2 (A : List S104) (B : List S62) (c : S39) {j : Nat} (h : j < wn B c) : rd_L6 (cueW2 A B c) (j : Int) = [wlo A B c j, whi A B c j] := rdL_map _ _ _ h
theorem rdL_cue3 (A : List S104) (B : List S62) (c : S39) (x : Int) {j : Nat} (h : j < wn B c) : rd_L6 (cueW3 A B c x) (j : Int) = [wlo A B c j, whi A B c j, x] := rdL_map _ _ _ h
theorem rd_0 (a : Int) (l : List Int) : rd (a :: l) 0 = a := rfl
theorem rd_1 (a b : Int) (l : List Int) : rd (a :: b :: l) 1 = b := rfl
theorem rd_2 (a b c : Int) (l : List Int) : rd (a :: b :: c :: l) 2 = c := rfl
theorem wn_range {A : List S104} {B : List S62} {C : List S39} (h : isShow A B C = true) {i : Nat} (hi : i < C.length) : 1 ≤ wn B (cu_at C i) ∧ wn B (cu_at C i) ≤ 50 ∧ ((wn B (cu_at C i) : Nat) : Int) = (arOf B (cu_at C i)).f5 := by
 obtain ⟨h1, h2, h3, h4, h5, h6⟩ := cu_ok h hi; have ha := art_true h6
 unfold wn
 omega
theorem w_range {A : List S104} {B : List S62} {C : List S39} (h : isShow A B C = true) {i : Nat} (hi : i < C.length) {j : Nat} (hj : j < wn B (cu_at C i)) : 0 ≤ wlo A B (cu_at C i) j ∧ wlo A B (cu_at C i) j ≤ whi A B (cu_at C i) j ∧ whi A B (cu_at C i) j ≤ 3000000 ∧ 0 ≤ (j : Int) * (arOf B (cu_at C i)).f6 ∧ (j : Int) * (arOf B (cu_at C i)).f6 ≤ 490000 := by
 obtain ⟨h1, h2, h3, h4, h5, h6⟩ := cu_ok h hi; have ha := art_true h6; have hn := wn_range h hi; have hs := shot_range h6 (j := (j : Int)) (by omega) (by omega)
 unfold wlo whi
 omega
theorem spec_cue {A : List S104} {B : List S62} {C : List S39} (h : isShow A B C = true) {i : Nat} (hi : i < C.length) (k : Nat) (hk : 300 ≤ k) : spec_l09Cue.f k A B C (i : Int) = some (cueW3 A B (cu_at C i) (i : Int)) := by
 obtain ⟨h1, h2, h3, h4, h5, h6⟩ := cu_ok h hi; have hn := wn_range h hi; have ha := art_true h6; have hB := (areArts_true (isShow_true h).2.1).1; have hC := (isShow_true h).2.2.1
 unfold spec_l09Cue.f
 rw [if_pos (by omega), if_pos (by omega), rd_cue, spec_find B (by omega) _ k (by omega)]; simp only [Option.bind_some]; rw [if_pos h2, if_pos h3, rd_arOf B _ h2]
 have st : ∀ d k j, wn B (cu_at C i) - j = d → j ≤ wn B (cu_at C i) → d + 110 ≤ k → spec_l09Cue.l0 k (i : Int) ((List.range j).map (fun j => [wlo A B (cu_at C i) j, whi A B (cu_at C i) j, (i : Int)])) (j : Int) A B C (cu_at C i).f0 (cu_at C i).f1 (cu_at C i).f2 (cu_at C i).f3 (arOf B (cu_at C i)).f0 (arOf B (cu_at C i)).f1 (arOf B (cu_at C i)).f2 (arOf B (cu_at C i)).f3 (arOf B (cu_at C i)).f4 (arOf B (cu_at C i)).f5 (arOf B (cu_at C i)).f6 (arOf B (cu_at C i)).f7 (arOf B (cu_at C i)).f8 = some (cueW3 A B (cu_at C i) (i : Int)) := by
  intro d
  induction d with
  | zero =>
   intro k j hd hj hk; obtain ⟨k, rfl⟩ : ∃ m, k = m + 1 := ⟨k - 1, by omega⟩; simp only [spec_l09Cue.l0]; rw [if_neg (by omega)]
   have e : j = wn B (cu_at C i) := by omega
   subst e
   rfl
  | succ d ih =>
   intro k j hd hj hk; obtain ⟨k, rfl⟩ : ∃ m, k = m + 1 := ⟨k - 1, by omega⟩; have r := w_range h hi (show j < wn B (cu_at C i) by omega); have nx := ih k (j + 1) (by omega) (by omega) (by omega); rw [List.range_succ, List.map_append, List.map_singleton] at nx; simp only [spec_l09Cue.l0]; rw [if_pos (by omega), (cue_time h hi k (by omega)).1, w64 (n := (j : Int) + 1) (by omega)]; simp only [Option.bind_some, spec_l03Window.f]; have el : wlo A B (cu_at C i) j = ftime A B (cu_at C i) + (arOf B (cu_at C i)).f3 + (j : Int) * (arOf B (cu_at C i)).f6 - (arOf B (cu_at C i)).f4 := rfl; have eh : whi A B (cu_at C i) j = ftime A B (cu_at C i) + (arOf B (cu_at C i)).f3 + (j : Int) * (arOf B (cu_at C i)).f6 + (arOf B (cu_at C i)).f4 := rfl; rw [w64 (n := ftime A B (cu_at C i) + (arOf B (cu_at C i)).f3) (by omega), w64 (n := (j : Int) * (arOf B (cu_at C i)).f6) (by omega), w64 (n := ftime A B (cu_at C i) + (arOf B (cu_at C i)).f3 + (j : Int) * (arOf B (cu_at C i)).f6) (by omega), ← el, ← eh, w64 (n := wlo A B (cu_at C i) j) (by omega), w64 (n := whi A B (cu_at C i) j) (by omega), rd_0, rd_1]; rw [if_pos (by show (0 : Int) < ((2 : Nat) : Int); decide), if_pos (by show (1 : Int) < ((2 : Nat) : Int); decide), if_pos (by rw [List.length_map, List.length_range]; omega)]; exact nx
 exact st (wn B (cu_at C i)) k 0 (by omega) (by omega) (by omega)
theorem impl_cue {A : List S104} {B : List S62} {C : List S39} (h : isShow A B C = true) {i : Nat} (hi : i < C.length) (k : Nat) (hk : 300 ≤ k) : impl_windowsOfCue.f k A B C (cu_at C i).f0 (cu_at C i).f1 (cu_at C i).f2 (cu_at C i).f3 = some (cueW2 A B (cu_at C i)) := by
 obtain ⟨h1, h2, h3, h4, h5, h6⟩ := cu_ok h hi; have hn := wn_range h hi; have ha := art_true h6
 unfold impl_windowsOfCue.f impl_shotWindows.f
 rw [artFor_ok h hi k (by omega)]; simp only [Option.bind_some]; rw [(cue_time h hi k (by omega)).2]; simp only [Option.bind_some]
 have st : ∀ d k j, wn B (cu_at C i) - j = d → j ≤ wn B (cu_at C i) → d + 110 ≤ k → impl_shotWindows.l0 k (ftime A B (cu_at C i)) ((List.range j).map (fun j => [wlo A B (cu_at C i) j, whi A B (cu_at C i) j])) (j : Int) (arOf B (cu_at C i)).f0 (arOf B (cu_at C i)).f1 (arOf B (cu_at C i)).f2 (arOf B (cu_at C i)).f3 (arOf B (cu_at C i)).f4 (arOf B (cu_at C i)).f5 (arOf B (cu_at C i)).f6 (arOf B (cu_at C i)).f7 (arOf B (cu_at C i)).f8 = some (cueW2 A B (cu_at C i)) := by
  intro d
  induction d with
  | zero =>
   intro k j hd hj hk; obtain ⟨k, rfl⟩ : ∃ m, k = m + 1 := ⟨k - 1, by omega⟩; simp only [impl_shotWindows.l0]; rw [if_neg (by omega)]
   have e : j = wn B (cu_at C i) := by omega
   subst e
   rfl
  | succ d ih =>
   intro k j hd hj hk; obtain ⟨k, rfl⟩ : ∃ m, k = m + 1 := ⟨k - 1, by omega⟩; have r := w_range h hi (show j < wn B (cu_at C i) by omega); have nx := ih k (j + 1) (by omega) (by omega) (by omega); rw [List.range_succ, List.map_append, List.map_singleton] at nx; simp only [impl_shotWindows.l0]; have el : wlo A B (cu_at C i) j = ftime A B (cu_at C i) + (arOf B (cu_at C i)).f3 + (j : Int) * (arOf B (cu_at C i)).f6 - (arOf B (cu_at C i)).f4 := rfl; have eh : whi A B (cu_at C i) j = ftime A B (cu_at C i) + (arOf B (cu_at C i)).f3 + (j : Int) * (arOf B (cu_at C i)).f6 + (arOf B (cu_at C i)).f4 := rfl; rw [if_pos (by omega), if_pos (by rw [List.length_map, List.length_range]; omega), w64 (n := (j : Int) + 1) (by omega), w64 (n := ftime A B (cu_at C i) + (arOf B (cu_at C i)).f3) (by omega), w64 (n := (j : Int) * (arOf B (cu_at C i)).f6) (by omega), w64 (n := ftime A B (cu_at C i) + (arOf B (cu_at C i)).f3 + (j : Int) * (arOf B (cu_at C i)).f6) (by omega), ← el, ← eh, w64 (n := wlo A B (cu_at C i) j) (by omega), w64 (n := whi A B (cu_at C i) j) (by omega)]; exact nx
 rw [show impl_shotWindows.l0 k (ftime A B (cu_at C i)) ([] : List (List Int)) 0 (arOf B (cu_at C i)).f0 (arOf B (cu_at C i)).f1 (arOf B (cu_at C i)).f2 (arOf B (cu_at C i)).f3 (arOf B (cu_at C i)).f4 (arOf B (cu_at C i)).f5 (arOf B (cu_at C i)).f6 (arOf B (cu_at C i)).f7 (arOf B (cu_at C i)).f8 = some (cueW2 A B (cu_at C i)) from st (wn B (cu_at C i)) k 0 (by omega) (by omega) (by omega)]
 rfl
def allW (A : List S104) (B : List S62) (C : List S39) : Nat → List (List Int)
 | 0 => []
 | i + 1 => allW A B C i ++ cueW3 A B (cu_at C i) (i : Int)
theorem allW_len {A : List S104} {B : List S62} {C : List S39} (h : isShow A B C = true) : ∀ i, i ≤ C.length → (allW A B C i).length ≤ 50 * i
 | 0, _ => Nat.le_refl _
 | i + 1, hi => by
  have := allW_len h i (by omega); have := (wn_range h (show i < C.length by omega)).2.1
  unfold allW
  rw [List.length_append, cueW3_len]; omega
theorem allW_mem {A : List S104} {B : List S62} {C : List S39} : ∀ i w, w ∈ allW A B C i ↔ ∃ a j, a < i ∧ j < wn B (cu_at C a) ∧ w = [wlo A B (cu_at C a) j, whi A B (cu_at C a) j, (a : Int)]
 | 0, w => by
  unfold allW
  exact ⟨fun h => absurd h List.not_mem_nil, fun ⟨a, _, h, _⟩ => absurd h (by omega)⟩
 | i + 1, w => by
  unfold allW
  rw [List.mem_append, allW_mem i w]
  unfold cueW3
  rw [List.mem_map]; constructor
  ·rintro (⟨a, j, h1, h2⟩ | ⟨j, h1, h2⟩)
   ·exact ⟨a, j, by omega, h2⟩
   ·exact ⟨i, j, by omega, List.mem_range.1 h1, h2.symm⟩
  ·rintro ⟨a, j, h1, h2, h3⟩
   by_cases c : a = i
   ·subst c
    exact .inr ⟨j, List.mem_range.2 h2, h3.symm⟩
   ·exact .inl ⟨a, j, by omega, h2, h3⟩
theorem spec_all {A : List S104} {B : List S62} {C : List S39} (h : isShow A B C = true) (k : Nat) (hk : 500 ≤ k) : spec_l09All.f k A B C = some (allW A B C C.length) := by
 have hC := (isShow_true h).2.2.1
 have st : ∀ d k i, C.length - i = d → i ≤ C.length → d + 310 ≤ k → spec_l09All.l0 k (allW A B C i) (i : Int) A B C = some (allW A B C C.length) := by
  intro d
  induction d with
  | zero =>
   intro k i hd hi hk; obtain ⟨k, rfl⟩ : ∃ m, k = m + 1 := ⟨k - 1, by omega⟩; simp only [spec_l09All.l0]; rw [if_neg (by omega), show i = C.length by omega]
  | succ d ih =>
   intro k i hd hi hk; obtain ⟨k, rfl⟩ : ∃ m, k = m + 1 := ⟨k - 1, by omega⟩; have hl := allW_len h i hi; have hw := (wn_range h (show i < C.length by omega)).2.1; have nx := ih k (i + 1) (by omega) (by omega) (by omega); simp only [spec_l09All.l0]; rw [if_pos (by omega), spec_cue h (show i < C.length by omega) k (by omega), w64 (n := (i : Int) + 1) (by omega)]; simp only [Option.bind_some]; rw [if_pos (by rw [cueW3_len]; omega)]; exact nx
 exact st C.length k 0 (by omega) (by omega) (by omega)
theorem impl_all {A : List S104} {B : List S62} {C : List S39} (h : isShow A B C = true) : Evt (fun k => impl_windowsOf.f k A B C = some (allW A B C C.length)) := by
 have hC := (isShow_true h).2.2.1
 have inner : ∀ i, i < C.length → ∀ d j, wn B (cu_at C i) - j = d → j ≤ wn B (cu_at C i) → ∀ k, impl_windowsOf.l1 (k + (d + 1)) (allW A B C i ++ ((List.range j).map (fun j => [wlo A B (cu_at C i) j, whi A B (cu_at C i) j, (i : Int)]))) (i : Int) C (C.length : Int) (i : Int) (cueW2 A B (cu_at C i)) ((wn B (cu_at C i) : Nat) : Int) (j : Int) A B C = impl_windowsOf.l0 k (allW A B C (i + 1)) C (C.length : Int) ((i + 1 : Nat) : Int) A B C := by
  intro i hi d; have hl := allW_len h i (by omega); have hw := (wn_range h hi).2.1
  induction d with
  | zero =>
   intro j hd hj k; simp only [impl_windowsOf.l1]; rw [if_neg (by omega), w64 (n := (i : Int) + 1) (by omega), show j = wn B (cu_at C i) by omega]
   rfl
  | succ d ih =>
   intro j hd hj k; have nx := ih (j + 1) (by omega) (by omega) k; rw [List.range_succ, List.map_append, List.map_singleton, ← List.append_assoc] at nx; rw [← nx, show k + (d + 1 + 1) = (k + (d + 1)) + 1 by omega]; simp only [impl_windowsOf.l1]; rw [if_pos (by omega), if_pos (by omega), cueW2_len, if_pos (by omega), rdL_cue2 _ _ _ (show j < wn B (cu_at C i) by omega), w64 (n := (j : Int) + 1) (by omega), rd_0, rd_1, if_pos (by show (0 : Int) < ((2 : Nat) : Int); decide), if_pos (by show (1 : Int) < ((2 : Nat) : Int); decide), if_pos (by rw [List.length_append, List.length_map, List.length_range]; omega)]
   rfl
 have st : ∀ d i, C.length - i = d → i ≤ C.length → Evt (fun k => impl_windowsOf.l0 k (allW A B C i) C (C.length : Int) (i : Int) A B C = some (allW A B C C.length)) := by
  intro d
  induction d with
  | zero =>
   intro i hd hi; refine Evt.succ (Evt.of fun k => ?_); show impl_windowsOf.l0 (k + 1) _ _ _ (i : Int) _ _ _ = _; simp only [impl_windowsOf.l0]; rw [if_neg (by omega), show i = C.length by omega]
  | succ d ih =>
   intro i hd hi; have hw := (wn_range h (show i < C.length by omega)).2.1; obtain ⟨K, hK⟩ := ih (i + 1) (by omega) (by omega); refine ⟨K + 400, fun k hk => ?_⟩; obtain ⟨k, rfl⟩ : ∃ m, k = (m + (wn B (cu_at C i) + 1)) + 1 := ⟨k - wn B (cu_at C i) - 2, by omega⟩; show impl_windowsOf.l0 (k + (wn B (cu_at C i) + 1) + 1) _ _ _ (i : Int) _ _ _ = _; simp only [impl_windowsOf.l0]; rw [if_pos (by omega), if_pos (by omega), if_pos (by omega), rd_cue, impl_cue h (show i < C.length by omega) _ (by omega)]; simp only [Option.bind_some]; rw [cueW2_len]; have z := inner i (by omega) (wn B (cu_at C i)) 0 (by omega) (by omega) k; rw [show (List.range 0).map (fun j => [wlo A B (cu_at C i) j, whi A B (cu_at C i) j, (i : Int)]) = [] from rfl, List.append_nil] at z; exact z.trans (hK k (by omega))
 obtain ⟨K, hK⟩ := st C.length 0 (by omega) (by omega); exact ⟨K, fun k hk => hK k hk⟩
def winR (A : List S104) (B : List S62) (C : List S39) : List (List Int) × Int := if isShow A B C = true then (allW A B C C.length, 0) else ([], 1)
theorem win_ok (n0 : Nat) {A : List S104} {B : List S62} {C : List S39} (hF : Frame n0 A B C) : Evt (fun k => spec_WindowsOf.f k A B C = some (winR A B C)) ∧ Evt (fun k => impl_WindowsOf.f k A B C = some (winR A B C)) := by
 cases h : isShow A B C with
 | false =>
  refine ⟨⟨36893488147419103528, fun k hk => ?_⟩, ⟨36893488147419103528, fun k hk => ?_⟩⟩
  ·show spec_WindowsOf.f k A B C = _
   unfold spec_WindowsOf.f winR
   rw [ss_ok hF k (by omega), h]; rfl
  ·show impl_WindowsOf.f k A B C = _
   unfold impl_WindowsOf.f winR
   rw [si_ok hF k (by omega), h]; rfl
 | true =>
  obtain ⟨K, hK⟩ := impl_all h; refine ⟨⟨36893488147419103528, fun k hk => ?_⟩, ⟨36893488147419103528 + K, fun k hk => ?_⟩⟩
  ·show spec_WindowsOf.f k A B C = _
   unfold spec_WindowsOf.f winR
   rw [ss_ok hF k (by omega), h]; simp only [Option.bind_some, if_true]; rw [spec_all h k (by omega)]; rfl
  ·show impl_WindowsOf.f k A B C = _
   unfold impl_WindowsOf.f winR
   rw [si_ok hF k (by omega), h]; simp only [Option.bind_some, if_true]; rw [show impl_windowsOf.f k A B C = _ from hK k (by omega)]; rfl
theorem winR_len {A : List S104} {B : List S62} {C : List S39} : (winR A B C).1.length ≤ 1000 ∧ ∀ x ∈ (winR A B C).1, x.length ≤ 3 := by
 unfold winR
 by_cases h : isShow A B C = true
 ·rw [if_pos h]
  have hC := (isShow_true h).2.2.1; refine ⟨by have := allW_len h C.length (Nat.le_refl _); show (allW A B C C.length).length ≤ 1000; omega, fun x hx => ?_⟩; obtain ⟨a, j, _, _, e⟩ := (allW_mem _ _).1 hx; rw [e]; exact Nat.le_refl _
 ·rw [if_neg h]
  exact ⟨by show 0 ≤ 1000; omega, fun x hx => absurd hx List.not_mem_nil⟩
theorem impl_btime {xs : List S104} (h : isScore xs = true) (b : Nat) (hb : b < xs.length) (a : Int) (ha : 0 ≤ a ∧ a < bt_at xs b) (k : Nat) (hk : xs.length + 2 ≤ k) : impl_BeatTime.f k xs (b : Int) a = some (tm xs b + a * ln_at xs b, 0) := by
 have hs := isScore_true h; have hb2 := hs.2.2 b hb
 have g : hasBeat xs (b : Int) a = true := by
  unfold hasBeat
  rw [Bool.and_eq_true, inB_true, inB_true, Int.toNat_natCast]
  omega
 unfold impl_BeatTime.f
 rw [impl_score xs (by omega) k (by omega), h]; simp only [Option.bind_some]; rw [impl_has h, g, impl_time h b a (.inl hb) (by omega) k (by omega)]; rfl
theorem like_ints_eb (X : List Int) (hX : X.length ≤ 1000) (k : Nat) (hk : X.length < k) : laws_likeInts.f k X X = some true := by
 have loop : ∀ d i k, X.length - i = d → i ≤ X.length → d < k → laws_likeInts.l0 k X X (i : Int) = some true := by
  intro d
  induction d with
  | zero =>
   intro i k hd hi hk; obtain ⟨k, rfl⟩ : ∃ m, k = m + 1 := ⟨k - 1, by omega⟩; simp only [laws_likeInts.l0]; rw [if_neg (by omega)]
  | succ d ih =>
   intro i k hd hi hk; obtain ⟨k, rfl⟩ : ∃ m, k = m + 1 := ⟨k - 1, by omega⟩; simp only [laws_likeInts.l0]; rw [if_pos (by omega), if_pos (by omega), if_pos (by omega), if_pos trivial, w64 (by omega)]; exact ih (i + 1) k (by omega) (by omega) (by omega)
 unfold laws_likeInts.f
 rw [if_pos rfl]; exact loop X.length 0 k (by omega) (by omega) hk
theorem like_rows_eb (X : List (List Int)) (hX : X.length ≤ 1000) (h3 : ∀ x ∈ X, x.length ≤ 3) (k : Nat) (hk : X.length + 10 < k) : laws_likeRows.f k X X = some true := by
 have loop : ∀ d i k, X.length - i = d → i ≤ X.length → d + 10 < k → laws_likeRows.l0 k X X (i : Int) = some true := by
  intro d
  induction d with
  | zero =>
   intro i k hd hi hk; obtain ⟨k, rfl⟩ : ∃ m, k = m + 1 := ⟨k - 1, by omega⟩; simp only [laws_likeRows.l0]; rw [if_neg (by omega)]
  | succ d ih =>
   intro i k hd hi hk; obtain ⟨k, rfl⟩ : ∃ m, k = m + 1 := ⟨k - 1, by omega⟩
   have hl : (rd_L6 X (i : Int)).length ≤ 3 := by
    unfold rd_L6
    rw [Int.toNat_natCast, List.getD_eq_getElem?_getD, List.getElem?_eq_getElem (show i < X.length by omega)]; exact h3 _ (List.getElem_mem _)
   simp only [laws_likeRows.l0]; rw [if_pos (by omega), if_pos (by omega), if_pos (by omega), like_ints_eb _ (by omega) k (by omega), Option.bind_some, if_pos rfl, w64 (by omega)]; exact ih (i + 1) k (by omega) (by omega) (by omega)
 unfold laws_likeRows.f
 rw [if_pos rfl]; exact loop X.length 0 k (by omega) (by omega) hk
theorem allW_pre {A : List S104} {B : List S62} {C : List S39} {i : Nat} : ∀ d, ∃ R, allW A B C (i + d) = allW A B C i ++ R
 | 0 => ⟨[], by simp⟩
 | d + 1 => by
  obtain ⟨R, h⟩ := allW_pre (A := A) (B := B) (C := C) (i := i) d; exact ⟨R ++ cueW3 A B (cu_at C (i + d)) ((i + d : Nat) : Int), by rw [← Nat.add_assoc, allW, h, List.append_assoc]⟩
theorem allW_next (A : List S104) (B : List S62) (C : List S39) (i : Nat) : (allW A B C (i + 1)).length = (allW A B C i).length + wn B (cu_at C i) := by
 rw [allW, List.length_append, cueW3_len]
theorem allW_le {A : List S104} {B : List S62} {C : List S39} {i n : Nat} (h : i ≤ n) : (allW A B C i).length ≤ (allW A B C n).length := by
 obtain ⟨R, e⟩ := allW_pre (A := A) (B := B) (C := C) (i := i) (n - i); rw [show i + (n - i) = n by omega] at e; rw [e, List.length_append]; omega
theorem rdW {A : List S104} {B : List S62} {C : List S39} {i n j : Nat} (hi : i < n) (hj : j < wn B (cu_at C i)) : rd_L6 (allW A B C n) (((allW A B C i).length + j : Nat) : Int) = [wlo A B (cu_at C i) j, whi A B (cu_at C i) j, (i : Int)] := by
 obtain ⟨R, e⟩ := allW_pre (A := A) (B := B) (C := C) (i := i + 1) (n - (i + 1)); rw [show i + 1 + (n - (i + 1)) = n by omega] at e; have hc := rdL_cue3 A B (cu_at C i) (i : Int) hj
 unfold rd_L6 at hc ⊢
 rw [Int.toNat_natCast, List.getD_eq_getElem?_getD] at hc ⊢; rw [e, List.getElem?_append_left (by rw [allW_next]; omega), allW, List.getElem?_append_right (by omega), Nat.add_sub_cancel_left]; exact hc
theorem burst_step {A : List S104} {B : List S62} {C : List S39} (h : isShow A B C = true) {i : Nat} (hi : i < C.length) {K : Nat}
  (hn : ∀ k, K ≤ k → laws_FnEveryBurst.l0 k (allW A B C C.length) 0 ((allW A B C (i + 1)).length : Int) ((i + 1 : Nat) : Int) A B C = some true) :
  ∀ d j k, wn B (cu_at C i) - j = d → j ≤ wn B (cu_at C i) → K + d < k → laws_FnEveryBurst.l1 k (allW A B C C.length) 0 (((allW A B C i).length + j : Nat) : Int) (i : Int) A B C = some true := by
 have hC := (isShow_true h).2.2.1; have hl := allW_len h C.length (Nat.le_refl _); have hx := allW_next A B C i; have hle := allW_le (A := A) (B := B) (C := C) (show i + 1 ≤ C.length by omega); intro d
 induction d with
 | zero =>
  intro j k hd hj hk
  have e : j = wn B (cu_at C i) := by omega
  subst e; rw [← hx]; obtain ⟨k, rfl⟩ : ∃ m, k = m + 1 := ⟨k - 1, by omega⟩; simp only [laws_FnEveryBurst.l1]
  have hw : wrap64 ((i : Int) + 1) = ((i + 1 : Nat) : Int) := by rw [w64 (by omega)]; omega
  by_cases c : ((allW A B C (i + 1)).length : Int) < ((allW A B C C.length).length : Int)
  ·have hi2 : i + 1 < C.length := by
    rcases Nat.lt_or_ge (i + 1) C.length with q | q
    ·exact q
    ·have : i + 1 = C.length := by omega
     rw [this] at c; omega
   have hr := rdW (A := A) (B := B) (C := C) (i := i + 1) (n := C.length) (j := 0) hi2 (by have := (wn_range h hi2).1; omega); rw [Nat.add_zero] at hr; rw [if_pos c, if_pos (by omega), hr, if_pos (by show (2 : Int) < ((3 : Nat) : Int); decide), rd_2, if_neg (by omega), hw]; exact hn k (by omega)
  ·rw [if_neg c, hw]
   exact hn k (by omega)
 | succ d ih =>
  intro j k hd hj hk; obtain ⟨k, rfl⟩ : ∃ m, k = m + 1 := ⟨k - 1, by omega⟩; simp only [laws_FnEveryBurst.l1]; rw [if_pos (by omega), if_pos (by omega), rdW hi (show j < _ by omega), if_pos (by show (2 : Int) < ((3 : Nat) : Int); decide), rd_2, if_pos rfl, w64 (by omega)]; have := ih (j + 1) k (by omega) (by omega) (by omega); rw [show (((allW A B C i).length + j : Nat) : Int) + 1 = (((allW A B C i).length + (j + 1) : Nat) : Int) by omega]; exact this
theorem burst_loop {A : List S104} {B : List S62} {C : List S39} (h : isShow A B C = true) : ∀ d i, C.length - i = d → i ≤ C.length → ∀ k, A.length + 10 + 60 * d < k → laws_FnEveryBurst.l0 k (allW A B C C.length) 0 ((allW A B C i).length : Int) (i : Int) A B C = some true := by
 have hs := isShow_true h; have hl := allW_len h C.length (Nat.le_refl _); intro d
 induction d with
 | zero =>
  intro i hd hi k hk
  have e : i = C.length := by omega
  subst e; obtain ⟨k, rfl⟩ : ∃ m, k = m + 2 := ⟨k - 2, by omega⟩; simp only [laws_FnEveryBurst.l0]; rw [if_pos trivial]; simp only [laws_FnEveryBurst.j2]; rw [if_neg (by rw [decide_eq_true_iff]; omega), if_pos trivial, beq_self_eq_true]
 | succ d ih =>
  intro i hd hi k hk
  have hi2 : i < C.length := by omega
  have hc := cueOk_true (hs.2.2.2 i hi2); obtain ⟨b, hb0, hb, hb2⟩ := hasBeat_true hc.1; have hwn := wn_range h hi2; have hx := allW_next A B C i; have hle := allW_le (A := A) (B := B) (C := C) (show i + 1 ≤ C.length by omega); have har := art_true (arOf_ok hs.2.1 hc.2.1).1; obtain ⟨k, rfl⟩ : ∃ m, k = m + 3 := ⟨k - 3, by omega⟩; have hr := rdW (A := A) (B := B) (C := C) (n := C.length) (j := 0) hi2 (by omega); rw [Nat.add_zero] at hr
  have hbt : impl_BeatTime.f (k + 1) A (cu_at C i).f0 (cu_at C i).f1 = some (tm A b + (cu_at C i).f1 * ln_at A b, 0) := by
   rw [hb0]; exact impl_btime hs.1 b hb _ (by omega) (k + 1) (by omega)
  have hlo : wlo A B (cu_at C i) 0 = tm A b + (cu_at C i).f1 * ln_at A b - (arOf B (cu_at C i)).f4 := by
   unfold wlo ftime; rw [hb0, Int.toNat_natCast]; simp only [Int.natCast_zero, Int.zero_mul]; omega
  have hhi : whi A B (cu_at C i) 0 = tm A b + (cu_at C i).f1 * ln_at A b + (arOf B (cu_at C i)).f4 := by
   unfold whi ftime; rw [hb0, Int.toNat_natCast]; simp only [Int.natCast_zero, Int.zero_mul]; omega
  simp only [laws_FnEveryBurst.l0]; rw [if_pos trivial]; simp only [laws_FnEveryBurst.j2]; rw [if_pos (by rw [decide_eq_true_iff]; omega), if_pos (by omega), if_pos (by omega), rd_cue, hbt, Option.bind_some, if_pos rfl, if_neg (by omega), if_pos (by omega), if_pos (by omega), hr, if_pos (by show (2 : Int) < ((3 : Nat) : Int); decide), rd_2, if_pos rfl, if_pos (by show (0 : Int) < ((3 : Nat) : Int); decide), rd_0, if_neg (by rw [hlo]; omega), if_pos (by show (1 : Int) < ((3 : Nat) : Int); decide), rd_1]; rw [show decide (whi A B (cu_at C i) 0 < tm A b + (cu_at C i).f1 * ln_at A b) = false from decide_eq_false (by rw [hhi]; omega)]; simp only [laws_FnEveryBurst.j3]; rw [if_neg (by decide)]; exact burst_step h hi2 (K := A.length + 10 + 60 * d + 1) (fun k hk => ih (i + 1) (by omega) (by omega) k (by omega)) (wn B (cu_at C i)) 0 k (by omega) (by omega) (by omega)
theorem main_FnEveryBurst (A : List S104) (B : List S62) (C : List S39) (hA : A.length ≤ 9223372036854775807) (hB : B.length ≤ 9223372036854775807) (hC : C.length ≤ 9223372036854775807) (hS : ∀ x ∈ B, x.f0.size ≤ 9223372036854775807) : ∃ k, laws_FnEveryBurst.f k A B C = some true := by
 obtain ⟨⟨k1, h1⟩, ⟨k2, h2⟩⟩ := win_ok 9223372036854775807 (A := A) (B := B) (C := C) ⟨hA, hB, hC, Nat.le_refl _, hS⟩; refine ⟨k1 + k2 + A.length + 3000, ?_⟩
 unfold laws_FnEveryBurst.f
 by_cases c : (C.length : Int) > 65536
 ·rw [if_pos c]
 ·rw [if_neg c, h2 _ (by omega), Option.bind_some, h1 _ (by omega), Option.bind_some, if_pos rfl]
  have hw := winR_len (A := A) (B := B) (C := C); rw [like_rows_eb _ hw.1 hw.2 _ (by omega), Option.bind_some]; obtain ⟨K, hK⟩ : ∃ K, k1 + k2 + A.length + 3000 = K + 1 := ⟨k1 + k2 + A.length + 2999, by omega⟩; rw [hK]; simp only [laws_FnEveryBurst.j0]; rw [if_neg (by decide)]
  unfold winR
  by_cases g : isShow A B C = true
  ·rw [if_pos g]
   have hs := isShow_true g; have := burst_loop g C.length 0 (by omega) (by omega) K (by omega); exact this
  ·rw [if_neg g]
   obtain ⟨K, rfl⟩ : ∃ m, K = m + 2 := ⟨K - 2, by omega⟩; simp only [laws_FnEveryBurst.l0]; rw [if_neg (by decide)]; simp only [laws_FnEveryBurst.j2]; rw [if_neg (by decide), if_neg (by decide)]
theorem pure_FnEveryBurst (l0_0 : List S104) (l0_1 : List S62) (l0_2 : List S39) (hl0_0 : l0_0.length ≤ maxLen) (hp0_0 : ∀ x ∈ l0_0, Pr104 x) (hl0_1 : l0_1.length ≤ maxLen) (hp0_1 : ∀ x ∈ l0_1, Pr62 x) (hl0_2 : l0_2.length ≤ maxLen) (hp0_2 : ∀ x ∈ l0_2, Pr39 x) : ∃ k, laws_FnEveryBurst.f k l0_0 l0_1 l0_2 = some true := main_FnEveryBurst l0_0 l0_1 l0_2 hl0_0 hl0_1 hl0_2 (fun x hx => (hp0_1 x hx).1)
end Go.Proofs.Ythhijbdekboahaa.F
namespace Go.Proofs.Ythhijbdekboahaa.fnEveryBurst
open Go.ChangeShapes Go.WideShapes Go.ChangeAt Go.RowKit Go.Proofs.Ythhijbdekboahaa.F Go.Proofs.YthhijbdekboahaaW.PrintWords
open Go.ChangeMaps (open_string shut_string)
set_option linter.unusedVariables false
theorem own : ownKnob Try.prog.godebug = none := by kernel_rfl
theorem laidOut : laidOutB Try.prog = true := by kernel_rfl
set_option maxRecDepth 100000 in
theorem lifted (os : Os) (started : os.Started) (H : Type) (enc : TypeId × Value → H) :
  ReturnsInHanded {} Try.checked os 7 .any (Rows.fnEveryBurstSpec.pre6 enc Try.prog Try.f7 Rows.fnEveryBurstRow.domain false) (Rows.fnEveryBurstSpec.post enc Try.prog Try.f7 false true false false) := by
 refine returnsInHanded_of_change_sized (C := Try.checked) own started Zi Try.func7
  (ChangeSpec.witness6 (enc := enc) (C := Try.checked) false ⟨#[], #[.agg #[.slice none 0 0, .slice none 0 0, .slice none 0 0]], []⟩ 8 Zi Zi Zi Zi) ?_
 intro W base args ds gs before hval0 hW hcnd hsz0 _; have hval : ∀ (j : Nat) t v, Try.f7.params[j]? = some t → args[j]? = some v → Value.okWide Try.prog W .any base t v := hval0; have hW' := hW; obtain ⟨p, q, hA0, hV, rfl, hfz, hnd⟩ := hW; have hA : DataW.TrodAll enc Try.prog W 0 (fun _ => true) true Try.f7.params.toList args.toList ds p := hA0; rw [Try.params7] at hA hval; obtain ⟨v0, vs0, d0, ds0, p0, q0, hargs, rfl, rfl, h0, r0⟩ := trodAll_cons hA; obtain ⟨rfl, rfl, rfl⟩ := trodAll_nil r0
 obtain rfl : args = #[v0] := by cases args; simp_all
 obtain ⟨rfl, rfl⟩ := trodVars_none hV; have k0 := h0
 have lt0 : ∀ x ∈ p0, x.block < W.heap.size := by obtain ⟨m, hm⟩ := k0; exact DataW.trod_lt m _ _ _ hm
 obtain ⟨cs0, rfl, _⟩ := okWide_struct Try.underlying28 (hval 0 28 v0 rfl rfl)
 obtain ⟨A0_0, c0_0, l0_0, A0_1, c0_1, l0_1, A0_2, c0_2, l0_2, rfl, ⟨lc0_0, lm0_0, hC0_0, hP0_0⟩, ⟨lc0_1, lm0_1, hC0_1, hP0_1⟩, ⟨lc0_2, lm0_2, hC0_2, hP0_2⟩⟩ : ∃ (A0_0 : Option Addr) (c0_0 : Nat) (l0_0 : List S104) (A0_1 : Option Addr) (c0_1 : Nat) (l0_1 : List S62) (A0_2 : Option Addr) (c0_2 : Nat) (l0_2 : List S39), cs0 = #[.slice A0_0 l0_0.length c0_0, .slice A0_1 l0_1.length c0_1, .slice A0_2 l0_2.length c0_2] ∧ (l0_0.length ≤ c0_0 ∧ c0_0 ≤ maxLen ∧ Kd.C k104 W A0_0 l0_0.length l0_0 ∧ ∀ x ∈ l0_0, Pr104 x) ∧ (l0_1.length ≤ c0_1 ∧ c0_1 ≤ maxLen ∧ Kd.C k62 W A0_1 l0_1.length l0_1 ∧ ∀ x ∈ l0_1, Pr62 x) ∧ (l0_2.length ≤ c0_2 ∧ c0_2 ≤ maxLen ∧ Kd.C k39 W A0_2 l0_2.length l0_2 ∧ ∀ x ∈ l0_2, Pr39 x) := by
  obtain ⟨fuel, hf⟩ := h0; obtain ⟨z0_0, y0_0, x0_0, z0_1, y0_1, x0_1, z0_2, y0_2, x0_2, hcs, hp⟩ := open_V28 hf; simp only [Value.cells] at hcs; exact ⟨z0_0, y0_0, x0_0, z0_1, y0_1, x0_1, z0_2, y0_2, x0_2, by rw [← hcs], hp⟩
 obtain ⟨k, hk⟩ := pure_FnEveryBurst l0_0 l0_1 l0_2 (by omega) hP0_0 (by omega) hP0_1 (by omega) hP0_2; refine (law_FnEveryBurst k A0_0 c0_0 l0_0 A0_1 c0_1 l0_1 A0_2 c0_2 l0_2 W hC0_0 lc0_0 hC0_1 lc0_1 hC0_2 lc0_2 hk).mono fun e W' ⟨he, bel⟩ => ?_; subst he; exact ⟨_, rfl, _, _, _, [], _, [], hW', trodAll_mk1 (shut_bool Try.underlying4 _), (trodAll_cons_mk (Below.trod laidOut Zi (of_decide_eq_true Zi) k0 bel lt0) trodAll_mk0), rfl, bel.frame _, fun h => by cases h⟩
theorem over : Rows.fnEveryBurstRow.holds Try.pinned (OpenSpec.ofChange Rows.fnEveryBurstSpec) :=
 OpenClaim.holds_of_wide 7 Try.f7 rfl rfl rfl rfl rfl rfl rfl ⟨rfl, rfl, rfl, rfl, rfl⟩ rfl rfl rfl rfl rfl Zi Try.func7 GcFnEveryBurst.closed
  (of_decide_eq_true Zi) (by unfold Func.isWrapper; first | (rw [if_pos (by decide +kernel)]; kernel_rfl) | (rw [if_neg (by decide +kernel)]; exact ⟨rfl, rfl⟩))
  (fun os started H enc _ => lifted os started H enc)
theorem proved : Rows.FnEveryBurstSaid := over
end Go.Proofs.Ythhijbdekboahaa.fnEveryBurst
namespace Go.Proofs.Ythhijbdekboahaa
theorem fnEveryBurst_holds : Rows.FnEveryBurstSaid := fnEveryBurst.proved
#print axioms fnEveryBurst_holds
end Go.Proofs.Ythhijbdekboahaa
