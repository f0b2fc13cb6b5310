import Derived.Test.YthhijbdekboahaaJFnEveryBurst2
import Derived.Below
import Derived.Deep.Draws
import Derived.Deep.AppendLies
import Derived.Maps.AppendAt
import Derived.OwnWalk
import Derived.Laws.BytesArg
import Derived.Laws.MakeOwn
import Derived.Laws.OwnMore
import Derived.Tactics
import Derived.Lib.ConvBytes
import Derived.Laws.Slices
import Derived.WalkKit
import Derived.KernelRfl
import Derived.RowKit3
import Derived.Deep.LoopGhost
import Derived.Deep.QuietTactic
import Derived.BigQuiet
import Derived.WideLaws
import Derived.Deep.DeepCutAuto
import Derived.Deep.CutBlock
import Derived.Deep.RegionHeld3
import Derived.Lib.AppendStr
import Derived.ArgAppend
import Derived.Laws.IdiomCopy
import Derived.RowKit
import Derived.OrdersHeld
import Derived.Laws.BitsLemmas
import Derived.Laws.StructEq
import Derived.Test.YthhijbdekboahaaProg
import Derived.ChangeSlices
import Derived.OpenShut
import Derived.Laws.Cover1
namespace Go.Proofs.Ythhijbdekboahaa.F
open Go.RowKit Go.Proofs.YthhijbdekboahaaW.PrintWords Go.Proofs.YthhijbdekboahaaW.PrintLast Go.Proofs.YthhijbdekboahaaW.PrintMore
attribute [local go_sem] max2_int min2_int max_two min_two max_three min_three max_four min_four
set_option linter.unusedVariables false
set_option linter.unusedSimpArgs false
mutual
def impl_windowsOf.l0 : Nat → List (List Int) → List (S39) → Int → Int → List (S104) → List (S62) → List (S39) → Option ((List (List Int)))
 | 0, _, _, _, _, _, _, _ => none
 | k + 1, x3, x9, x10, x11, x1203000, x1203001, x1203002 => if x11 < x10 then (if 0 ≤ x11 then (if x11 < (x9.length : Int) then ((impl_windowsOfCue.f k x1203000 x1203001 x1203002 ((rd_T39 x9 x11).f0) ((rd_T39 x9 x11).f1) ((rd_T39 x9 x11).f2) ((rd_T39 x9 x11).f3)).bind fun t1205 => (impl_windowsOf.l1 k x3 x11 x9 x10 x11 t1205 (t1205.length : Int) 0 x1203000 x1203001 x1203002)) else (none)) else (none)) else (some x3)
def impl_windowsOf.l1 : Nat → List (List Int) → Int → List (S39) → Int → Int → List (List Int) → Int → Int → List (S104) → List (S62) → List (S39) → Option ((List (List Int)))
 | 0, _, _, _, _, _, _, _, _, _, _, _ => none
 | k + 1, x3, x4, x9, x10, x11, x18, x19, x20, x1203000, x1203001, x1203002 => if x20 < x19 then (if 0 ≤ x20 then (if x20 < (x18.length : Int) then (if 0 < ((rd_L6 x18 x20).length : Int) then (if 1 < ((rd_L6 x18 x20).length : Int) then (if x3.length < 5864062014805 then (impl_windowsOf.l1 k (x3 ++ [(([rd (rd_L6 x18 x20) 0, rd (rd_L6 x18 x20) 1, x4] : List Int))]) x4 x9 x10 x11 x18 x19 (wrap64 (x20 + 1)) x1203000 x1203001 x1203002) else (none)) else (none)) else (none)) else (none)) else (none)) else (impl_windowsOf.l0 k x3 x9 x10 (wrap64 (x11 + 1)) x1203000 x1203001 x1203002)
end
def impl_windowsOf.f (k : Nat) (l0_0 : List (S104)) (l0_1 : List (S62)) (l0_2 : List (S39)) : Option ((List (List Int))) := impl_windowsOf.l0 k ([] : List (List Int)) l0_2 (l0_2.length : Int) 0 l0_0 l0_1 l0_2
def impl_windowsOf.T8 : Bool × List (List Nat × List Nat) := (true, [([], []), ([], []), ([1], [1]), ([2], [2]), ([], []), ([4], [4]), ([5], [5]), ([], []), ([3, 6, 7], [3, 6, 7]), ([8], [8]), ([0, 9], [0, 9]), ([10, 10, 0, 1, 2, 3, 4, 5, 6, 7, 8, 9, 10], [0, 10])])
def impl_windowsOf.B8 : List Nat := [0, 0, 2, 6, 0, 16, 48, 0, 254, 510, 1023, 2047]
theorem impl_windowsOf.tab8 : rtab .any (opsOf Try.f77 8) = impl_windowsOf.T8 := by kernel_rfl
theorem impl_windowsOf.bits8 : waitsOk impl_windowsOf.T8.2 impl_windowsOf.B8 = true := by kernel_rfl
set_option maxHeartbeats 8000000 in
set_option maxRecDepth 100000 in
theorem impl_windowsOf.calls (k : Nat) (A0_0 : Option Addr) (c0_0 : Nat) (l0_0 : List (S104)) (A0_1 : Option Addr) (c0_1 : Nat) (l0_1 : List (S62)) (A0_2 : Option Addr) (c0_2 : Nat) (l0_2 : List (S39)) (r : List (List Int)) (w : World) (hr0_0 : Kd.C k104 w A0_0 l0_0.length l0_0) (hc0_0 : l0_0.length ≤ c0_0) (hr0_1 : Kd.C k62 w A0_1 l0_1.length l0_1) (hc0_1 : l0_1.length ≤ c0_1) (hr0_2 : Kd.C k39 w A0_2 l0_2.length l0_2) (hc0_2 : l0_2.length ≤ c0_2) (h : impl_windowsOf.f k l0_0 l0_1 l0_2 = some r) :
  Calls Try.prog 77 #[.agg #[.slice A0_0 l0_0.length c0_0, .slice A0_1 l0_1.length c0_1, .slice A0_2 l0_2.length c0_2]] w fun e w' => ∃ v0_ : Value, e = .returned (v0_) ∧ Kd.S (Kd.slice 2 (Kd.int .i64)) 33 w' w.heap.size (fun _ => True) v0_ r ∧ Below w.heap.size w w' := by
 have hu28 := Try.underlying28; have hu39 := Try.underlying39; have HR0_0 := am_ hr0_0; have HC0_0 := am_ hc0_0; clear hr0_0 hc0_0; have HR0_1 := am_ hr0_1; have HC0_1 := am_ hc0_1; clear hr0_1 hc0_1; have HR0_2 := am_ hr0_2; have HC0_2 := am_ hc0_2; clear hr0_2 hc0_2; have HB := am_ (Below.refl w.heap.size w); have H : (impl_windowsOf.l0 k ([] : List (List Int)) l0_2 (l0_2.length : Int) 0 l0_0 l0_1 l0_2) = some r := h; clear h; have H' := am_ H; clear H
 go_enter Try.func77, Try.ntmps77
 go_wp2_with (first | ((with_reducible refine gate_dst (N := 1) rfl ?_); refine boxZ 1 #[.slice A0_0 l0_0.length c0_0, .slice A0_1 l0_1.length c0_1, .slice A0_2 l0_2.length c0_2] 28 ?_; intro gb1202 hg w2 hbox hb; replace BK1202 := am_ (hbox); replace GW1202 := am_ ((Zh : w.heap.size ≤ gb1202)); replace GE1202 := GW1202; replace HB := (bsZ Zf hb); clear hb hbox hg; obtain ⟨hcz3_0, hcz3_1, hcz3_2, hfz3_0, hfz3_1, hfz3_2⟩ := cz3 BK1202))
 go_loopg [3, 11] k (fun kq v3 v11 w' => ∃ (x3_1 : List (List Int)) (x11_1 : Int), v11 = .int .i64 x11_1 ∧ Aside0 (impl_windowsOf.l0 kq x3_1 l0_2 (l0_2.length : Int) x11_1 l0_0 l0_1 l0_2 = some r) ∧ Aside0 (kq ≤ k) ∧ Aside0 (Kd.S (Kd.slice 2 (Kd.int .i64)) 33 w' w.heap.size (fun _ => True) v3 x3_1) ∧ Aside0 (w'.heap[gb1202]? = some (.cells #[(.slice A0_0 l0_0.length c0_0), (.slice A0_1 l0_1.length c0_1), (.slice A0_2 l0_2.length c0_2)] 28 (0, 0))) ∧ Aside0 (Below w.heap.size w w'))
 case atStart => exact ⟨(([] : List (List Int))), (0), Za, H', ⟨Nat.le_refl _⟩, ⟨Zad⟩, ⟨(have z0_ := BK1202; Zs)⟩, ⟨(have z0_ := GE1202; Zk)⟩⟩
 case round =>
  clear H'
  try clear p2
  try clear hcz3_0
  try clear hcz3_1
  try clear hcz3_2
  try clear hfz3_0
  try clear hfz3_1
  try clear hfz3_2
  obtain ⟨x3_1, x11_1, rfl, HA, HK1, HO_3, BK1202, HB⟩ := hrel
  cases gk with
  | zero => exact absurd HA.out (by simp [impl_windowsOf.l0])
  | succ k1 =>
   have H := HA.out; clear HA; simp only [impl_windowsOf.l0] at H
   by_cases c4 : x11_1 < (l0_2.length : Int)
   ·rw [if_pos c4] at H
    have c4b0 := decide_eq_true c4; clear c4
    by_cases c5 : 0 ≤ x11_1
    ·rw [if_pos c5] at H
     have c5b0 := decide_eq_true c5; clear c5
     by_cases c6 : x11_1 < (l0_2.length : Int)
     ·rw [if_pos c6] at H
      have c6b0 := decide_eq_true c6; clear c6; replace H := Option.bind_eq_some_iff.mp H; obtain ⟨t1205, A70, H⟩ := H; have A7 := am_ A70; clear A70; have H' := am_ H; clear H; have p1203 : 0 ≤ (x11_1 : Int) := of_decide_eq_true Zc; have q1203 : x11_1 < (l0_2.length : Int) := of_decide_eq_true Zc; obtain ⟨ad1203, e1203, hx1203_0, hx1203_1, hx1203_2, hx1203_3⟩ := at_T39 HR0_2.out x11_1 p1203 q1203
      cases e1203
      replace hx1203_0 := cbH HB hx1203_0; replace hx1203_1 := cbH HB hx1203_1; replace hx1203_2 := cbH HB hx1203_2; replace hx1203_3 := cbH HB hx1203_3; replace p1203 := eq_true p1203; replace q1203 := eq_true q1203
      go_wp2_with (first | ((with_reducible refine gate_dst (N := 5) rfl ?_); refine boxZ 5 #[.int .i64 0, .int .i64 0, .string (⟨#[]⟩ : ByteArray), .int .i64 0] 39 ?_; intro gb1204 hg w8 hbox hb; replace HO_3 := am_ (Kd.S_below (have z0_ := HO_3; Zae) hb); replace BK1204 := am_ (hbox); replace GW1204 := am_ (((have z0_ := GE1202; Zn) : w.heap.size ≤ gb1204)); replace GE1204 := GW1204; replace HB := (bsZ (have z0_ := GE1202; Zk) hb); replace NB1202_1204 := am_ ((by rw [hg]; exact Nat.ne_of_lt (blk_lt (g := gb1202) (o := .cells #[.slice A0_0 l0_0.length c0_0, .slice A0_1 l0_1.length c0_1, .slice (some ad1203) l0_2.length c0_2] 28 (0, 0)) (have z0_ := BK1202; Zs)) : gb1202 ≠ gb1204)); replace NB1204_1202 := am_ ((by rw [hg]; exact Nat.ne_of_gt (blk_lt (g := gb1202) (o := .cells #[.slice A0_0 l0_0.length c0_0, .slice A0_1 l0_1.length c0_1, .slice (some ad1203) l0_2.length c0_2] 28 (0, 0)) (have z0_ := BK1202; Zs)) : gb1204 ≠ gb1202)); replace BK1202 := (have z0_ := BK1202; bkZ hb); clear hb hbox hg; have hnb9 := NB1204_1202.out; have hnc9 := NB1202_1204.out; obtain ⟨hcz10_0, hcz10_1, hcz10_2, hcz10_3, hfz10_0, hfz10_1, hfz10_2, hfz10_3⟩ := cz4 BK1204; obtain ⟨hcz11_0, hcz11_1, hcz11_2, hfz11_0, hfz11_1, hfz11_2⟩ := cz3 BK1202) | ((with_reducible refine gate_callee (f := 75) rfl ?_); refine goesL_ (some 18) rfl rfl Try.func75 Zi rfl #[.agg #[.slice A0_0 l0_0.length c0_0, .slice A0_1 l0_1.length c0_1, .slice (some ad1203) l0_2.length c0_2], .agg #[.int .i64 ((rd_T39 l0_2 x11_1).f0), .int .i64 ((rd_T39 l0_2 x11_1).f1), .string ((rd_T39 l0_2 x11_1).f2), .int .i64 ((rd_T39 l0_2 x11_1).f3)]] rfl Zj ?_; (with_reducible refine (impl_windowsOfCue.calls k1 _ _ l0_0 _ _ l0_1 _ _ l0_2 ((rd_T39 l0_2 x11_1).f0) ((rd_T39 l0_2 x11_1).f1) ((rd_T39 l0_2 x11_1).f2) ((rd_T39 l0_2 x11_1).f3) t1205 _ ?side1 ?side2 ?side3 ?side4 ?side5 ?side6 A7.out).mono ?_); (case side1 => exact Kd.C_below HR0_0.out (have z0_ := GE1202; have z1_ := GE1204; Zr)); (case side2 => exact HC0_0.out); (case side3 => exact Kd.C_below HR0_1.out (have z0_ := GE1202; have z1_ := GE1204; Zr)); (case side4 => exact HC0_1.out); (case side5 => exact Kd.C_below HR0_2.out (have z0_ := GE1202; have z1_ := GE1204; Zr)); (case side6 => exact HC0_2.out); rintro e w12 ⟨v1206, rfl, ho0, hb⟩; refine ⟨_, rfl, ?_⟩; replace HO1207 := am_ (Kd.S_lower (Kd.S_new' ho0 (Kd.S_lt (have z0_ := HO_3; have z1_ := BK1204; Zag))) (below_size (have z0_ := GE1202; have z1_ := GE1204; Zr))); replace HO_3 := am_ (Kd.S_elder' (have z0_ := HO_3; have z1_ := BK1204; Zag) (Kd.S_base ho0) hb); replace BK1202 := am_ (blk_below (g := gb1202) (o := .cells #[.slice A0_0 l0_0.length c0_0, .slice A0_1 l0_1.length c0_1, .slice (some ad1203) l0_2.length c0_2] 28 (0, 0)) (have z0_ := NB1202_1204; have z1_ := BK1202; Zw) hb); replace BK1204 := am_ (blk_below (g := gb1204) (o := .cells #[.int .i64 ((rd_T39 l0_2 x11_1).f0), .int .i64 ((rd_T39 l0_2 x11_1).f1), .string ((rd_T39 l0_2 x11_1).f2), .int .i64 ((rd_T39 l0_2 x11_1).f3)] 39 (0, 0)) (by (with_reducible repeat (first | refine blk_drewN ?_ _ | refine blk_drew ?_ | refine blk_alloc ?_ _)); refine blk_put (cs := #[.int .i64 ((rd_T39 l0_2 x11_1).f0), .int .i64 ((rd_T39 l0_2 x11_1).f1), .string ((rd_T39 l0_2 x11_1).f2), .int .i64 0]) ?_ 3 _ rfl; refine blk_put (cs := #[.int .i64 ((rd_T39 l0_2 x11_1).f0), .int .i64 ((rd_T39 l0_2 x11_1).f1), .string (⟨#[]⟩ : ByteArray), .int .i64 0]) ?_ 2 _ rfl; refine blk_put (cs := #[.int .i64 ((rd_T39 l0_2 x11_1).f0), .int .i64 0, .string (⟨#[]⟩ : ByteArray), .int .i64 0]) ?_ 1 _ rfl; refine blk_put (cs := #[.int .i64 0, .int .i64 0, .string (⟨#[]⟩ : ByteArray), .int .i64 0]) ?_ 0 _ rfl; (with_reducible repeat (first | refine blk_drewN ?_ _ | refine blk_drew ?_ | refine blk_alloc ?_ _)); exact BK1204.out) hb); replace HB := (bsZ (have z0_ := GE1202; have z1_ := GE1204; Zr) hb); (try clear hb); (try clear hb2); (try clear hk); (try clear hi); (try clear ho0); obtain ⟨Ao13, co13, eo13⟩ := Kd.S_slice HO1207.out; subst eo13))
      go_loopg [3, 20] k1 (fun kq v3 v20 w' => ∃ (x3_2 : List (List Int)) (x20_2 : Int), v20 = .int .i64 x20_2 ∧ Aside0 (impl_windowsOf.l1 kq x3_2 x11_1 l0_2 (l0_2.length : Int) x11_1 t1205 (t1205.length : Int) x20_2 l0_0 l0_1 l0_2 = some r) ∧ Aside0 (kq ≤ k1) ∧ Aside0 (Kd.S (Kd.slice 2 (Kd.int .i64)) 33 w' w.heap.size (fun k_ => some k_ ≠ ((.slice Ao13 t1205.length co13) : Value).ownBlock) v3 x3_2) ∧ Aside0 (Kd.S (Kd.slice 2 (Kd.int .i64)) 33 w' w.heap.size (fun k_ => some k_ ≠ (v3 : Value).ownBlock) (.slice Ao13 t1205.length co13) t1205) ∧ Aside0 (w'.heap[gb1202]? = some (.cells #[(.slice A0_0 l0_0.length c0_0), (.slice A0_1 l0_1.length c0_1), (.slice (some ad1203) l0_2.length c0_2)] 28 (0, 0))) ∧ Aside0 (w'.heap[gb1204]? = some (.cells #[.int .i64 ((rd_T39 l0_2 x11_1).f0), .int .i64 ((rd_T39 l0_2 x11_1).f1), .string ((rd_T39 l0_2 x11_1).f2), .int .i64 ((rd_T39 l0_2 x11_1).f3)] 39 (0, 0))) ∧ Aside0 (Below w.heap.size w w'))
      case atStart => exact ⟨(x3_1), (0), Za, H', ⟨Nat.le_refl _⟩, ⟨by (with_reducible repeat (first | apply Kd.S_alloc | apply Kd.S_drewN | apply Kd.S_drew)); exact Kd.S_mono HO_3.out (fun _ hk => hk.2)⟩, ⟨by (with_reducible repeat (first | apply Kd.S_alloc | apply Kd.S_drewN | apply Kd.S_drew)); exact Kd.S_mono HO1207.out (fun _ hk => hk.2)⟩, ⟨(have z0_ := BK1202; Zs)⟩, ⟨(have z0_ := BK1204; Zs)⟩, ⟨(have z0_ := GE1202; have z1_ := GE1204; Zr)⟩⟩
      case round =>
       clear H'
       try clear p1
       try clear q1
       try clear hx1
       try clear p2
       try clear c4
       try clear c4b0
       try clear c5
       try clear c5b0
       try clear c6
       try clear c6b0
       try clear c7
       try clear c9
       try clear p12
       try clear q12
       try clear hx12
       try clear hcz10_0
       try clear hcz10_1
       try clear hcz10_2
       try clear hcz10_3
       try clear hcz11_0
       try clear hcz11_1
       try clear hcz11_2
       try clear hcz3_0
       try clear hcz3_1
       try clear hcz3_2
       try clear hfz10_0
       try clear hfz10_1
       try clear hfz10_2
       try clear hfz10_3
       try clear hfz11_0
       try clear hfz11_1
       try clear hfz11_2
       try clear hfz3_0
       try clear hfz3_1
       try clear hfz3_2
       try clear hx1203_0
       try clear hx1203_1
       try clear hx1203_2
       try clear hx1203_3
       try clear p1203
       try clear p2
       try clear q1203
       obtain ⟨x3_2, x20_2, rfl, HA, HK2, HO_3, HO_18, BK1202, BK1204, HB⟩ := hrel
       cases gk with
       | zero => exact absurd HA.out (by simp [impl_windowsOf.l1])
       | succ k2 =>
        have H := HA.out; clear HA; simp only [impl_windowsOf.l1] at H
        by_cases c14 : x20_2 < (t1205.length : Int)
        ·rw [if_pos c14] at H
         have c14b0 := decide_eq_true c14; clear c14
         by_cases c15 : 0 ≤ x20_2
         ·rw [if_pos c15] at H
          have c15b0 := decide_eq_true c15; clear c15
          by_cases c16 : x20_2 < (t1205.length : Int)
          ·rw [if_pos c16] at H
           have c16b0 := decide_eq_true c16; clear c16
           by_cases c17 : 0 < ((rd_L6 t1205 x20_2).length : Int)
           ·rw [if_pos c17] at H
            have c17b0 := decide_eq_true c17; have c17b1 : decide (0 < (rd_L6 t1205 x20_2).length) = true := decide_eq_true (by omega); clear c17
            by_cases c18 : 1 < ((rd_L6 t1205 x20_2).length : Int)
            ·rw [if_pos c18] at H
             have c18b0 := decide_eq_true c18; have c18b1 : decide (1 < (rd_L6 t1205 x20_2).length) = true := decide_eq_true (by omega); clear c18; obtain ⟨y1211, hy1211⟩ : ∃ y_ : List Int, y_ = (([rd (rd_L6 t1205 x20_2) 0, rd (rd_L6 t1205 x20_2) 1, x11_1] : List Int)) := ⟨_, rfl⟩
             (first | (rw [← hy1211] at H; with_reducible replace H := bindZ H) | rw [← hy1211] at H)
             have Ny1211 := am_ hy1211; clear hy1211
             by_cases c19 : x3_2.length < 5864062014805
             ·rw [if_pos c19] at H
              have LMc19 := am_ c19; clear c19; obtain ⟨y1214, hy1214⟩ : ∃ y_ : List (List Int), y_ = (x3_2 ++ [y1211]) := ⟨_, rfl⟩
              (first | (rw [← hy1214] at H; with_reducible replace H := bindZ H) | rw [← hy1214] at H)
              have Ny1214 := am_ hy1214; clear hy1214; have H' := am_ H; clear H; have p1208 : 0 ≤ (x20_2 : Int) := of_decide_eq_true Zc; have q1208 : x20_2 < (t1205.length : Int) := of_decide_eq_true Zc; obtain ⟨ad1208, A1208_0, c1208_0, e1208, hx1208_0, hl1208_0, hi1208_0⟩ := at_L6 (Kd.S_reads' HO_18.out).2.2 x20_2 p1208 q1208
              cases e1208
              obtain ⟨ce1208, hce1208, hMe1208, hcc1208⟩ := Kd.S_get HO_18.out [] x20_2 p1208 (by first | exact q1208 | exact of_decide_eq_true Zc | (have e_ := (Kd.S_reads' HO_18.out).1; omega)); obtain ⟨ve1208_0, rfl, ge1208_0⟩ := hMe1208; have hv1208_0 := hcc1208 0 _ rfl; rw [Nat.add_zero, show ((Kd.slice 2 (Kd.int .i64))).sz = 1 from rfl, Nat.mul_one] at hv1208_0; replace hv1208_0 := Option.some.inj (hv1208_0.symm.trans hx1208_0); rw [hv1208_0] at ge1208_0; have HL1208_0 := am_ (show Kd.R (Kd.int .i64) 2 _ _ _ _ (rd_L6 t1205 x20_2) from ge1208_0); clear hv1208_0 ge1208_0; clear hcc1208 hce1208; have HR1208_0 := am_ hi1208_0; have HC1208_0 := am_ hl1208_0; clear hi1208_0 hl1208_0; replace p1208 := eq_true p1208; replace q1208 := eq_true q1208
              try go_wp2
              replace HO_3 := am_ (Kd.S_drew HO_3.out); replace HO_18 := am_ (Kd.S_drew HO_18.out); replace HL1208_0 := am_ (Kd.R_drew HL1208_0.out); replace BK1202 := am_ (blk_drew BK1202.out); replace BK1204 := am_ (blk_drew BK1204.out); replace HR1208_0 := am_ (Kd.C_drew HR1208_0.out); replace HB := am_ (below_drew1 HB.out); have p1209 : 0 ≤ (0 : Int) := (by omega); have q1209 : 0 < ((rd_L6 t1205 x20_2).length : Int) := of_decide_eq_true Zc; obtain ⟨ad1209, e1209, hx1209_0⟩ := Kd.at_int (have z0_ := HR1208_0; Zah) 0 p1209 q1209
              cases e1209
              have qi1209 : (0 < (rd_L6 t1205 x20_2).length) = True := eq_true (by omega)
              (try rw [show ((0 : Int)).toNat = 0 from rfl] at hx1209_0)
              (try rw [Addr.add_zero'] at hx1209_0)
              replace p1209 := eq_true p1209; replace q1209 := eq_true q1209; have p1210 : 0 ≤ (1 : Int) := (by omega); have q1210 : 1 < ((rd_L6 t1205 x20_2).length : Int) := of_decide_eq_true Zc; obtain ⟨ad1210, e1210, hx1210_0⟩ := Kd.at_int (have z0_ := HR1208_0; Zah) 1 p1210 q1210; obtain rfl : ad1209 = ad1210 := (by injection e1210)
              (try simp only [show (1 : Int).toNat = 1 from rfl, Nat.reduceMul, Nat.reduceEqDiff, Go.Addr.add, ↓reduceIte] at hx1210_0)
              have qi1210 : (1 < (rd_L6 t1205 x20_2).length) = True := eq_true (by omega)
              (try rw [show ((1 : Int)).toNat = 1 from rfl] at hx1210_0)
              replace p1210 := eq_true p1210; replace q1210 := eq_true q1210; refine start_ (n := 12) (S := fun w' => w'.cell? ad1209 = some (.int .i64 (rd (rd_L6 t1205 x20_2) 0)) ∧ w'.cell? ⟨ad1209.block, ad1209.off + 1, none⟩ = some (.int .i64 (rd (rd_L6 t1205 x20_2) 1))) (ds := [9, 10]) (bT 12 0) Zi rfl rfl ⟨hx1209_0, hx1210_0⟩ (fun hHeld => ?_); refine with_tabW impl_windowsOf.tab8 impl_windowsOf.bits8 (fun HT_ HW_ => ?_); generalize wr.drew = w20 at HO_3 HO_18 HL1208_0 BK1202 BK1204 HR1208_0 HB hx1209_0 hx1210_0 hHeld ⊢; refine pureZ HT_ 0 (some 24) (bT 12 1) ?_; refine pureZ HT_ 1 (some 25) (bT 12 2) ?_; refine pureZ HT_ 2 (some 26) (bT 12 3) ?_; refine pureZ HT_ 4 (some 28) #[true, true, true, false, true, false, false, false, false, false, false, false] ?_; refine pureZ HT_ 5 (some 29) #[true, true, true, false, true, true, false, false, false, false, false, false] ?_; refine pureZ HT_ 7 (some 31) #[true, true, true, false, true, true, false, true, false, false, false, false] ?_; refine takeZ2 HT_ HW_ 3 (some 27) #[true, true, true, true, true, true, false, true, false, false, false, false] hHeld ?_; refine takeZ2 HT_ HW_ 6 (some 30) (bT 12 8) hHeld ?_; refine one_ (i := 8) (N := some 32) (bT 12 9) rfl rfl (one_of HT_.out Zi) (by decide) (fun K hK => ?_); refine Kd.R_lit_step (Kd.int .i64) _ 2 ?hg (N := 32) ?hd (xs := ([rd (rd_L6 t1205 x20_2) 0, rd (rd_L6 t1205 x20_2) 1, x11_1] : List Int)) (inner := [.int .i64 (rd (rd_L6 t1205 x20_2) 0), .int .i64 (rd (rd_L6 t1205 x20_2) 1), .int .i64 x11_1]) (ok := fun _ => True) (okp := fun _ => True) ?hr ?hp (fun _ hk => hk) trivial (Below.refl _ _) (Nat.le_refl _) (by simp) ?_; (case hd => rfl); (case hg => rfl); (case hr => first | (go_simp; done) | (go_simp; rfl)); (case hp => exact (Reps.one (show Kd.M (Kd.int .i64) _ _ _ (rd (rd_L6 t1205 x20_2) 0) [.int .i64 (rd (rd_L6 t1205 x20_2) 0)] from rfl) (Reps.one (show Kd.M (Kd.int .i64) _ _ _ (rd (rd_L6 t1205 x20_2) 1) [.int .i64 (rd (rd_L6 t1205 x20_2) 1)] from rfl) (Reps.one (show Kd.M (Kd.int .i64) _ _ _ x11_1 [.int .i64 x11_1] from rfl) (Reps.none _ _))))); intro v1212 w21 ho22 hb hg_ hnew_; have HS0_ := (hb.cell (World.block_lt_of_cell? _ _ (hHeld.1))).trans (hHeld.1); have HS1_ := (hb.cell (World.block_lt_of_cell? _ _ (hHeld.2))).trans (hHeld.2); clear hg_ hnew_
              (first | rw [← Ny1211.out] at ho22 | (simp only [Int.reduceToNat] at ho22; rw [← Ny1211.out] at ho22))
              replace HO_3 := am_ (Kd.S_elder' (have z0_ := HO_3; Zae) (Kd.R_base ho22) hb); replace HO_18 := am_ (Kd.S_elder' (have z0_ := HO_18; Zae) (Kd.R_base ho22) hb); replace HO1213 := am_ (Kd.R_lower (Kd.R_new' ho22 (Kd.R_lt (have z0_ := HL1208_0; Zai))) (below_size (have z0_ := GE1202; have z1_ := GE1204; Zr))); replace HL1208_0 := am_ (Kd.R_elder' (have z0_ := HL1208_0; Zai) (Kd.R_base ho22) hb); replace BK1202 := (have z0_ := BK1202; bkZ hb); replace BK1204 := (have z0_ := BK1204; bkZ hb); replace HR1208_0 := am_ (Kd.C_below (have z0_ := HR1208_0; Zah) hb); replace HB := (bsZ (have z0_ := GE1202; have z1_ := GE1204; Zr) hb); clear hb ho22; obtain ⟨Ao24, co24, eo24⟩ := Kd.R_slice HO1213.out
              (first | subst eo24 | (injection eo24 with f1_ f2_ f3_; have f4_ := f1_.symm; have f5_ := f3_.symm; clear f1_ f2_ f3_; subst f4_; subst f5_))
              refine hK.out _ _ ⟨HS0_, HS1_⟩ (fun hHeld => ?_); clear hK K; refine normZ 32 ?_; refine last_ (i := 9) (N := some 33) (bT 12 10) rfl rfl (one_of HT_.out Zi) (by decide) (fun K hK => ?_); refine value_ (w1 := ?_) (v := ?_) (by rfl) rfl ?_ ?_; rotate_left 2
              ·go_simp
               constructor
               ·rfl
               ·rfl
              refine hK.out _ _ ?_; clear hK K; refine normZ 33 ?_; refine last_ (i := 10) (N := some 34) (bT 12 11) rfl rfl (one_of HT_.out Zi) (by decide) (fun K hK => ?_); refine Kd.S_append_step (Kd.slice 2 (Kd.int .i64)) (w0 := w) w.heap.size (by rfl) (.tmp 24) (.tmp 33) 51 33 (.slice none 0 0) 24 rfl Try.underlying51 info33 rfl (by decide) (by omega) u3 x3_2 y1211 [.slice Ao24 y1211.length co24] (fun k_ => some k_ ≠ (.slice (some ad1208) t1205.length co13 : Value).ownBlock) (fun k_ => some k_ = (.slice Ao24 y1211.length co24 : Value).ownBlock) rfl rfl ?aP (fun k_ hk_ => ((Kd.R_mono (ok' := fun k_ => ((fun k_ => some k_ ≠ (.slice (some ad1208) t1205.length co13 : Value).ownBlock)) k_ ∧ some k_ ≠ (u3 : Value).ownBlock) (Kd.R_apart' (Kd.R_apart' (HO1213.out) (Kd.S_typed HO_18.out) (by decide)) (Kd.S_typed HO_3.out) (by decide)) (fun k_ hk => ⟨hk.1.2, hk.2⟩))).1 k_ hk_.symm) ?aF ?aO ?aB ?aS ?aL ?_
              (case aP => exact Kd.M_row (Kd.R_mono (Kd.R_tight rfl (Kd.R_mono (ok' := fun k_ => ((fun k_ => some k_ ≠ (.slice (some ad1208) t1205.length co13 : Value).ownBlock)) k_ ∧ some k_ ≠ (u3 : Value).ownBlock) (Kd.R_apart' (Kd.R_apart' (HO1213.out) (Kd.S_typed HO_18.out) (by decide)) (Kd.S_typed HO_3.out) (by decide)) (fun k_ hk => ⟨hk.1.2, hk.2⟩))) (fun _ h_ => h_)))
              (case aB => exact (have z0_ := GE1202; have z1_ := GE1204; Zr))
              (case aF => exact (fun k_ hk => Kd.fresh' (Kd.S_lt (have z0_ := HO_18; Zae)) k_ hk))
              (case aO => exact (by (with_reducible repeat (first | apply Kd.S_alloc | apply Kd.S_drewN | apply Kd.S_drew)); exact Kd.S_mono HO_3.out (fun k_ hk => ⟨hk.1, fun e_ => hk.2 e_⟩)))
              (case aS => exact (below_size (have z0_ := GE1202; have z1_ := GE1204; Zr)))
              (case aL => have := LMc19.out; omega)
              intro v1215 w23 ho hb hg hat; rw [← Ny1214.out] at ho; replace HO_18 := am_ (Kd.S_after (ok := (fun k_ => some k_ ≠ (.slice Ao24 y1211.length co24 : Value).ownBlock)) (by (with_reducible repeat (first | apply Kd.S_alloc | apply Kd.S_drewN | apply Kd.S_drew)); exact Kd.S_mono HO_18.out (fun _ hk => ⟨hk.2, hk.1⟩)) hg hat); replace BK1202 := am_ (blk_grown (g := gb1202) (o := .cells #[.slice A0_0 l0_0.length c0_0, .slice A0_1 l0_1.length c0_1, .slice (some ad1203) l0_2.length c0_2] 28 (0, 0)) (have z0_ := BK1202; Zs) hg (Kd.S_ne HO_3.out BK1202.out (by decide))); replace BK1204 := am_ (blk_grown (g := gb1204) (o := .cells #[.int .i64 ((rd_T39 l0_2 x11_1).f0), .int .i64 ((rd_T39 l0_2 x11_1).f1), .string ((rd_T39 l0_2 x11_1).f2), .int .i64 ((rd_T39 l0_2 x11_1).f3)] 39 (0, 0)) (have z0_ := BK1204; Zs) hg (Kd.S_ne HO_3.out BK1204.out (by decide))); replace HL1208_0 := am_ (Kd.R_after (ok := (fun k_ => some k_ ≠ (.slice (some ad1208) t1205.length co13 : Value).ownBlock ∧ some k_ ≠ (.slice Ao24 y1211.length co24 : Value).ownBlock)) (by (with_reducible repeat (first | apply Kd.R_alloc | apply Kd.R_drewN | apply Kd.R_drew)); exact Kd.R_mono HL1208_0.out (fun _ hk => ⟨⟨hk.1.2, hk.2⟩, hk.1.1⟩)) hg hat); replace HB := am_ (hb); replace HO1216 := am_ (ho); clear HO_3 HO1213; clear ho hb hg hat; refine hK.out _ _ ?_; clear hK K; refine normZ 34 ?_; refine pureZ HT_ 11 (some 3) (bT 12 12) ?_; refine done_ (done_of HT_.out Zi) ?_
              try go_wp2
              go_roundg k2
              case measure => have := HK1.out; have := HK2.out; omega
              case rel => exact ⟨(y1214), (wrap64 (x20_2 + 1)), Za, H', ⟨by have := HK1.out; have := HK2.out; omega⟩, ⟨(have z0_ := HO1216; Zae)⟩, ⟨by (with_reducible repeat (first | apply Kd.S_alloc | apply Kd.S_drewN | apply Kd.S_drew)); exact Kd.S_mono HO_18.out (fun _ hk => hk.2)⟩, ⟨(have z0_ := BK1202; Zs)⟩, ⟨(have z0_ := BK1204; Zs)⟩, ⟨(have z0_ := GE1202; have z1_ := GE1204; Zr)⟩⟩
             ·rw [if_neg c19] at H
              exact absurd H (by simp)
            ·rw [if_neg c18] at H
             exact absurd H (by simp)
           ·rw [if_neg c17] at H
            exact absurd H (by simp)
          ·rw [if_neg c16] at H
           exact absurd H (by simp)
         ·rw [if_neg c15] at H
          exact absurd H (by simp)
        ·rw [if_neg c14] at H
         have c14b0 := decide_eq_false c14; clear c14; have H' := am_ H; clear H
         go_wp2
         go_roundg k2
         case measure => have := HK1.out; have := HK2.out; omega
         case rel => exact ⟨(x3_2), (wrap64 (x11_1 + 1)), Za, H', ⟨by have := HK1.out; have := HK2.out; omega⟩, ⟨by (with_reducible repeat (first | apply Kd.S_alloc | apply Kd.S_drewN | apply Kd.S_drew)); exact Kd.S_mono HO_3.out (fun _ hk => trivial)⟩, ⟨(have z0_ := BK1202; Zs)⟩, ⟨(have z0_ := GE1202; have z1_ := GE1204; Zr)⟩⟩
     ·rw [if_neg c6] at H
      exact absurd H (by simp)
    ·rw [if_neg c5] at H
     exact absurd H (by simp)
   ·rw [if_neg c4] at H
    have c4b0 := decide_eq_false c4; clear c4; obtain rfl := Option.some.inj H
    go_wp2
    go_ret
    exact ⟨_, Zg, (have z0_ := HO_3; Zae), (have z0_ := GE1202; Zk)⟩
def impl_WindowsOf.f (k : Nat) (l0_0 : List (S104)) (l0_1 : List (S62)) (l0_2 : List (S39)) : Option ((List (List Int)) × Int) := (impl_IsShow.f k l0_0 l0_1 l0_2).bind fun t1258 => (if t1258 = true then ((impl_windowsOf.f k l0_0 l0_1 l0_2).bind fun t1259 => (some (t1259, 0))) else (some (([] : List (List Int)), 1)))
set_option maxHeartbeats 8000000 in
set_option maxRecDepth 100000 in
theorem impl_WindowsOf.calls (k : Nat) (A0_0 : Option Addr) (c0_0 : Nat) (l0_0 : List (S104)) (A0_1 : Option Addr) (c0_1 : Nat) (l0_1 : List (S62)) (A0_2 : Option Addr) (c0_2 : Nat) (l0_2 : List (S39)) (r1 : List (List Int)) (r2 : Int) (w : World) (hr0_0 : Kd.C k104 w A0_0 l0_0.length l0_0) (hc0_0 : l0_0.length ≤ c0_0) (hr0_1 : Kd.C k62 w A0_1 l0_1.length l0_1) (hc0_1 : l0_1.length ≤ c0_1) (hr0_2 : Kd.C k39 w A0_2 l0_2.length l0_2) (hc0_2 : l0_2.length ≤ c0_2) (h : impl_WindowsOf.f k l0_0 l0_1 l0_2 = some (r1, r2)) :
  Calls Try.prog 39 #[.agg #[.slice A0_0 l0_0.length c0_0, .slice A0_1 l0_1.length c0_1, .slice A0_2 l0_2.length c0_2]] w fun e w' => ∃ v0_ : Value, e = .returned (.tuple #[v0_, .int .i64 r2]) ∧ Kd.S (Kd.slice 2 (Kd.int .i64)) 33 w' w.heap.size (fun _ => True) v0_ r1 ∧ Below w.heap.size w w' := by
 have hu28 := Try.underlying28; have HR0_0 := am_ hr0_0; have HC0_0 := am_ hc0_0; clear hr0_0 hc0_0; have HR0_1 := am_ hr0_1; have HC0_1 := am_ hc0_1; clear hr0_1 hc0_1; have HR0_2 := am_ hr0_2; have HC0_2 := am_ hc0_2; clear hr0_2 hc0_2; have HB := am_ (Below.refl w.heap.size w); have H : ((impl_IsShow.f k l0_0 l0_1 l0_2).bind fun t1258 => (if t1258 = true then ((impl_windowsOf.f k l0_0 l0_1 l0_2).bind fun t1259 => (some (t1259, 0))) else (some (([] : List (List Int)), 1)))) = some (r1, r2) := h; clear h; replace H := Option.bind_eq_some_iff.mp H; obtain ⟨t1258, A20, H⟩ := H; have A2 := am_ A20; clear A20
 by_cases c3 : t1258 = true
 ·subst c3
  have H1 : ((impl_windowsOf.f k l0_0 l0_1 l0_2).bind fun t1259 => (some (t1259, 0))) = some (r1, r2) := by rw [if_pos rfl] at H; exact H
  clear H; have H := H1; clear H1; replace H := Option.bind_eq_some_iff.mp H; obtain ⟨t1259, A40, H⟩ := H; have A4 := am_ A40; clear A40; simp only [Option.some.injEq, Prod.mk.injEq] at H; obtain ⟨rfl, rfl⟩ := H
  go_enter Try.func39, Try.ntmps39
  go_wp2_with (first | ((with_reducible refine gate_dst (N := 1) rfl ?_); refine boxZ 1 #[.slice A0_0 l0_0.length c0_0, .slice A0_1 l0_1.length c0_1, .slice A0_2 l0_2.length c0_2] 28 ?_; intro gb1257 hg w5 hbox hb; replace BK1257 := am_ (hbox); replace GW1257 := am_ ((Zh : w.heap.size ≤ gb1257)); replace GE1257 := GW1257; replace HB := (bsZ Zf hb); clear hb hbox hg; refine ci3 BK1257 ?_; intros) | ((with_reducible refine gate_callee (f := 25) rfl ?_); refine goesL_ (some 5) rfl rfl Try.func25 Zi rfl #[.agg #[.slice A0_0 l0_0.length c0_0, .slice A0_1 l0_1.length c0_1, .slice A0_2 l0_2.length c0_2]] rfl Zj ?_; (with_reducible refine (impl_IsShow.calls k _ _ l0_0 _ _ l0_1 _ _ l0_2 true _ ?side1 ?side2 ?side3 ?side4 ?side5 ?side6 A2.out).mono ?_); (case side1 => exact (have z0_ := HR0_0; Zq)); (case side2 => exact HC0_0.out); (case side3 => exact (have z0_ := HR0_1; Zq)); (case side4 => exact HC0_1.out); (case side5 => exact (have z0_ := HR0_2; Zq)); (case side6 => exact HC0_2.out); rintro e w7 ⟨rfl, hb⟩; refine ⟨_, rfl, ?_⟩; replace BK1257 := (have z0_ := BK1257; bkZ hb); replace HB := (bsZ (have z0_ := GE1257; Zk) hb); (try clear hb); (try clear hb2); (try clear hk); (try clear hi); refine ci3 BK1257 ?_; intros) | ((with_reducible refine gate_callee (f := 77) rfl ?_); refine goesL_ (some 8) rfl rfl Try.func77 Zi rfl #[.agg #[.slice A0_0 l0_0.length c0_0, .slice A0_1 l0_1.length c0_1, .slice A0_2 l0_2.length c0_2]] rfl Zj ?_; (with_reducible refine (impl_windowsOf.calls k _ _ l0_0 _ _ l0_1 _ _ l0_2 t1259 _ ?side1 ?side2 ?side3 ?side4 ?side5 ?side6 A4.out).mono ?_); (case side1 => exact (have z0_ := HR0_0; Zq)); (case side2 => exact HC0_0.out); (case side3 => exact (have z0_ := HR0_1; Zq)); (case side4 => exact HC0_1.out); (case side5 => exact (have z0_ := HR0_2; Zq)); (case side6 => exact HC0_2.out); rintro e w9 ⟨v1260, rfl, ho0, hb⟩; refine ⟨_, rfl, ?_⟩; replace HO1261 := am_ (Kd.S_lower ho0 (below_size (have z0_ := GE1257; Zk))); replace BK1257 := (have z0_ := BK1257; bkZ hb); replace HB := (bsZ (have z0_ := GE1257; Zk) hb); (try clear hb); (try clear hb2); (try clear hk); (try clear hi); (try clear ho0)))
  go_ret2
  exact ⟨_, Zg, (have z0_ := HO1261; Zae), (have z0_ := GE1257; Zk)⟩
 ·replace c3 := Bool.eq_false_iff.mpr c3
  subst c3
  have H1 : (some (([] : List (List Int)), 1)) = some (r1, r2) := by rw [if_neg (show ¬ (false = true) by decide)] at H; exact H
  clear H; have H := H1; clear H1; simp only [Option.some.injEq, Prod.mk.injEq] at H; obtain ⟨rfl, rfl⟩ := H
  go_enter Try.func39, Try.ntmps39
  go_wp2_with (first | ((with_reducible refine gate_dst (N := 1) rfl ?_); refine boxZ 1 #[.slice A0_0 l0_0.length c0_0, .slice A0_1 l0_1.length c0_1, .slice A0_2 l0_2.length c0_2] 28 ?_; intro gb1257 hg w10 hbox hb; replace BK1257 := am_ (hbox); replace GW1257 := am_ ((Zh : w.heap.size ≤ gb1257)); replace GE1257 := GW1257; replace HB := (bsZ Zf hb); clear hb hbox hg; refine ci3 BK1257 ?_; intros) | ((with_reducible refine gate_callee (f := 25) rfl ?_); refine goesL_ (some 5) rfl rfl Try.func25 Zi rfl #[.agg #[.slice A0_0 l0_0.length c0_0, .slice A0_1 l0_1.length c0_1, .slice A0_2 l0_2.length c0_2]] rfl Zj ?_; (with_reducible refine (impl_IsShow.calls k _ _ l0_0 _ _ l0_1 _ _ l0_2 false _ ?side1 ?side2 ?side3 ?side4 ?side5 ?side6 A2.out).mono ?_); (case side1 => exact (have z0_ := HR0_0; Zq)); (case side2 => exact HC0_0.out); (case side3 => exact (have z0_ := HR0_1; Zq)); (case side4 => exact HC0_1.out); (case side5 => exact (have z0_ := HR0_2; Zq)); (case side6 => exact HC0_2.out); rintro e w12 ⟨rfl, hb⟩; refine ⟨_, rfl, ?_⟩; replace BK1257 := (have z0_ := BK1257; bkZ hb); replace HB := (bsZ (have z0_ := GE1257; Zk) hb); (try clear hb); (try clear hb2); (try clear hk); (try clear hi)))
  go_ret2
  exact ⟨_, Zg, Zad, (have z0_ := GE1257; Zk)⟩
def spec_l01In.f (a0 : Int) (a1 : Int) (a2 : Int) : Option (Bool) := if a0 ≥ a1 then (some (decide (a0 ≤ a2))) else (some false)
set_option maxHeartbeats 8000000 in
set_option maxRecDepth 100000 in
theorem spec_l01In.calls (a0 : Int) (a1 : Int) (a2 : Int) (r : Bool) (w : World) (h : spec_l01In.f a0 a1 a2 = some r) :
  Calls Try.prog 57 #[.int .i64 a0, .int .i64 a1, .int .i64 a2] w fun e w' => e = .returned (.bool r) ∧ Drawn0 w w' := by
 have H : (if a0 ≥ a1 then (some (decide (a0 ≤ a2))) else (some false)) = some r := h; clear h
 by_cases c4 : a0 ≥ a1
 ·rw [if_pos c4] at H
  have c4b0 : decide (a1 ≤ a0) = true := decide_eq_true c4; clear c4; obtain rfl := Option.some.inj H
  go_enter Try.func57, Try.ntmps57
  go_wp2
  go_ret
  exact ⟨Za, Zb⟩
 ·rw [if_neg c4] at H
  have c4b0 : decide (a1 ≤ a0) = false := decide_eq_false c4; clear c4; obtain rfl := Option.some.inj H
  go_enter Try.func57, Try.ntmps57
  go_wp2
  go_ret
  exact ⟨Za, Zb⟩
def spec_l03Find.l0 : Nat → List (S62) → ByteArray → Int → Option (Int)
 | 0, _, _, _ => none
 | k + 1, x0, x1, x5 => if x5 < (x0.length : Int) then (if 0 ≤ x5 then (if ((rd_T62 x0 x5).f0).toList = x1.toList then (some x5) else (spec_l03Find.l0 k x0 x1 (wrap64 (x5 + 1)))) else (none)) else (some (-1))
def spec_l03Find.f (k : Nat) (l0 : List (S62)) (a1 : ByteArray) : Option (Int) := spec_l03Find.l0 k l0 a1 0
set_option maxHeartbeats 8000000 in
set_option maxRecDepth 100000 in
theorem spec_l03Find.calls (k : Nat) (A0 : Option Addr) (c0 : Nat) (l0 : List (S62)) (a1 : ByteArray) (r : Int) (w : World) (hr0 : Kd.C k62 w A0 l0.length l0) (hc0 : l0.length ≤ c0) (h : spec_l03Find.f k l0 a1 = some r) :
  Calls Try.prog 64 #[.slice A0 l0.length c0, .string a1] w fun e w' => e = .returned (.int .i64 r) ∧ Drawn0 w w' := by
 have HR0 := am_ hr0; have HC0 := am_ hc0; clear hr0 hc0; have H : (spec_l03Find.l0 k l0 a1 0) = some r := h; clear h; have H' := am_ H; clear H
 go_enter Try.func64, Try.ntmps64
 go_wp2
 go_loopg [5] k (fun kq v5 w' => ∃ (x5_1 : Int), v5 = .int .i64 x5_1 ∧ Aside0 (spec_l03Find.l0 kq l0 a1 x5_1 = some r) ∧ Aside0 (kq ≤ k) ∧ Drawn0 w w')
 case atStart => exact ⟨(0), Za, H', ⟨Nat.le_refl _⟩, Zb⟩
 case round =>
  clear H'
  try clear p2
  obtain ⟨x5_1, rfl, HA, HK1, ⟨m1, rfl⟩⟩ := hrel
  cases gk with
  | zero => exact absurd HA.out (by simp [spec_l03Find.l0])
  | succ k1 =>
   have H := HA.out; clear HA; simp only [spec_l03Find.l0] at H
   by_cases c3 : x5_1 < (l0.length : Int)
   ·rw [if_pos c3] at H
    have c3b0 := decide_eq_true c3; clear c3
    by_cases c4 : 0 ≤ x5_1
    ·rw [if_pos c4] at H
     have c4b0 := decide_eq_true c4; clear c4
     by_cases c5 : ((rd_T62 l0 x5_1).f0).toList = a1.toList
     ·rw [if_pos c5] at H
      have c5b0 := beq_iff_eq.mpr c5; have c5b1 := bne_eq_false_iff_eq.mpr c5; clear c5; obtain rfl := Option.some.inj H; have p105 : 0 ≤ (x5_1 : Int) := of_decide_eq_true Zc; have q105 : x5_1 < (l0.length : Int) := of_decide_eq_true Zc; obtain ⟨ad105, e105, hx105_0, hx105_1, hx105_2, hx105_3, hx105_4, hx105_5, hx105_6, hx105_7, hx105_8⟩ := at_T62 HR0.out x5_1 p105 q105
      cases e105
      replace p105 := eq_true p105; replace q105 := eq_true q105
      go_wp2
      go_ret
      exact ⟨Za, Zb⟩
     ·rw [if_neg c5] at H
      have c5b0 := beq_eq_false_iff_ne.mpr c5; have c5b1 := bne_iff_ne.mpr c5; have H' := am_ H; clear H; have p105 : 0 ≤ (x5_1 : Int) := of_decide_eq_true Zc; have q105 : x5_1 < (l0.length : Int) := of_decide_eq_true Zc; obtain ⟨ad105, e105, hx105_0, hx105_1, hx105_2, hx105_3, hx105_4, hx105_5, hx105_6, hx105_7, hx105_8⟩ := at_T62 HR0.out x5_1 p105 q105
      cases e105
      replace p105 := eq_true p105; replace q105 := eq_true q105
      go_wp2
      go_roundg k1
      case measure => have := HK1.out; omega
      case rel => exact ⟨(wrap64 (x5_1 + 1)), Za, H', ⟨Zd⟩, Zb⟩
    ·rw [if_neg c4] at H
     exact absurd H (by simp)
   ·rw [if_neg c3] at H
    have c3b0 := decide_eq_false c3; clear c3; obtain rfl := Option.some.inj H
    go_wp2
    go_ret
    exact ⟨Za, Zb⟩
def spec_IsWord.l0 : Nat → ByteArray → Int → Option (Bool)
 | 0, _, _ => none
 | k + 1, x0, x3 => if x3 < (x0.size : Int) then (if 0 ≤ x3 then (if (bt x0 x3) < 97 then (some false) else (if (bt x0 x3) > 122 then (some false) else (spec_IsWord.l0 k x0 (wrap64 (x3 + 1))))) else (none)) else ((spec_l01In.f (x0.size : Int) 1 16).bind fun t106 => (some t106))
def spec_IsWord.f (k : Nat) (a0 : ByteArray) : Option (Bool) := spec_IsWord.l0 k a0 0
set_option maxHeartbeats 8000000 in
set_option maxRecDepth 100000 in
theorem spec_IsWord.calls (k : Nat) (a0 : ByteArray) (r : Bool) (w : World) (h : spec_IsWord.f k a0 = some r) :
  Calls Try.prog 101 #[.string a0] w fun e w' => e = .returned (.bool r) ∧ Drawn0 w w' := by
 have H : (spec_IsWord.l0 k a0 0) = some r := h; clear h; have H' := am_ H; clear H
 go_enter Try.func101, Try.ntmps101
 go_wp2
 go_loopg [3] k (fun kq v3 w' => ∃ (x3_1 : Int), v3 = .int .i64 x3_1 ∧ Aside0 (spec_IsWord.l0 kq a0 x3_1 = some r) ∧ Aside0 (kq ≤ k) ∧ Drawn0 w w')
 case atStart => exact ⟨(0), Za, H', ⟨Nat.le_refl _⟩, Zb⟩
 case round =>
  clear H'
  try clear c1
  obtain ⟨x3_1, rfl, HA, HK1, ⟨m1, rfl⟩⟩ := hrel
  cases gk with
  | zero => exact absurd HA.out (by simp [spec_IsWord.l0])
  | succ k1 =>
   have H := HA.out; clear HA; simp only [spec_IsWord.l0] at H
   by_cases c2 : x3_1 < (a0.size : Int)
   ·rw [if_pos c2] at H
    have c2b0 := decide_eq_true c2; clear c2
    by_cases c3 : 0 ≤ x3_1
    ·rw [if_pos c3] at H
     have c3b0 := decide_eq_true c3; clear c3
     by_cases c5 : (bt a0 x3_1) < 97
     ·rw [if_pos c5] at H
      have c5b0 := decide_eq_true c5; clear c5; obtain rfl := Option.some.inj H; have p4 : 0 ≤ (x3_1 : Int) := of_decide_eq_true Zc; have q4 : x3_1 < (a0.size : Int) := of_decide_eq_true Zc; have hx4 := bt_at a0 x3_1; replace p4 := eq_true p4; replace q4 := eq_true q4
      go_wp2
      go_ret
      exact ⟨Za, Zb⟩
     ·rw [if_neg c5] at H
      have c5b0 := decide_eq_false c5; clear c5
      by_cases c7 : (bt a0 x3_1) > 122
      ·rw [if_pos c7] at H
       have c7b0 : decide (122 < (bt a0 x3_1)) = true := decide_eq_true c7; clear c7; obtain rfl := Option.some.inj H; have p4 : 0 ≤ (x3_1 : Int) := of_decide_eq_true Zc; have q4 : x3_1 < (a0.size : Int) := of_decide_eq_true Zc; have hx4 := bt_at a0 x3_1; replace p4 := eq_true p4; replace q4 := eq_true q4; have p6 : 0 ≤ (x3_1 : Int) := of_decide_eq_true Zc; have q6 : x3_1 < (a0.size : Int) := of_decide_eq_true Zc; have hx6 := bt_at a0 x3_1; replace p6 := eq_true p6; replace q6 := eq_true q6
       go_wp2
       go_ret
       exact ⟨Za, Zb⟩
      ·rw [if_neg c7] at H
       have c7b0 : decide (122 < (bt a0 x3_1)) = false := decide_eq_false c7; clear c7; have H' := am_ H; clear H; have p4 : 0 ≤ (x3_1 : Int) := of_decide_eq_true Zc; have q4 : x3_1 < (a0.size : Int) := of_decide_eq_true Zc; have hx4 := bt_at a0 x3_1; replace p4 := eq_true p4; replace q4 := eq_true q4; have p6 : 0 ≤ (x3_1 : Int) := of_decide_eq_true Zc; have q6 : x3_1 < (a0.size : Int) := of_decide_eq_true Zc; have hx6 := bt_at a0 x3_1; replace p6 := eq_true p6; replace q6 := eq_true q6
       go_wp2
       go_roundg k1
       case measure => have := HK1.out; omega
       case rel => exact ⟨(wrap64 (x3_1 + 1)), Za, H', ⟨Zd⟩, Zb⟩
    ·rw [if_neg c3] at H
     exact absurd H (by simp)
   ·rw [if_neg c2] at H
    have c2b0 := decide_eq_false c2; clear c2; replace H := Option.bind_eq_some_iff.mp H; obtain ⟨t106, A80, H⟩ := H; have A8 := am_ A80; clear A80; obtain rfl := Option.some.inj H
    go_wp2_with (first | ((with_reducible refine gate_callee (f := 57) rfl ?_); refine goesL_ (some 22) rfl rfl Try.func57 Zi rfl #[.int .i64 (a0.size : Int), .int .i64 1, .int .i64 16] rfl Zj ?_; (with_reducible refine (spec_l01In.calls (a0.size : Int) 1 16 t106 _ A8.out).mono ?_); rintro e w' ⟨rfl, ⟨nd, rfl⟩⟩; refine ⟨_, rfl, ?_⟩))
    go_ret
    exact ⟨Za, Zb⟩
def spec_IsArticle.f (k : Nat) (a0_0 : ByteArray) (a0_1 : Int) (a0_2 : Int) (a0_3 : Int) (a0_4 : Int) (a0_5 : Int) (a0_6 : Int) (a0_7 : Int) (a0_8 : Int) : Option (Bool) := (spec_IsWord.f k a0_0).bind fun t108 => (if t108 = true then ((spec_l01In.f a0_1 0 3).bind fun t109 => (if t109 = true then ((spec_l01In.f a0_2 20 300).bind fun t110 => (if t110 = true then ((spec_l01In.f a0_3 0 10000).bind fun t111 => (if t111 = true then ((spec_l01In.f a0_4 0 a0_3).bind fun t112 => (if t112 = true then ((spec_l01In.f a0_5 1 50).bind fun t113 => (if t113 = true then ((spec_l01In.f a0_6 0 10000).bind fun t114 => (if t114 = true then ((spec_l01In.f a0_7 1 100000).bind fun t115 => (if t115 = true then ((spec_l01In.f a0_8 0 3).bind fun t116 => (some t116)) else (some false))) else (some false))) else (some false))) else (some false))) else (some false))) else (some false))) else (some false))) else (some false))
set_option maxHeartbeats 8000000 in
set_option maxRecDepth 100000 in
theorem spec_IsArticle.calls (k : Nat) (a0_0 : ByteArray) (a0_1 : Int) (a0_2 : Int) (a0_3 : Int) (a0_4 : Int) (a0_5 : Int) (a0_6 : Int) (a0_7 : Int) (a0_8 : Int) (r : Bool) (w : World) (h : spec_IsArticle.f k a0_0 a0_1 a0_2 a0_3 a0_4 a0_5 a0_6 a0_7 a0_8 = some r) :
  Calls Try.prog 94 #[.agg #[.string a0_0, .int .i64 a0_1, .int .i64 a0_2, .int .i64 a0_3, .int .i64 a0_4, .int .i64 a0_5, .int .i64 a0_6, .int .i64 a0_7, .int .i64 a0_8]] w fun e w' => e = .returned (.bool r) ∧ Below w.heap.size w w' := by
 have hu62 := Try.underlying62; have HB := am_ (Below.refl w.heap.size w); have H : ((spec_IsWord.f k a0_0).bind fun t108 => (if t108 = true then ((spec_l01In.f a0_1 0 3).bind fun t109 => (if t109 = true then ((spec_l01In.f a0_2 20 300).bind fun t110 => (if t110 = true then ((spec_l01In.f a0_3 0 10000).bind fun t111 => (if t111 = true then ((spec_l01In.f a0_4 0 a0_3).bind fun t112 => (if t112 = true then ((spec_l01In.f a0_5 1 50).bind fun t113 => (if t113 = true then ((spec_l01In.f a0_6 0 10000).bind fun t114 => (if t114 = true then ((spec_l01In.f a0_7 1 100000).bind fun t115 => (if t115 = true then ((spec_l01In.f a0_8 0 3).bind fun t116 => (some t116)) else (some false))) else (some false))) else (some false))) else (some false))) else (some false))) else (some false))) else (some false))) else (some false))) = some r := h; clear h; replace H := Option.bind_eq_some_iff.mp H; obtain ⟨t108, A20, H⟩ := H; have A2 := am_ A20; clear A20
 by_cases c3 : t108 = true
 ·subst c3
  have H1 : ((spec_l01In.f a0_1 0 3).bind fun t109 => (if t109 = true then ((spec_l01In.f a0_2 20 300).bind fun t110 => (if t110 = true then ((spec_l01In.f a0_3 0 10000).bind fun t111 => (if t111 = true then ((spec_l01In.f a0_4 0 a0_3).bind fun t112 => (if t112 = true then ((spec_l01In.f a0_5 1 50).bind fun t113 => (if t113 = true then ((spec_l01In.f a0_6 0 10000).bind fun t114 => (if t114 = true then ((spec_l01In.f a0_7 1 100000).bind fun t115 => (if t115 = true then ((spec_l01In.f a0_8 0 3).bind fun t116 => (some t116)) else (some false))) else (some false))) else (some false))) else (some false))) else (some false))) else (some false))) else (some false))) = some r := by rw [if_pos rfl] at H; exact H
  clear H; have H := H1; clear H1; replace H := Option.bind_eq_some_iff.mp H; obtain ⟨t109, A40, H⟩ := H; have A4 := am_ A40; clear A40
  by_cases c5 : t109 = true
  ·subst c5
   have H1 : ((spec_l01In.f a0_2 20 300).bind fun t110 => (if t110 = true then ((spec_l01In.f a0_3 0 10000).bind fun t111 => (if t111 = true then ((spec_l01In.f a0_4 0 a0_3).bind fun t112 => (if t112 = true then ((spec_l01In.f a0_5 1 50).bind fun t113 => (if t113 = true then ((spec_l01In.f a0_6 0 10000).bind fun t114 => (if t114 = true then ((spec_l01In.f a0_7 1 100000).bind fun t115 => (if t115 = true then ((spec_l01In.f a0_8 0 3).bind fun t116 => (some t116)) else (some false))) else (some false))) else (some false))) else (some false))) else (some false))) else (some false))) = some r := by rw [if_pos rfl] at H; exact H
   clear H; have H := H1; clear H1; replace H := Option.bind_eq_some_iff.mp H; obtain ⟨t110, A60, H⟩ := H; have A6 := am_ A60; clear A60
   by_cases c7 : t110 = true
   ·subst c7
    have H1 : ((spec_l01In.f a0_3 0 10000).bind fun t111 => (if t111 = true then ((spec_l01In.f a0_4 0 a0_3).bind fun t112 => (if t112 = true then ((spec_l01In.f a0_5 1 50).bind fun t113 => (if t113 = true then ((spec_l01In.f a0_6 0 10000).bind fun t114 => (if t114 = true then ((spec_l01In.f a0_7 1 100000).bind fun t115 => (if t115 = true then ((spec_l01In.f a0_8 0 3).bind fun t116 => (some t116)) else (some false))) else (some false))) else (some false))) else (some false))) else (some false))) = some r := by rw [if_pos rfl] at H; exact H
    clear H; have H := H1; clear H1; replace H := Option.bind_eq_some_iff.mp H; obtain ⟨t111, A80, H⟩ := H; have A8 := am_ A80; clear A80
    by_cases c9 : t111 = true
    ·subst c9
     have H1 : ((spec_l01In.f a0_4 0 a0_3).bind fun t112 => (if t112 = true then ((spec_l01In.f a0_5 1 50).bind fun t113 => (if t113 = true then ((spec_l01In.f a0_6 0 10000).bind fun t114 => (if t114 = true then ((spec_l01In.f a0_7 1 100000).bind fun t115 => (if t115 = true then ((spec_l01In.f a0_8 0 3).bind fun t116 => (some t116)) else (some false))) else (some false))) else (some false))) else (some false))) = some r := by rw [if_pos rfl] at H; exact H
     clear H; have H := H1; clear H1; replace H := Option.bind_eq_some_iff.mp H; obtain ⟨t112, A100, H⟩ := H; have A10 := am_ A100; clear A100
     by_cases c11 : t112 = true
     ·subst c11
      have H1 : ((spec_l01In.f a0_5 1 50).bind fun t113 => (if t113 = true then ((spec_l01In.f a0_6 0 10000).bind fun t114 => (if t114 = true then ((spec_l01In.f a0_7 1 100000).bind fun t115 => (if t115 = true then ((spec_l01In.f a0_8 0 3).bind fun t116 => (some t116)) else (some false))) else (some false))) else (some false))) = some r := by rw [if_pos rfl] at H; exact H
      clear H; have H := H1; clear H1; replace H := Option.bind_eq_some_iff.mp H; obtain ⟨t113, A120, H⟩ := H; have A12 := am_ A120; clear A120
      by_cases c13 : t113 = true
      ·subst c13
       have H1 : ((spec_l01In.f a0_6 0 10000).bind fun t114 => (if t114 = true then ((spec_l01In.f a0_7 1 100000).bind fun t115 => (if t115 = true then ((spec_l01In.f a0_8 0 3).bind fun t116 => (some t116)) else (some false))) else (some false))) = some r := by rw [if_pos rfl] at H; exact H
       clear H; have H := H1; clear H1; replace H := Option.bind_eq_some_iff.mp H; obtain ⟨t114, A140, H⟩ := H; have A14 := am_ A140; clear A140
       by_cases c15 : t114 = true
       ·subst c15
        have H1 : ((spec_l01In.f a0_7 1 100000).bind fun t115 => (if t115 = true then ((spec_l01In.f a0_8 0 3).bind fun t116 => (some t116)) else (some false))) = some r := by rw [if_pos rfl] at H; exact H
        clear H; have H := H1; clear H1; replace H := Option.bind_eq_some_iff.mp H; obtain ⟨t115, A160, H⟩ := H; have A16 := am_ A160; clear A160
        by_cases c17 : t115 = true
        ·subst c17
         have H1 : ((spec_l01In.f a0_8 0 3).bind fun t116 => (some t116)) = some r := by rw [if_pos rfl] at H; exact H
         clear H; have H := H1; clear H1; replace H := Option.bind_eq_some_iff.mp H; obtain ⟨t116, A180, H⟩ := H; have A18 := am_ A180; clear A180; obtain rfl := Option.some.inj H
         go_enter Try.func94, Try.ntmps94
         go_wp2_with (first | ((with_reducible refine gate_dst (N := 1) rfl ?_); refine boxZ 1 #[.string a0_0, .int .i64 a0_1, .int .i64 a0_2, .int .i64 a0_3, .int .i64 a0_4, .int .i64 a0_5, .int .i64 a0_6, .int .i64 a0_7, .int .i64 a0_8] 62 ?_; intro gb107 hg w19 hbox hb; replace BK107 := am_ (hbox); replace GW107 := am_ ((Zh : w.heap.size ≤ gb107)); replace GE107 := GW107; replace HB := (bsZ Zf hb); clear hb hbox hg; refine ci9 BK107 ?_; intros) | ((with_reducible refine gate_callee (f := 101) rfl ?_); refine goesL_ (some 5) rfl rfl Try.func101 Zi rfl #[.string a0_0] rfl Zj ?_; (with_reducible refine (spec_IsWord.calls k a0_0 true _ A2.out).mono ?_); rintro e w' ⟨rfl, ⟨nd, rfl⟩⟩; refine ⟨_, rfl, ?_⟩) | (go_at_call 57; (with_reducible refine (spec_l01In.calls a0_1 0 3 true _ A4.out).mono ?_); rintro e w' ⟨rfl, ⟨nd, rfl⟩⟩) | (go_at_call 57; (with_reducible refine (spec_l01In.calls a0_2 20 300 true _ A6.out).mono ?_); rintro e w' ⟨rfl, ⟨nd, rfl⟩⟩) | (go_at_call 57; (with_reducible refine (spec_l01In.calls a0_3 0 10000 true _ A8.out).mono ?_); rintro e w' ⟨rfl, ⟨nd, rfl⟩⟩) | (go_at_call 57; (with_reducible refine (spec_l01In.calls a0_4 0 a0_3 true _ A10.out).mono ?_); rintro e w' ⟨rfl, ⟨nd, rfl⟩⟩) | (go_at_call 57; (with_reducible refine (spec_l01In.calls a0_5 1 50 true _ A12.out).mono ?_); rintro e w' ⟨rfl, ⟨nd, rfl⟩⟩) | (go_at_call 57; (with_reducible refine (spec_l01In.calls a0_6 0 10000 true _ A14.out).mono ?_); rintro e w' ⟨rfl, ⟨nd, rfl⟩⟩) | (go_at_call 57; (with_reducible refine (spec_l01In.calls a0_7 1 100000 true _ A16.out).mono ?_); rintro e w' ⟨rfl, ⟨nd, rfl⟩⟩) | (go_at_call 57; (with_reducible refine (spec_l01In.calls a0_8 0 3 t116 _ A18.out).mono ?_); rintro e w' ⟨rfl, ⟨nd, rfl⟩⟩))
         go_ret
         exact ⟨Zg, (have z0_ := GE107; Zk)⟩
        ·replace c17 := Bool.eq_false_iff.mpr c17
         subst c17
         have H1 : (some false) = some r := by rw [if_neg (show ¬ (false = true) by decide)] at H; exact H
         clear H; have H := H1; clear H1; obtain rfl := Option.some.inj H
         go_enter Try.func94, Try.ntmps94
         go_wp2_with (first | ((with_reducible refine gate_dst (N := 1) rfl ?_); refine boxZ 1 #[.string a0_0, .int .i64 a0_1, .int .i64 a0_2, .int .i64 a0_3, .int .i64 a0_4, .int .i64 a0_5, .int .i64 a0_6, .int .i64 a0_7, .int .i64 a0_8] 62 ?_; intro gb107 hg w21 hbox hb; replace BK107 := am_ (hbox); replace GW107 := am_ ((Zh : w.heap.size ≤ gb107)); replace GE107 := GW107; replace HB := (bsZ Zf hb); clear hb hbox hg; refine ci9 BK107 ?_; intros) | ((with_reducible refine gate_callee (f := 101) rfl ?_); refine goesL_ (some 5) rfl rfl Try.func101 Zi rfl #[.string a0_0] rfl Zj ?_; (with_reducible refine (spec_IsWord.calls k a0_0 true _ A2.out).mono ?_); rintro e w' ⟨rfl, ⟨nd, rfl⟩⟩; refine ⟨_, rfl, ?_⟩) | (go_at_call 57; (with_reducible refine (spec_l01In.calls a0_1 0 3 true _ A4.out).mono ?_); rintro e w' ⟨rfl, ⟨nd, rfl⟩⟩) | (go_at_call 57; (with_reducible refine (spec_l01In.calls a0_2 20 300 true _ A6.out).mono ?_); rintro e w' ⟨rfl, ⟨nd, rfl⟩⟩) | (go_at_call 57; (with_reducible refine (spec_l01In.calls a0_3 0 10000 true _ A8.out).mono ?_); rintro e w' ⟨rfl, ⟨nd, rfl⟩⟩) | (go_at_call 57; (with_reducible refine (spec_l01In.calls a0_4 0 a0_3 true _ A10.out).mono ?_); rintro e w' ⟨rfl, ⟨nd, rfl⟩⟩) | (go_at_call 57; (with_reducible refine (spec_l01In.calls a0_5 1 50 true _ A12.out).mono ?_); rintro e w' ⟨rfl, ⟨nd, rfl⟩⟩) | (go_at_call 57; (with_reducible refine (spec_l01In.calls a0_6 0 10000 true _ A14.out).mono ?_); rintro e w' ⟨rfl, ⟨nd, rfl⟩⟩) | (go_at_call 57; (with_reducible refine (spec_l01In.calls a0_7 1 100000 false _ A16.out).mono ?_); rintro e w' ⟨rfl, ⟨nd, rfl⟩⟩))
         go_ret
         exact ⟨Zg, (have z0_ := GE107; Zk)⟩
       ·replace c15 := Bool.eq_false_iff.mpr c15
        subst c15
        have H1 : (some false) = some r := by rw [if_neg (show ¬ (false = true) by decide)] at H; exact H
        clear H; have H := H1; clear H1; obtain rfl := Option.some.inj H
        go_enter Try.func94, Try.ntmps94
        go_wp2_with (first | ((with_reducible refine gate_dst (N := 1) rfl ?_); refine boxZ 1 #[.string a0_0, .int .i64 a0_1, .int .i64 a0_2, .int .i64 a0_3, .int .i64 a0_4, .int .i64 a0_5, .int .i64 a0_6, .int .i64 a0_7, .int .i64 a0_8] 62 ?_; intro gb107 hg w23 hbox hb; replace BK107 := am_ (hbox); replace GW107 := am_ ((Zh : w.heap.size ≤ gb107)); replace GE107 := GW107; replace HB := (bsZ Zf hb); clear hb hbox hg; refine ci9 BK107 ?_; intros) | ((with_reducible refine gate_callee (f := 101) rfl ?_); refine goesL_ (some 5) rfl rfl Try.func101 Zi rfl #[.string a0_0] rfl Zj ?_; (with_reducible refine (spec_IsWord.calls k a0_0 true _ A2.out).mono ?_); rintro e w' ⟨rfl, ⟨nd, rfl⟩⟩; refine ⟨_, rfl, ?_⟩) | (go_at_call 57; (with_reducible refine (spec_l01In.calls a0_1 0 3 true _ A4.out).mono ?_); rintro e w' ⟨rfl, ⟨nd, rfl⟩⟩) | (go_at_call 57; (with_reducible refine (spec_l01In.calls a0_2 20 300 true _ A6.out).mono ?_); rintro e w' ⟨rfl, ⟨nd, rfl⟩⟩) | (go_at_call 57; (with_reducible refine (spec_l01In.calls a0_3 0 10000 true _ A8.out).mono ?_); rintro e w' ⟨rfl, ⟨nd, rfl⟩⟩) | (go_at_call 57; (with_reducible refine (spec_l01In.calls a0_4 0 a0_3 true _ A10.out).mono ?_); rintro e w' ⟨rfl, ⟨nd, rfl⟩⟩) | (go_at_call 57; (with_reducible refine (spec_l01In.calls a0_5 1 50 true _ A12.out).mono ?_); rintro e w' ⟨rfl, ⟨nd, rfl⟩⟩) | (go_at_call 57; (with_reducible refine (spec_l01In.calls a0_6 0 10000 false _ A14.out).mono ?_); rintro e w' ⟨rfl, ⟨nd, rfl⟩⟩))
        go_ret
        exact ⟨Zg, (have z0_ := GE107; Zk)⟩
      ·replace c13 := Bool.eq_false_iff.mpr c13
       subst c13
       have H1 : (some false) = some r := by rw [if_neg (show ¬ (false = true) by decide)] at H; exact H
       clear H; have H := H1; clear H1; obtain rfl := Option.some.inj H
       go_enter Try.func94, Try.ntmps94
       go_wp2_with (first | ((with_reducible refine gate_dst (N := 1) rfl ?_); refine boxZ 1 #[.string a0_0, .int .i64 a0_1, .int .i64 a0_2, .int .i64 a0_3, .int .i64 a0_4, .int .i64 a0_5, .int .i64 a0_6, .int .i64 a0_7, .int .i64 a0_8] 62 ?_; intro gb107 hg w25 hbox hb; replace BK107 := am_ (hbox); replace GW107 := am_ ((Zh : w.heap.size ≤ gb107)); replace GE107 := GW107; replace HB := (bsZ Zf hb); clear hb hbox hg; refine ci9 BK107 ?_; intros) | ((with_reducible refine gate_callee (f := 101) rfl ?_); refine goesL_ (some 5) rfl rfl Try.func101 Zi rfl #[.string a0_0] rfl Zj ?_; (with_reducible refine (spec_IsWord.calls k a0_0 true _ A2.out).mono ?_); rintro e w' ⟨rfl, ⟨nd, rfl⟩⟩; refine ⟨_, rfl, ?_⟩) | (go_at_call 57; (with_reducible refine (spec_l01In.calls a0_1 0 3 true _ A4.out).mono ?_); rintro e w' ⟨rfl, ⟨nd, rfl⟩⟩) | (go_at_call 57; (with_reducible refine (spec_l01In.calls a0_2 20 300 true _ A6.out).mono ?_); rintro e w' ⟨rfl, ⟨nd, rfl⟩⟩) | (go_at_call 57; (with_reducible refine (spec_l01In.calls a0_3 0 10000 true _ A8.out).mono ?_); rintro e w' ⟨rfl, ⟨nd, rfl⟩⟩) | (go_at_call 57; (with_reducible refine (spec_l01In.calls a0_4 0 a0_3 true _ A10.out).mono ?_); rintro e w' ⟨rfl, ⟨nd, rfl⟩⟩) | (go_at_call 57; (with_reducible refine (spec_l01In.calls a0_5 1 50 false _ A12.out).mono ?_); rintro e w' ⟨rfl, ⟨nd, rfl⟩⟩))
       go_ret
       exact ⟨Zg, (have z0_ := GE107; Zk)⟩
     ·replace c11 := Bool.eq_false_iff.mpr c11
      subst c11
      have H1 : (some false) = some r := by rw [if_neg (show ¬ (false = true) by decide)] at H; exact H
      clear H; have H := H1; clear H1; obtain rfl := Option.some.inj H
      go_enter Try.func94, Try.ntmps94
      go_wp2_with (first | ((with_reducible refine gate_dst (N := 1) rfl ?_); refine boxZ 1 #[.string a0_0, .int .i64 a0_1, .int .i64 a0_2, .int .i64 a0_3, .int .i64 a0_4, .int .i64 a0_5, .int .i64 a0_6, .int .i64 a0_7, .int .i64 a0_8] 62 ?_; intro gb107 hg w27 hbox hb; replace BK107 := am_ (hbox); replace GW107 := am_ ((Zh : w.heap.size ≤ gb107)); replace GE107 := GW107; replace HB := (bsZ Zf hb); clear hb hbox hg; refine ci9 BK107 ?_; intros) | ((with_reducible refine gate_callee (f := 101) rfl ?_); refine goesL_ (some 5) rfl rfl Try.func101 Zi rfl #[.string a0_0] rfl Zj ?_; (with_reducible refine (spec_IsWord.calls k a0_0 true _ A2.out).mono ?_); rintro e w' ⟨rfl, ⟨nd, rfl⟩⟩; refine ⟨_, rfl, ?_⟩) | (go_at_call 57; (with_reducible refine (spec_l01In.calls a0_1 0 3 true _ A4.out).mono ?_); rintro e w' ⟨rfl, ⟨nd, rfl⟩⟩) | (go_at_call 57; (with_reducible refine (spec_l01In.calls a0_2 20 300 true _ A6.out).mono ?_); rintro e w' ⟨rfl, ⟨nd, rfl⟩⟩) | (go_at_call 57; (with_reducible refine (spec_l01In.calls a0_3 0 10000 true _ A8.out).mono ?_); rintro e w' ⟨rfl, ⟨nd, rfl⟩⟩) | (go_at_call 57; (with_reducible refine (spec_l01In.calls a0_4 0 a0_3 false _ A10.out).mono ?_); rintro e w' ⟨rfl, ⟨nd, rfl⟩⟩))
      go_ret
      exact ⟨Zg, (have z0_ := GE107; Zk)⟩
    ·replace c9 := Bool.eq_false_iff.mpr c9
     subst c9
     have H1 : (some false) = some r := by rw [if_neg (show ¬ (false = true) by decide)] at H; exact H
     clear H; have H := H1; clear H1; obtain rfl := Option.some.inj H
     go_enter Try.func94, Try.ntmps94
     go_wp2_with (first | ((with_reducible refine gate_dst (N := 1) rfl ?_); refine boxZ 1 #[.string a0_0, .int .i64 a0_1, .int .i64 a0_2, .int .i64 a0_3, .int .i64 a0_4, .int .i64 a0_5, .int .i64 a0_6, .int .i64 a0_7, .int .i64 a0_8] 62 ?_; intro gb107 hg w29 hbox hb; replace BK107 := am_ (hbox); replace GW107 := am_ ((Zh : w.heap.size ≤ gb107)); replace GE107 := GW107; replace HB := (bsZ Zf hb); clear hb hbox hg; refine ci9 BK107 ?_; intros) | ((with_reducible refine gate_callee (f := 101) rfl ?_); refine goesL_ (some 5) rfl rfl Try.func101 Zi rfl #[.string a0_0] rfl Zj ?_; (with_reducible refine (spec_IsWord.calls k a0_0 true _ A2.out).mono ?_); rintro e w' ⟨rfl, ⟨nd, rfl⟩⟩; refine ⟨_, rfl, ?_⟩) | (go_at_call 57; (with_reducible refine (spec_l01In.calls a0_1 0 3 true _ A4.out).mono ?_); rintro e w' ⟨rfl, ⟨nd, rfl⟩⟩) | (go_at_call 57; (with_reducible refine (spec_l01In.calls a0_2 20 300 true _ A6.out).mono ?_); rintro e w' ⟨rfl, ⟨nd, rfl⟩⟩) | (go_at_call 57; (with_reducible refine (spec_l01In.calls a0_3 0 10000 false _ A8.out).mono ?_); rintro e w' ⟨rfl, ⟨nd, rfl⟩⟩))
     go_ret
     exact ⟨Zg, (have z0_ := GE107; Zk)⟩
   ·replace c7 := Bool.eq_false_iff.mpr c7
    subst c7
    have H1 : (some false) = some r := by rw [if_neg (show ¬ (false = true) by decide)] at H; exact H
    clear H; have H := H1; clear H1; obtain rfl := Option.some.inj H
    go_enter Try.func94, Try.ntmps94
    go_wp2_with (first | ((with_reducible refine gate_dst (N := 1) rfl ?_); refine boxZ 1 #[.string a0_0, .int .i64 a0_1, .int .i64 a0_2, .int .i64 a0_3, .int .i64 a0_4, .int .i64 a0_5, .int .i64 a0_6, .int .i64 a0_7, .int .i64 a0_8] 62 ?_; intro gb107 hg w31 hbox hb; replace BK107 := am_ (hbox); replace GW107 := am_ ((Zh : w.heap.size ≤ gb107)); replace GE107 := GW107; replace HB := (bsZ Zf hb); clear hb hbox hg; refine ci9 BK107 ?_; intros) | ((with_reducible refine gate_callee (f := 101) rfl ?_); refine goesL_ (some 5) rfl rfl Try.func101 Zi rfl #[.string a0_0] rfl Zj ?_; (with_reducible refine (spec_IsWord.calls k a0_0 true _ A2.out).mono ?_); rintro e w' ⟨rfl, ⟨nd, rfl⟩⟩; refine ⟨_, rfl, ?_⟩) | (go_at_call 57; (with_reducible refine (spec_l01In.calls a0_1 0 3 true _ A4.out).mono ?_); rintro e w' ⟨rfl, ⟨nd, rfl⟩⟩) | (go_at_call 57; (with_reducible refine (spec_l01In.calls a0_2 20 300 false _ A6.out).mono ?_); rintro e w' ⟨rfl, ⟨nd, rfl⟩⟩))
    go_ret
    exact ⟨Zg, (have z0_ := GE107; Zk)⟩
  ·replace c5 := Bool.eq_false_iff.mpr c5
   subst c5
   have H1 : (some false) = some r := by rw [if_neg (show ¬ (false = true) by decide)] at H; exact H
   clear H; have H := H1; clear H1; obtain rfl := Option.some.inj H
   go_enter Try.func94, Try.ntmps94
   go_wp2_with (first | ((with_reducible refine gate_dst (N := 1) rfl ?_); refine boxZ 1 #[.string a0_0, .int .i64 a0_1, .int .i64 a0_2, .int .i64 a0_3, .int .i64 a0_4, .int .i64 a0_5, .int .i64 a0_6, .int .i64 a0_7, .int .i64 a0_8] 62 ?_; intro gb107 hg w33 hbox hb; replace BK107 := am_ (hbox); replace GW107 := am_ ((Zh : w.heap.size ≤ gb107)); replace GE107 := GW107; replace HB := (bsZ Zf hb); clear hb hbox hg; refine ci9 BK107 ?_; intros) | ((with_reducible refine gate_callee (f := 101) rfl ?_); refine goesL_ (some 5) rfl rfl Try.func101 Zi rfl #[.string a0_0] rfl Zj ?_; (with_reducible refine (spec_IsWord.calls k a0_0 true _ A2.out).mono ?_); rintro e w' ⟨rfl, ⟨nd, rfl⟩⟩; refine ⟨_, rfl, ?_⟩) | (go_at_call 57; (with_reducible refine (spec_l01In.calls a0_1 0 3 false _ A4.out).mono ?_); rintro e w' ⟨rfl, ⟨nd, rfl⟩⟩))
   go_ret
   exact ⟨Zg, (have z0_ := GE107; Zk)⟩
 ·replace c3 := Bool.eq_false_iff.mpr c3
  subst c3
  have H1 : (some false) = some r := by rw [if_neg (show ¬ (false = true) by decide)] at H; exact H
  clear H; have H := H1; clear H1; obtain rfl := Option.some.inj H
  go_enter Try.func94, Try.ntmps94
  go_wp2_with (first | ((with_reducible refine gate_dst (N := 1) rfl ?_); refine boxZ 1 #[.string a0_0, .int .i64 a0_1, .int .i64 a0_2, .int .i64 a0_3, .int .i64 a0_4, .int .i64 a0_5, .int .i64 a0_6, .int .i64 a0_7, .int .i64 a0_8] 62 ?_; intro gb107 hg w35 hbox hb; replace BK107 := am_ (hbox); replace GW107 := am_ ((Zh : w.heap.size ≤ gb107)); replace GE107 := GW107; replace HB := (bsZ Zf hb); clear hb hbox hg; refine ci9 BK107 ?_; intros) | ((with_reducible refine gate_callee (f := 101) rfl ?_); refine goesL_ (some 5) rfl rfl Try.func101 Zi rfl #[.string a0_0] rfl Zj ?_; (with_reducible refine (spec_IsWord.calls k a0_0 false _ A2.out).mono ?_); rintro e w' ⟨rfl, ⟨nd, rfl⟩⟩; refine ⟨_, rfl, ?_⟩))
  go_ret
  exact ⟨Zg, (have z0_ := GE107; Zk)⟩
def spec_AreArticles.l0 : Nat → List (S62) → Int → Option (Bool)
 | 0, _, _ => none
 | k + 1, x0, x3 => if x3 < (x0.length : Int) then (if 0 ≤ x3 then ((spec_IsArticle.f k ((rd_T62 x0 x3).f0) ((rd_T62 x0 x3).f1) ((rd_T62 x0 x3).f2) ((rd_T62 x0 x3).f3) ((rd_T62 x0 x3).f4) ((rd_T62 x0 x3).f5) ((rd_T62 x0 x3).f6) ((rd_T62 x0 x3).f7) ((rd_T62 x0 x3).f8)).bind fun t118 => (if t118 = true then (if x3 > 0 then (if 0 ≤ (wrap64 (x3 - 1)) then (if (wrap64 (x3 - 1)) < (x0.length : Int) then (if ((Op.bytesLess (((rd_T62 x0 (wrap64 (x3 - 1))).f0).toList) (((rd_T62 x0 x3).f0).toList)) = true) then (spec_AreArticles.l0 k x0 (wrap64 (x3 + 1))) else (some false)) else (none)) else (none)) else (spec_AreArticles.l0 k x0 (wrap64 (x3 + 1)))) else (some false))) else (none)) else (some (decide ((x0.length : Int) ≤ 12)))
def spec_AreArticles.f (k : Nat) (l0 : List (S62)) : Option (Bool) := spec_AreArticles.l0 k l0 0
def spec_AreArticles.T4 : Bool × List (List Nat × List Nat) := (true, [([], []), ([], []), ([0, 1], [0, 1]), ([2], [2]), ([3], [3]), ([4], [4]), ([5, 4], [5]), ([6], [6]), ([7, 6], [6, 7]), ([8, 6, 6], [6, 8]), ([9], [9]), ([9], [9]), ([11, 9], [9, 11]), ([10, 12, 9], [9, 10, 12]), ([13, 9], [9, 13]), ([14, 9], [9, 14]), ([9], [9]), ([9], [9]), ([16, 17, 9], [9, 16, 17]), ([18, 9], [9, 18]), ([19, 9], [9, 19]), ([15, 20, 9], [9, 15, 20]), ([9, 21, 6], [6, 9, 21]), ([6, 22], [6, 22])])
def spec_AreArticles.B4 : List Nat := [0, 0, 3, 7, 15, 31, 63, 127, 255, 511, 1023, 1023, 3071, 8191, 16383, 32767, 1023, 1023, 197631, 459775, 984063, 2097151, 4194303, 8388607]
theorem spec_AreArticles.tab4 : rtab .any (opsOf Try.f81 4) = spec_AreArticles.T4 := by kernel_rfl
theorem spec_AreArticles.bits4 : waitsOk spec_AreArticles.T4.2 spec_AreArticles.B4 = true := by kernel_rfl
set_option maxHeartbeats 8000000 in
set_option maxRecDepth 100000 in
theorem spec_AreArticles.calls (k : Nat) (A0 : Option Addr) (c0 : Nat) (l0 : List (S62)) (r : Bool) (w : World) (hr0 : Kd.C k62 w A0 l0.length l0) (hc0 : l0.length ≤ c0) (h : spec_AreArticles.f k l0 = some r) :
  Calls Try.prog 81 #[.slice A0 l0.length c0] w fun e w' => e = .returned (.bool r) ∧ Below w.heap.size w w' := by
 have hu62 := Try.underlying62; have HR0 := am_ hr0; have HC0 := am_ hc0; clear hr0 hc0; have HB := am_ (Below.refl w.heap.size w); have H : (spec_AreArticles.l0 k l0 0) = some r := h; clear h; have H' := am_ H; clear H
 go_enter Try.func81, Try.ntmps81
 go_wp2
 go_loopg [3] k (fun kq v3 w' => ∃ (x3_1 : Int), v3 = .int .i64 x3_1 ∧ Aside0 (spec_AreArticles.l0 kq l0 x3_1 = some r) ∧ Aside0 (kq ≤ k) ∧ Aside0 (Below w.heap.size w w'))
 case atStart => exact ⟨(0), Za, H', ⟨Nat.le_refl _⟩, ⟨Zf⟩⟩
 case round =>
  clear H'; obtain ⟨x3_1, rfl, HA, HK1, HB⟩ := hrel
  cases gk with
  | zero => exact absurd HA.out (by simp [spec_AreArticles.l0])
  | succ k1 =>
   have H := HA.out; clear HA; simp only [spec_AreArticles.l0] at H
   by_cases c2 : x3_1 < (l0.length : Int)
   ·rw [if_pos c2] at H
    have c2b0 := decide_eq_true c2; clear c2
    by_cases c3 : 0 ≤ x3_1
    ·rw [if_pos c3] at H
     have c3b0 := decide_eq_true c3; clear c3; replace H := Option.bind_eq_some_iff.mp H; obtain ⟨t118, A40, H⟩ := H; have A4 := am_ A40; clear A40
     by_cases c5 : t118 = true
     ·subst c5
      have H1 : (if x3_1 > 0 then (if 0 ≤ (wrap64 (x3_1 - 1)) then (if (wrap64 (x3_1 - 1)) < (l0.length : Int) then (if ((Op.bytesLess (((rd_T62 l0 (wrap64 (x3_1 - 1))).f0).toList) (((rd_T62 l0 x3_1).f0).toList)) = true) then (spec_AreArticles.l0 k1 l0 (wrap64 (x3_1 + 1))) else (some false)) else (none)) else (none)) else (spec_AreArticles.l0 k1 l0 (wrap64 (x3_1 + 1)))) = some r := by rw [if_pos rfl] at H; exact H
      clear H; have H := H1; clear H1
      by_cases c6 : x3_1 > 0
      ·rw [if_pos c6] at H
       have c6b0 : decide (0 < x3_1) = true := decide_eq_true c6; clear c6; obtain ⟨ji7, hji7⟩ : ∃ j_ : Int, (wrap64 (x3_1 - 1)) = j_ := ⟨_, rfl⟩
       replace H : (if 0 ≤ (ji7) then (if (ji7) < (l0.length : Int) then (if ((Op.bytesLess (((rd_T62 l0 (ji7)).f0).toList) (((rd_T62 l0 x3_1).f0).toList)) = true) then (spec_AreArticles.l0 k1 l0 (wrap64 (x3_1 + 1))) else (some false)) else (none)) else (none)) = some r := by first | (rw [hji7] at H; exact H) | (simp only [hji7] at H ⊢; exact H)
       (try rw [hji7] at A4)
       have hji7w : (IntKind.i64.wrap (x3_1 - 1)) = ji7 := (i64_w _).trans hji7
       by_cases c8 : 0 ≤ (ji7)
       ·rw [if_pos c8] at H
        have c8b0 := decide_eq_true c8; clear c8
        by_cases c9 : (ji7) < (l0.length : Int)
        ·rw [if_pos c9] at H
         have c9b0 := decide_eq_true c9; clear c9
         by_cases c10 : ((Op.bytesLess (((rd_T62 l0 (ji7)).f0).toList) (((rd_T62 l0 x3_1).f0).toList)) = true)
         ·rw [if_pos c10] at H
          have c10b0 : (Op.bytesLess (((rd_T62 l0 (ji7)).f0).toList) (((rd_T62 l0 x3_1).f0).toList)) = true := c10; clear c10; have H' := am_ H; clear H
          try go_wp2
          replace HB := am_ (below_drew1 HB.out); have p117 : 0 ≤ (x3_1 : Int) := of_decide_eq_true Zc; have q117 : x3_1 < (l0.length : Int) := of_decide_eq_true Zc; obtain ⟨ad117, e117, hx117_0, hx117_1, hx117_2, hx117_3, hx117_4, hx117_5, hx117_6, hx117_7, hx117_8⟩ := at_T62 HR0.out x3_1 p117 q117; have hw117_8 := hx117_8; have hw117_7 := hx117_7; have hw117_6 := hx117_6; have hw117_5 := hx117_5; have hw117_4 := hx117_4; have hw117_3 := hx117_3; have hw117_2 := hx117_2; have hw117_1 := hx117_1; have hw117_0 := hx117_0
          cases e117
          replace hx117_0 := cbH HB hx117_0; replace hx117_1 := cbH HB hx117_1; replace hx117_2 := cbH HB hx117_2; replace hx117_3 := cbH HB hx117_3; replace hx117_4 := cbH HB hx117_4; replace hx117_5 := cbH HB hx117_5; replace hx117_6 := cbH HB hx117_6; replace hx117_7 := cbH HB hx117_7; replace hx117_8 := cbH HB hx117_8; replace p117 := eq_true p117; replace q117 := eq_true q117; have p119 : 0 ≤ ((ji7) : Int) := of_decide_eq_true Zc; have q119 : (ji7) < (l0.length : Int) := of_decide_eq_true Zc; obtain ⟨ad119, e119, hx119_0, hx119_1, hx119_2, hx119_3, hx119_4, hx119_5, hx119_6, hx119_7, hx119_8⟩ := at_T62 HR0.out (ji7) p119 q119; have hw119_8 := hx119_8; have hw119_7 := hx119_7; have hw119_6 := hx119_6; have hw119_5 := hx119_5; have hw119_4 := hx119_4; have hw119_3 := hx119_3; have hw119_2 := hx119_2; have hw119_1 := hx119_1; have hw119_0 := hx119_0; obtain rfl : ad117 = ad119 := (by injection e119); replace hx119_0 := cbH HB hx119_0; replace hx119_1 := cbH HB hx119_1; replace hx119_2 := cbH HB hx119_2; replace hx119_3 := cbH HB hx119_3; replace hx119_4 := cbH HB hx119_4; replace hx119_5 := cbH HB hx119_5; replace hx119_6 := cbH HB hx119_6; replace hx119_7 := cbH HB hx119_7; replace hx119_8 := cbH HB hx119_8; replace p119 := eq_true p119; replace q119 := eq_true q119; have p120 : 0 ≤ (x3_1 : Int) := of_decide_eq_true Zc; have q120 : x3_1 < (l0.length : Int) := of_decide_eq_true Zc; obtain ⟨ad120, e120, hx120_0, hx120_1, hx120_2, hx120_3, hx120_4, hx120_5, hx120_6, hx120_7, hx120_8⟩ := at_T62 HR0.out x3_1 p120 q120; have hw120_8 := hx120_8; have hw120_7 := hx120_7; have hw120_6 := hx120_6; have hw120_5 := hx120_5; have hw120_4 := hx120_4; have hw120_3 := hx120_3; have hw120_2 := hx120_2; have hw120_1 := hx120_1; have hw120_0 := hx120_0; obtain rfl : ad117 = ad120 := (by injection e120); replace hx120_0 := cbH HB hx120_0; replace hx120_1 := cbH HB hx120_1; replace hx120_2 := cbH HB hx120_2; replace hx120_3 := cbH HB hx120_3; replace hx120_4 := cbH HB hx120_4; replace hx120_5 := cbH HB hx120_5; replace hx120_6 := cbH HB hx120_6; replace hx120_7 := cbH HB hx120_7; replace hx120_8 := cbH HB hx120_8; replace p120 := eq_true p120; replace q120 := eq_true q120; refine start_ (n := 24) (S := fun w' => w'.cell? (ad117.add ((x3_1).toNat * 9)) = some (.string ((rd_T62 l0 x3_1).f0)) ∧ w'.cell? ⟨(ad117.add ((x3_1).toNat * 9)).block, (ad117.add ((x3_1).toNat * 9)).off + 1, none⟩ = some (.int .i64 ((rd_T62 l0 x3_1).f1)) ∧ w'.cell? ⟨(ad117.add ((x3_1).toNat * 9)).block, (ad117.add ((x3_1).toNat * 9)).off + 2, none⟩ = some (.int .i64 ((rd_T62 l0 x3_1).f2)) ∧ w'.cell? ⟨(ad117.add ((x3_1).toNat * 9)).block, (ad117.add ((x3_1).toNat * 9)).off + 3, none⟩ = some (.int .i64 ((rd_T62 l0 x3_1).f3)) ∧ w'.cell? ⟨(ad117.add ((x3_1).toNat * 9)).block, (ad117.add ((x3_1).toNat * 9)).off + 4, none⟩ = some (.int .i64 ((rd_T62 l0 x3_1).f4)) ∧ w'.cell? ⟨(ad117.add ((x3_1).toNat * 9)).block, (ad117.add ((x3_1).toNat * 9)).off + 5, none⟩ = some (.int .i64 ((rd_T62 l0 x3_1).f5)) ∧ w'.cell? ⟨(ad117.add ((x3_1).toNat * 9)).block, (ad117.add ((x3_1).toNat * 9)).off + 6, none⟩ = some (.int .i64 ((rd_T62 l0 x3_1).f6)) ∧ w'.cell? ⟨(ad117.add ((x3_1).toNat * 9)).block, (ad117.add ((x3_1).toNat * 9)).off + 7, none⟩ = some (.int .i64 ((rd_T62 l0 x3_1).f7)) ∧ w'.cell? ⟨(ad117.add ((x3_1).toNat * 9)).block, (ad117.add ((x3_1).toNat * 9)).off + 8, none⟩ = some (.int .i64 ((rd_T62 l0 x3_1).f8)) ∧ w'.cell? (ad117.add (((ji7)).toNat * 9)) = some (.string ((rd_T62 l0 (ji7)).f0)) ∧ w'.cell? ⟨(ad117.add (((ji7)).toNat * 9)).block, (ad117.add (((ji7)).toNat * 9)).off + 1, none⟩ = some (.int .i64 ((rd_T62 l0 (ji7)).f1)) ∧ w'.cell? ⟨(ad117.add (((ji7)).toNat * 9)).block, (ad117.add (((ji7)).toNat * 9)).off + 2, none⟩ = some (.int .i64 ((rd_T62 l0 (ji7)).f2)) ∧ w'.cell? ⟨(ad117.add (((ji7)).toNat * 9)).block, (ad117.add (((ji7)).toNat * 9)).off + 3, none⟩ = some (.int .i64 ((rd_T62 l0 (ji7)).f3)) ∧ w'.cell? ⟨(ad117.add (((ji7)).toNat * 9)).block, (ad117.add (((ji7)).toNat * 9)).off + 4, none⟩ = some (.int .i64 ((rd_T62 l0 (ji7)).f4)) ∧ w'.cell? ⟨(ad117.add (((ji7)).toNat * 9)).block, (ad117.add (((ji7)).toNat * 9)).off + 5, none⟩ = some (.int .i64 ((rd_T62 l0 (ji7)).f5)) ∧ w'.cell? ⟨(ad117.add (((ji7)).toNat * 9)).block, (ad117.add (((ji7)).toNat * 9)).off + 6, none⟩ = some (.int .i64 ((rd_T62 l0 (ji7)).f6)) ∧ w'.cell? ⟨(ad117.add (((ji7)).toNat * 9)).block, (ad117.add (((ji7)).toNat * 9)).off + 7, none⟩ = some (.int .i64 ((rd_T62 l0 (ji7)).f7)) ∧ w'.cell? ⟨(ad117.add (((ji7)).toNat * 9)).block, (ad117.add (((ji7)).toNat * 9)).off + 8, none⟩ = some (.int .i64 ((rd_T62 l0 (ji7)).f8)) ∧ w'.cell? (ad117.add ((x3_1).toNat * 9)) = some (.string ((rd_T62 l0 x3_1).f0)) ∧ w'.cell? ⟨(ad117.add ((x3_1).toNat * 9)).block, (ad117.add ((x3_1).toNat * 9)).off + 1, none⟩ = some (.int .i64 ((rd_T62 l0 x3_1).f1)) ∧ w'.cell? ⟨(ad117.add ((x3_1).toNat * 9)).block, (ad117.add ((x3_1).toNat * 9)).off + 2, none⟩ = some (.int .i64 ((rd_T62 l0 x3_1).f2)) ∧ w'.cell? ⟨(ad117.add ((x3_1).toNat * 9)).block, (ad117.add ((x3_1).toNat * 9)).off + 3, none⟩ = some (.int .i64 ((rd_T62 l0 x3_1).f3)) ∧ w'.cell? ⟨(ad117.add ((x3_1).toNat * 9)).block, (ad117.add ((x3_1).toNat * 9)).off + 4, none⟩ = some (.int .i64 ((rd_T62 l0 x3_1).f4)) ∧ w'.cell? ⟨(ad117.add ((x3_1).toNat * 9)).block, (ad117.add ((x3_1).toNat * 9)).off + 5, none⟩ = some (.int .i64 ((rd_T62 l0 x3_1).f5)) ∧ w'.cell? ⟨(ad117.add ((x3_1).toNat * 9)).block, (ad117.add ((x3_1).toNat * 9)).off + 6, none⟩ = some (.int .i64 ((rd_T62 l0 x3_1).f6)) ∧ w'.cell? ⟨(ad117.add ((x3_1).toNat * 9)).block, (ad117.add ((x3_1).toNat * 9)).off + 7, none⟩ = some (.int .i64 ((rd_T62 l0 x3_1).f7)) ∧ w'.cell? ⟨(ad117.add ((x3_1).toNat * 9)).block, (ad117.add ((x3_1).toNat * 9)).off + 8, none⟩ = some (.int .i64 ((rd_T62 l0 x3_1).f8))) (ds := []) (bT 24 0) Zi rfl rfl ⟨(cbH HB hw117_0 :), (cbH HB hw117_1 :), (cbH HB hw117_2 :), (cbH HB hw117_3 :), (cbH HB hw117_4 :), (cbH HB hw117_5 :), (cbH HB hw117_6 :), (cbH HB hw117_7 :), (cbH HB hw117_8 :), (cbH HB hw119_0 :), (cbH HB hw119_1 :), (cbH HB hw119_2 :), (cbH HB hw119_3 :), (cbH HB hw119_4 :), (cbH HB hw119_5 :), (cbH HB hw119_6 :), (cbH HB hw119_7 :), (cbH HB hw119_8 :), (cbH HB hw120_0 :), (cbH HB hw120_1 :), (cbH HB hw120_2 :), (cbH HB hw120_3 :), (cbH HB hw120_4 :), (cbH HB hw120_5 :), (cbH HB hw120_6 :), (cbH HB hw120_7 :), (cbH HB hw120_8 :)⟩ (fun hHeld => ?_); refine with_tabW spec_AreArticles.tab4 spec_AreArticles.bits4 (fun HT_ HW_ => ?_)
          generalize wr.drew = w11 at HB hx117_0 hx117_1 hx117_2 hx117_3 hx117_4 hx117_5 hx117_6 hx117_7 hx117_8 hx119_0 hx119_1 hx119_2 hx119_3 hx119_4 hx119_5 hx119_6 hx119_7 hx119_8 hx120_0 hx120_1 hx120_2 hx120_3 hx120_4 hx120_5 hx120_6 hx120_7 hx120_8 hHeld ⊢; refine pureZ HT_ 0 (some 10) (bT 24 1) ?_; refine pureZ HT_ 1 (some 11) (bT 24 2) ?_; refine pureZ HT_ 2 (some 12) (bT 24 3) ?_; refine takeZ27 HT_ HW_ 3 (some 13) (bT 24 4) hHeld ?_; refine one_ (i := 4) (N := some 14) (bT 24 5) rfl rfl (one_of HT_.out Zi) (by decide) (fun K hK => ?_); refine goes_ Try.func94 Zi rfl #[.agg #[.string ((rd_T62 l0 x3_1).f0), .int .i64 ((rd_T62 l0 x3_1).f1), .int .i64 ((rd_T62 l0 x3_1).f2), .int .i64 ((rd_T62 l0 x3_1).f3), .int .i64 ((rd_T62 l0 x3_1).f4), .int .i64 ((rd_T62 l0 x3_1).f5), .int .i64 ((rd_T62 l0 x3_1).f6), .int .i64 ((rd_T62 l0 x3_1).f7), .int .i64 ((rd_T62 l0 x3_1).f8)]] (by rfl) rfl rfl Zj ?_
          with_reducible refine (spec_IsArticle.calls k1 ((rd_T62 l0 x3_1).f0) ((rd_T62 l0 x3_1).f1) ((rd_T62 l0 x3_1).f2) ((rd_T62 l0 x3_1).f3) ((rd_T62 l0 x3_1).f4) ((rd_T62 l0 x3_1).f5) ((rd_T62 l0 x3_1).f6) ((rd_T62 l0 x3_1).f7) ((rd_T62 l0 x3_1).f8) true _ A4.out).mono ?_
          rintro e w12 ⟨rfl, hb⟩; refine ⟨_, rfl, ?_⟩; replace HB := (bsZ Zf hb)
          (try clear hb)
          (try clear hb2)
          (try clear hk)
          (try clear hi)
          refine hK.out _ _ ⟨(cbH HB hw117_0 :), (cbH HB hw117_1 :), (cbH HB hw117_2 :), (cbH HB hw117_3 :), (cbH HB hw117_4 :), (cbH HB hw117_5 :), (cbH HB hw117_6 :), (cbH HB hw117_7 :), (cbH HB hw117_8 :), (cbH HB hw119_0 :), (cbH HB hw119_1 :), (cbH HB hw119_2 :), (cbH HB hw119_3 :), (cbH HB hw119_4 :), (cbH HB hw119_5 :), (cbH HB hw119_6 :), (cbH HB hw119_7 :), (cbH HB hw119_8 :), (cbH HB hw120_0 :), (cbH HB hw120_1 :), (cbH HB hw120_2 :), (cbH HB hw120_3 :), (cbH HB hw120_4 :), (cbH HB hw120_5 :), (cbH HB hw120_6 :), (cbH HB hw120_7 :), (cbH HB hw120_8 :)⟩ (fun hHeld => ?_); clear hK K; refine normZ 14 ?_; refine pureZ HT_ 5 (some 15) (bT 24 6) ?_; refine pureZ HT_ 6 (some 16) (bT 24 7) ?_; refine pureZ HT_ 7 (some 17) (bT 24 8) ?_; refine pureZ HT_ 8 (some 18) (bT 24 9) ?_; refine pureZ HT_ 9 (some 19) (bT 24 10) ?_; refine pureZ HT_ 10 (some 20) (bT 24 11) ?_; refine pureZ HT_ 11 (some 21) (bT 24 12) ?_; refine pureZ HT_ 12 (some 22) (bT 24 13) ?_; refine pureZ HT_ 13 (some 23) (bT 24 14) ?_; refine pureZ HT_ 14 (some 24) (bT 24 15) ?_; refine pureZ HT_ 16 (some 26) #[true, true, true, true, true, true, true, true, true, true, true, true, true, true, true, false, true, false, false, false, false, false, false, false] ?_; refine pureZ HT_ 17 (some 27) #[true, true, true, true, true, true, true, true, true, true, true, true, true, true, true, false, true, true, false, false, false, false, false, false] ?_; refine pureZ HT_ 18 (some 28) #[true, true, true, true, true, true, true, true, true, true, true, true, true, true, true, false, true, true, true, false, false, false, false, false] ?_; refine pureZ HT_ 19 (some 29) #[true, true, true, true, true, true, true, true, true, true, true, true, true, true, true, false, true, true, true, true, false, false, false, false] ?_; refine takeZ27 HT_ HW_ 15 (some 25) (bT 24 20) hHeld ?_; refine takeZ27 HT_ HW_ 20 (some 30) (bT 24 21) hHeld ?_; refine pureZ HT_ 21 (some 31) (bT 24 22) ?_; refine pureZ HT_ 22 (some 32) (bT 24 23) ?_; refine pureZ HT_ 23 (some 33) (bT 24 24) ?_; refine done_ (done_of HT_.out Zi) ?_
          try go_wp2
          go_roundg k1
          case measure => have := HK1.out; omega
          case rel => exact ⟨(wrap64 (x3_1 + 1)), Za, H', ⟨Zd⟩, ⟨Zf⟩⟩
         ·rw [if_neg c10] at H
          have c10b0 : (Op.bytesLess (((rd_T62 l0 (ji7)).f0).toList) (((rd_T62 l0 x3_1).f0).toList)) = false := by simpa using c10
          clear c10; obtain rfl := Option.some.inj H
          try go_wp2
          replace HB := am_ (below_drew1 HB.out); have p117 : 0 ≤ (x3_1 : Int) := of_decide_eq_true Zc; have q117 : x3_1 < (l0.length : Int) := of_decide_eq_true Zc; obtain ⟨ad117, e117, hx117_0, hx117_1, hx117_2, hx117_3, hx117_4, hx117_5, hx117_6, hx117_7, hx117_8⟩ := at_T62 HR0.out x3_1 p117 q117; have hw117_8 := hx117_8; have hw117_7 := hx117_7; have hw117_6 := hx117_6; have hw117_5 := hx117_5; have hw117_4 := hx117_4; have hw117_3 := hx117_3; have hw117_2 := hx117_2; have hw117_1 := hx117_1; have hw117_0 := hx117_0
          cases e117
          replace hx117_0 := cbH HB hx117_0; replace hx117_1 := cbH HB hx117_1; replace hx117_2 := cbH HB hx117_2; replace hx117_3 := cbH HB hx117_3; replace hx117_4 := cbH HB hx117_4; replace hx117_5 := cbH HB hx117_5; replace hx117_6 := cbH HB hx117_6; replace hx117_7 := cbH HB hx117_7; replace hx117_8 := cbH HB hx117_8; replace p117 := eq_true p117; replace q117 := eq_true q117; have p119 : 0 ≤ ((ji7) : Int) := of_decide_eq_true Zc; have q119 : (ji7) < (l0.length : Int) := of_decide_eq_true Zc; obtain ⟨ad119, e119, hx119_0, hx119_1, hx119_2, hx119_3, hx119_4, hx119_5, hx119_6, hx119_7, hx119_8⟩ := at_T62 HR0.out (ji7) p119 q119; have hw119_8 := hx119_8; have hw119_7 := hx119_7; have hw119_6 := hx119_6; have hw119_5 := hx119_5; have hw119_4 := hx119_4; have hw119_3 := hx119_3; have hw119_2 := hx119_2; have hw119_1 := hx119_1; have hw119_0 := hx119_0; obtain rfl : ad117 = ad119 := (by injection e119); replace hx119_0 := cbH HB hx119_0; replace hx119_1 := cbH HB hx119_1; replace hx119_2 := cbH HB hx119_2; replace hx119_3 := cbH HB hx119_3; replace hx119_4 := cbH HB hx119_4; replace hx119_5 := cbH HB hx119_5; replace hx119_6 := cbH HB hx119_6; replace hx119_7 := cbH HB hx119_7; replace hx119_8 := cbH HB hx119_8; replace p119 := eq_true p119; replace q119 := eq_true q119; have p120 : 0 ≤ (x3_1 : Int) := of_decide_eq_true Zc; have q120 : x3_1 < (l0.length : Int) := of_decide_eq_true Zc; obtain ⟨ad120, e120, hx120_0, hx120_1, hx120_2, hx120_3, hx120_4, hx120_5, hx120_6, hx120_7, hx120_8⟩ := at_T62 HR0.out x3_1 p120 q120; have hw120_8 := hx120_8; have hw120_7 := hx120_7; have hw120_6 := hx120_6; have hw120_5 := hx120_5; have hw120_4 := hx120_4; have hw120_3 := hx120_3; have hw120_2 := hx120_2; have hw120_1 := hx120_1; have hw120_0 := hx120_0; obtain rfl : ad117 = ad120 := (by injection e120); replace hx120_0 := cbH HB hx120_0; replace hx120_1 := cbH HB hx120_1; replace hx120_2 := cbH HB hx120_2; replace hx120_3 := cbH HB hx120_3; replace hx120_4 := cbH HB hx120_4; replace hx120_5 := cbH HB hx120_5; replace hx120_6 := cbH HB hx120_6; replace hx120_7 := cbH HB hx120_7; replace hx120_8 := cbH HB hx120_8; replace p120 := eq_true p120; replace q120 := eq_true q120; refine start_ (n := 24) (S := fun w' => w'.cell? (ad117.add ((x3_1).toNat * 9)) = some (.string ((rd_T62 l0 x3_1).f0)) ∧ w'.cell? ⟨(ad117.add ((x3_1).toNat * 9)).block, (ad117.add ((x3_1).toNat * 9)).off + 1, none⟩ = some (.int .i64 ((rd_T62 l0 x3_1).f1)) ∧ w'.cell? ⟨(ad117.add ((x3_1).toNat * 9)).block, (ad117.add ((x3_1).toNat * 9)).off + 2, none⟩ = some (.int .i64 ((rd_T62 l0 x3_1).f2)) ∧ w'.cell? ⟨(ad117.add ((x3_1).toNat * 9)).block, (ad117.add ((x3_1).toNat * 9)).off + 3, none⟩ = some (.int .i64 ((rd_T62 l0 x3_1).f3)) ∧ w'.cell? ⟨(ad117.add ((x3_1).toNat * 9)).block, (ad117.add ((x3_1).toNat * 9)).off + 4, none⟩ = some (.int .i64 ((rd_T62 l0 x3_1).f4)) ∧ w'.cell? ⟨(ad117.add ((x3_1).toNat * 9)).block, (ad117.add ((x3_1).toNat * 9)).off + 5, none⟩ = some (.int .i64 ((rd_T62 l0 x3_1).f5)) ∧ w'.cell? ⟨(ad117.add ((x3_1).toNat * 9)).block, (ad117.add ((x3_1).toNat * 9)).off + 6, none⟩ = some (.int .i64 ((rd_T62 l0 x3_1).f6)) ∧ w'.cell? ⟨(ad117.add ((x3_1).toNat * 9)).block, (ad117.add ((x3_1).toNat * 9)).off + 7, none⟩ = some (.int .i64 ((rd_T62 l0 x3_1).f7)) ∧ w'.cell? ⟨(ad117.add ((x3_1).toNat * 9)).block, (ad117.add ((x3_1).toNat * 9)).off + 8, none⟩ = some (.int .i64 ((rd_T62 l0 x3_1).f8)) ∧ w'.cell? (ad117.add (((ji7)).toNat * 9)) = some (.string ((rd_T62 l0 (ji7)).f0)) ∧ w'.cell? ⟨(ad117.add (((ji7)).toNat * 9)).block, (ad117.add (((ji7)).toNat * 9)).off + 1, none⟩ = some (.int .i64 ((rd_T62 l0 (ji7)).f1)) ∧ w'.cell? ⟨(ad117.add (((ji7)).toNat * 9)).block, (ad117.add (((ji7)).toNat * 9)).off + 2, none⟩ = some (.int .i64 ((rd_T62 l0 (ji7)).f2)) ∧ w'.cell? ⟨(ad117.add (((ji7)).toNat * 9)).block, (ad117.add (((ji7)).toNat * 9)).off + 3, none⟩ = some (.int .i64 ((rd_T62 l0 (ji7)).f3)) ∧ w'.cell? ⟨(ad117.add (((ji7)).toNat * 9)).block, (ad117.add (((ji7)).toNat * 9)).off + 4, none⟩ = some (.int .i64 ((rd_T62 l0 (ji7)).f4)) ∧ w'.cell? ⟨(ad117.add (((ji7)).toNat * 9)).block, (ad117.add (((ji7)).toNat * 9)).off + 5, none⟩ = some (.int .i64 ((rd_T62 l0 (ji7)).f5)) ∧ w'.cell? ⟨(ad117.add (((ji7)).toNat * 9)).block, (ad117.add (((ji7)).toNat * 9)).off + 6, none⟩ = some (.int .i64 ((rd_T62 l0 (ji7)).f6)) ∧ w'.cell? ⟨(ad117.add (((ji7)).toNat * 9)).block, (ad117.add (((ji7)).toNat * 9)).off + 7, none⟩ = some (.int .i64 ((rd_T62 l0 (ji7)).f7)) ∧ w'.cell? ⟨(ad117.add (((ji7)).toNat * 9)).block, (ad117.add (((ji7)).toNat * 9)).off + 8, none⟩ = some (.int .i64 ((rd_T62 l0 (ji7)).f8)) ∧ w'.cell? (ad117.add ((x3_1).toNat * 9)) = some (.string ((rd_T62 l0 x3_1).f0)) ∧ w'.cell? ⟨(ad117.add ((x3_1).toNat * 9)).block, (ad117.add ((x3_1).toNat * 9)).off + 1, none⟩ = some (.int .i64 ((rd_T62 l0 x3_1).f1)) ∧ w'.cell? ⟨(ad117.add ((x3_1).toNat * 9)).block, (ad117.add ((x3_1).toNat * 9)).off + 2, none⟩ = some (.int .i64 ((rd_T62 l0 x3_1).f2)) ∧ w'.cell? ⟨(ad117.add ((x3_1).toNat * 9)).block, (ad117.add ((x3_1).toNat * 9)).off + 3, none⟩ = some (.int .i64 ((rd_T62 l0 x3_1).f3)) ∧ w'.cell? ⟨(ad117.add ((x3_1).toNat * 9)).block, (ad117.add ((x3_1).toNat * 9)).off + 4, none⟩ = some (.int .i64 ((rd_T62 l0 x3_1).f4)) ∧ w'.cell? ⟨(ad117.add ((x3_1).toNat * 9)).block, (ad117.add ((x3_1).toNat * 9)).off + 5, none⟩ = some (.int .i64 ((rd_T62 l0 x3_1).f5)) ∧ w'.cell? ⟨(ad117.add ((x3_1).toNat * 9)).block, (ad117.add ((x3_1).toNat * 9)).off + 6, none⟩ = some (.int .i64 ((rd_T62 l0 x3_1).f6)) ∧ w'.cell? ⟨(ad117.add ((x3_1).toNat * 9)).block, (ad117.add ((x3_1).toNat * 9)).off + 7, none⟩ = some (.int .i64 ((rd_T62 l0 x3_1).f7)) ∧ w'.cell? ⟨(ad117.add ((x3_1).toNat * 9)).block, (ad117.add ((x3_1).toNat * 9)).off + 8, none⟩ = some (.int .i64 ((rd_T62 l0 x3_1).f8))) (ds := []) (bT 24 0) Zi rfl rfl ⟨(cbH HB hw117_0 :), (cbH HB hw117_1 :), (cbH HB hw117_2 :), (cbH HB hw117_3 :), (cbH HB hw117_4 :), (cbH HB hw117_5 :), (cbH HB hw117_6 :), (cbH HB hw117_7 :), (cbH HB hw117_8 :), (cbH HB hw119_0 :), (cbH HB hw119_1 :), (cbH HB hw119_2 :), (cbH HB hw119_3 :), (cbH HB hw119_4 :), (cbH HB hw119_5 :), (cbH HB hw119_6 :), (cbH HB hw119_7 :), (cbH HB hw119_8 :), (cbH HB hw120_0 :), (cbH HB hw120_1 :), (cbH HB hw120_2 :), (cbH HB hw120_3 :), (cbH HB hw120_4 :), (cbH HB hw120_5 :), (cbH HB hw120_6 :), (cbH HB hw120_7 :), (cbH HB hw120_8 :)⟩ (fun hHeld => ?_); refine with_tabW spec_AreArticles.tab4 spec_AreArticles.bits4 (fun HT_ HW_ => ?_)
          generalize wr.drew = w13 at HB hx117_0 hx117_1 hx117_2 hx117_3 hx117_4 hx117_5 hx117_6 hx117_7 hx117_8 hx119_0 hx119_1 hx119_2 hx119_3 hx119_4 hx119_5 hx119_6 hx119_7 hx119_8 hx120_0 hx120_1 hx120_2 hx120_3 hx120_4 hx120_5 hx120_6 hx120_7 hx120_8 hHeld ⊢; refine pureZ HT_ 0 (some 10) (bT 24 1) ?_; refine pureZ HT_ 1 (some 11) (bT 24 2) ?_; refine pureZ HT_ 2 (some 12) (bT 24 3) ?_; refine takeZ27 HT_ HW_ 3 (some 13) (bT 24 4) hHeld ?_; refine one_ (i := 4) (N := some 14) (bT 24 5) rfl rfl (one_of HT_.out Zi) (by decide) (fun K hK => ?_); refine goes_ Try.func94 Zi rfl #[.agg #[.string ((rd_T62 l0 x3_1).f0), .int .i64 ((rd_T62 l0 x3_1).f1), .int .i64 ((rd_T62 l0 x3_1).f2), .int .i64 ((rd_T62 l0 x3_1).f3), .int .i64 ((rd_T62 l0 x3_1).f4), .int .i64 ((rd_T62 l0 x3_1).f5), .int .i64 ((rd_T62 l0 x3_1).f6), .int .i64 ((rd_T62 l0 x3_1).f7), .int .i64 ((rd_T62 l0 x3_1).f8)]] (by rfl) rfl rfl Zj ?_
          with_reducible refine (spec_IsArticle.calls k1 ((rd_T62 l0 x3_1).f0) ((rd_T62 l0 x3_1).f1) ((rd_T62 l0 x3_1).f2) ((rd_T62 l0 x3_1).f3) ((rd_T62 l0 x3_1).f4) ((rd_T62 l0 x3_1).f5) ((rd_T62 l0 x3_1).f6) ((rd_T62 l0 x3_1).f7) ((rd_T62 l0 x3_1).f8) true _ A4.out).mono ?_
          rintro e w14 ⟨rfl, hb⟩; refine ⟨_, rfl, ?_⟩; replace HB := (bsZ Zf hb)
          (try clear hb)
          (try clear hb2)
          (try clear hk)
          (try clear hi)
          refine hK.out _ _ ⟨(cbH HB hw117_0 :), (cbH HB hw117_1 :), (cbH HB hw117_2 :), (cbH HB hw117_3 :), (cbH HB hw117_4 :), (cbH HB hw117_5 :), (cbH HB hw117_6 :), (cbH HB hw117_7 :), (cbH HB hw117_8 :), (cbH HB hw119_0 :), (cbH HB hw119_1 :), (cbH HB hw119_2 :), (cbH HB hw119_3 :), (cbH HB hw119_4 :), (cbH HB hw119_5 :), (cbH HB hw119_6 :), (cbH HB hw119_7 :), (cbH HB hw119_8 :), (cbH HB hw120_0 :), (cbH HB hw120_1 :), (cbH HB hw120_2 :), (cbH HB hw120_3 :), (cbH HB hw120_4 :), (cbH HB hw120_5 :), (cbH HB hw120_6 :), (cbH HB hw120_7 :), (cbH HB hw120_8 :)⟩ (fun hHeld => ?_); clear hK K; refine normZ 14 ?_; refine pureZ HT_ 5 (some 15) (bT 24 6) ?_; refine pureZ HT_ 6 (some 16) (bT 24 7) ?_; refine pureZ HT_ 7 (some 17) (bT 24 8) ?_; refine pureZ HT_ 8 (some 18) (bT 24 9) ?_; refine pureZ HT_ 9 (some 19) (bT 24 10) ?_; refine pureZ HT_ 10 (some 20) (bT 24 11) ?_; refine pureZ HT_ 11 (some 21) (bT 24 12) ?_; refine pureZ HT_ 12 (some 22) (bT 24 13) ?_; refine pureZ HT_ 13 (some 23) (bT 24 14) ?_; refine pureZ HT_ 14 (some 24) (bT 24 15) ?_; refine pureZ HT_ 16 (some 26) #[true, true, true, true, true, true, true, true, true, true, true, true, true, true, true, false, true, false, false, false, false, false, false, false] ?_; refine pureZ HT_ 17 (some 27) #[true, true, true, true, true, true, true, true, true, true, true, true, true, true, true, false, true, true, false, false, false, false, false, false] ?_; refine pureZ HT_ 18 (some 28) #[true, true, true, true, true, true, true, true, true, true, true, true, true, true, true, false, true, true, true, false, false, false, false, false] ?_; refine pureZ HT_ 19 (some 29) #[true, true, true, true, true, true, true, true, true, true, true, true, true, true, true, false, true, true, true, true, false, false, false, false] ?_; refine takeZ27 HT_ HW_ 15 (some 25) (bT 24 20) hHeld ?_; refine takeZ27 HT_ HW_ 20 (some 30) (bT 24 21) hHeld ?_; refine pureZ HT_ 21 (some 31) (bT 24 22) ?_; refine pureZ HT_ 22 (some 32) (bT 24 23) ?_; refine pureZ HT_ 23 (some 33) (bT 24 24) ?_; refine done_ (done_of HT_.out Zi) ?_
          try go_wp2
          go_ret
          exact ⟨by first | rfl | (simp [errW_none, errW_some] <;> rfl) | (simp only [← hji7]; first | rfl | (simp [errW_none, errW_some] <;> rfl)) | (simp [*, errW_none, errW_some] <;> rfl), Zf⟩
        ·rw [if_neg c9] at H
         exact absurd H (by simp)
       ·rw [if_neg c8] at H
        exact absurd H (by simp)
      ·rw [if_neg c6] at H
       have c6b0 : decide (0 < x3_1) = false := decide_eq_false c6; clear c6; have H' := am_ H; clear H
       try go_wp2
       replace HB := am_ (below_drew1 HB.out); have p117 : 0 ≤ (x3_1 : Int) := of_decide_eq_true Zc; have q117 : x3_1 < (l0.length : Int) := of_decide_eq_true Zc; obtain ⟨ad117, e117, hx117_0, hx117_1, hx117_2, hx117_3, hx117_4, hx117_5, hx117_6, hx117_7, hx117_8⟩ := at_T62 HR0.out x3_1 p117 q117; have hw117_8 := hx117_8; have hw117_7 := hx117_7; have hw117_6 := hx117_6; have hw117_5 := hx117_5; have hw117_4 := hx117_4; have hw117_3 := hx117_3; have hw117_2 := hx117_2; have hw117_1 := hx117_1; have hw117_0 := hx117_0
       cases e117
       replace hx117_0 := cbH HB hx117_0; replace hx117_1 := cbH HB hx117_1; replace hx117_2 := cbH HB hx117_2; replace hx117_3 := cbH HB hx117_3; replace hx117_4 := cbH HB hx117_4; replace hx117_5 := cbH HB hx117_5; replace hx117_6 := cbH HB hx117_6; replace hx117_7 := cbH HB hx117_7; replace hx117_8 := cbH HB hx117_8; replace p117 := eq_true p117; replace q117 := eq_true q117; refine start_ (n := 24) (S := fun w' => w'.cell? (ad117.add ((x3_1).toNat * 9)) = some (.string ((rd_T62 l0 x3_1).f0)) ∧ w'.cell? ⟨(ad117.add ((x3_1).toNat * 9)).block, (ad117.add ((x3_1).toNat * 9)).off + 1, none⟩ = some (.int .i64 ((rd_T62 l0 x3_1).f1)) ∧ w'.cell? ⟨(ad117.add ((x3_1).toNat * 9)).block, (ad117.add ((x3_1).toNat * 9)).off + 2, none⟩ = some (.int .i64 ((rd_T62 l0 x3_1).f2)) ∧ w'.cell? ⟨(ad117.add ((x3_1).toNat * 9)).block, (ad117.add ((x3_1).toNat * 9)).off + 3, none⟩ = some (.int .i64 ((rd_T62 l0 x3_1).f3)) ∧ w'.cell? ⟨(ad117.add ((x3_1).toNat * 9)).block, (ad117.add ((x3_1).toNat * 9)).off + 4, none⟩ = some (.int .i64 ((rd_T62 l0 x3_1).f4)) ∧ w'.cell? ⟨(ad117.add ((x3_1).toNat * 9)).block, (ad117.add ((x3_1).toNat * 9)).off + 5, none⟩ = some (.int .i64 ((rd_T62 l0 x3_1).f5)) ∧ w'.cell? ⟨(ad117.add ((x3_1).toNat * 9)).block, (ad117.add ((x3_1).toNat * 9)).off + 6, none⟩ = some (.int .i64 ((rd_T62 l0 x3_1).f6)) ∧ w'.cell? ⟨(ad117.add ((x3_1).toNat * 9)).block, (ad117.add ((x3_1).toNat * 9)).off + 7, none⟩ = some (.int .i64 ((rd_T62 l0 x3_1).f7)) ∧ w'.cell? ⟨(ad117.add ((x3_1).toNat * 9)).block, (ad117.add ((x3_1).toNat * 9)).off + 8, none⟩ = some (.int .i64 ((rd_T62 l0 x3_1).f8))) (ds := []) (bT 24 0) Zi rfl rfl ⟨(cbH HB hw117_0 :), (cbH HB hw117_1 :), (cbH HB hw117_2 :), (cbH HB hw117_3 :), (cbH HB hw117_4 :), (cbH HB hw117_5 :), (cbH HB hw117_6 :), (cbH HB hw117_7 :), (cbH HB hw117_8 :)⟩ (fun hHeld => ?_); refine with_tabW spec_AreArticles.tab4 spec_AreArticles.bits4 (fun HT_ HW_ => ?_); generalize wr.drew = w15 at HB hx117_0 hx117_1 hx117_2 hx117_3 hx117_4 hx117_5 hx117_6 hx117_7 hx117_8 hHeld ⊢; refine pureZ HT_ 0 (some 10) (bT 24 1) ?_; refine pureZ HT_ 1 (some 11) (bT 24 2) ?_; refine pureZ HT_ 2 (some 12) (bT 24 3) ?_; refine takeZ9 HT_ HW_ 3 (some 13) (bT 24 4) hHeld ?_; refine one_ (i := 4) (N := some 14) (bT 24 5) rfl rfl (one_of HT_.out Zi) (by decide) (fun K hK => ?_); refine goes_ Try.func94 Zi rfl #[.agg #[.string ((rd_T62 l0 x3_1).f0), .int .i64 ((rd_T62 l0 x3_1).f1), .int .i64 ((rd_T62 l0 x3_1).f2), .int .i64 ((rd_T62 l0 x3_1).f3), .int .i64 ((rd_T62 l0 x3_1).f4), .int .i64 ((rd_T62 l0 x3_1).f5), .int .i64 ((rd_T62 l0 x3_1).f6), .int .i64 ((rd_T62 l0 x3_1).f7), .int .i64 ((rd_T62 l0 x3_1).f8)]] (by rfl) rfl rfl Zj ?_
       with_reducible refine (spec_IsArticle.calls k1 ((rd_T62 l0 x3_1).f0) ((rd_T62 l0 x3_1).f1) ((rd_T62 l0 x3_1).f2) ((rd_T62 l0 x3_1).f3) ((rd_T62 l0 x3_1).f4) ((rd_T62 l0 x3_1).f5) ((rd_T62 l0 x3_1).f6) ((rd_T62 l0 x3_1).f7) ((rd_T62 l0 x3_1).f8) true _ A4.out).mono ?_
       rintro e w16 ⟨rfl, hb⟩; refine ⟨_, rfl, ?_⟩; replace HB := (bsZ Zf hb)
       (try clear hb)
       (try clear hb2)
       (try clear hk)
       (try clear hi)
       refine hK.out _ _ ⟨(cbH HB hw117_0 :), (cbH HB hw117_1 :), (cbH HB hw117_2 :), (cbH HB hw117_3 :), (cbH HB hw117_4 :), (cbH HB hw117_5 :), (cbH HB hw117_6 :), (cbH HB hw117_7 :), (cbH HB hw117_8 :)⟩ (fun hHeld => ?_); clear hK K; refine normZ 14 ?_; refine pureZ HT_ 5 (some 15) (bT 24 6) ?_; refine pureZ HT_ 6 (some 16) (bT 24 7) ?_; refine pureZ HT_ 7 (some 17) (bT 24 8) ?_; refine pureZ HT_ 8 (some 18) (bT 24 9) ?_; refine pureZ HT_ 9 (some 19) (bT 24 10) ?_; refine pureU HT_ 10 (some 20) (bT 24 11) ?_; refine pureU HT_ 11 (some 21) (bT 24 12) ?_; refine pureU HT_ 12 (some 22) (bT 24 13) ?_; refine pureU HT_ 13 (some 23) (bT 24 14) ?_; refine pureU HT_ 14 (some 24) (bT 24 15) ?_; refine pureU HT_ 15 (some 25) (bT 24 16) ?_; refine pureU HT_ 16 (some 26) (bT 24 17) ?_; refine pureU HT_ 17 (some 27) (bT 24 18) ?_; refine pureU HT_ 18 (some 28) (bT 24 19) ?_; refine pureU HT_ 19 (some 29) (bT 24 20) ?_; refine pureU HT_ 20 (some 30) (bT 24 21) ?_; refine pureU HT_ 21 (some 31) (bT 24 22) ?_; refine pureZ HT_ 22 (some 32) (bT 24 23) ?_; refine pureZ HT_ 23 (some 33) (bT 24 24) ?_; refine done_ (done_of HT_.out Zi) ?_
       try go_wp2
       go_roundg k1
       case measure => have := HK1.out; omega
       case rel => exact ⟨(wrap64 (x3_1 + 1)), Za, H', ⟨Zd⟩, ⟨Zf⟩⟩
     ·replace c5 := Bool.eq_false_iff.mpr c5
      subst c5
      have H1 : (some false) = some r := by rw [if_neg (show ¬ (false = true) by decide)] at H; exact H
      clear H; have H := H1; clear H1; obtain rfl := Option.some.inj H
      try go_wp2
      replace HB := am_ (below_drew1 HB.out); have p117 : 0 ≤ (x3_1 : Int) := of_decide_eq_true Zc; have q117 : x3_1 < (l0.length : Int) := of_decide_eq_true Zc; obtain ⟨ad117, e117, hx117_0, hx117_1, hx117_2, hx117_3, hx117_4, hx117_5, hx117_6, hx117_7, hx117_8⟩ := at_T62 HR0.out x3_1 p117 q117; have hw117_8 := hx117_8; have hw117_7 := hx117_7; have hw117_6 := hx117_6; have hw117_5 := hx117_5; have hw117_4 := hx117_4; have hw117_3 := hx117_3; have hw117_2 := hx117_2; have hw117_1 := hx117_1; have hw117_0 := hx117_0
      cases e117
      replace hx117_0 := cbH HB hx117_0; replace hx117_1 := cbH HB hx117_1; replace hx117_2 := cbH HB hx117_2; replace hx117_3 := cbH HB hx117_3; replace hx117_4 := cbH HB hx117_4; replace hx117_5 := cbH HB hx117_5; replace hx117_6 := cbH HB hx117_6; replace hx117_7 := cbH HB hx117_7; replace hx117_8 := cbH HB hx117_8; replace p117 := eq_true p117; replace q117 := eq_true q117; refine start_ (n := 24) (S := fun w' => w'.cell? (ad117.add ((x3_1).toNat * 9)) = some (.string ((rd_T62 l0 x3_1).f0)) ∧ w'.cell? ⟨(ad117.add ((x3_1).toNat * 9)).block, (ad117.add ((x3_1).toNat * 9)).off + 1, none⟩ = some (.int .i64 ((rd_T62 l0 x3_1).f1)) ∧ w'.cell? ⟨(ad117.add ((x3_1).toNat * 9)).block, (ad117.add ((x3_1).toNat * 9)).off + 2, none⟩ = some (.int .i64 ((rd_T62 l0 x3_1).f2)) ∧ w'.cell? ⟨(ad117.add ((x3_1).toNat * 9)).block, (ad117.add ((x3_1).toNat * 9)).off + 3, none⟩ = some (.int .i64 ((rd_T62 l0 x3_1).f3)) ∧ w'.cell? ⟨(ad117.add ((x3_1).toNat * 9)).block, (ad117.add ((x3_1).toNat * 9)).off + 4, none⟩ = some (.int .i64 ((rd_T62 l0 x3_1).f4)) ∧ w'.cell? ⟨(ad117.add ((x3_1).toNat * 9)).block, (ad117.add ((x3_1).toNat * 9)).off + 5, none⟩ = some (.int .i64 ((rd_T62 l0 x3_1).f5)) ∧ w'.cell? ⟨(ad117.add ((x3_1).toNat * 9)).block, (ad117.add ((x3_1).toNat * 9)).off + 6, none⟩ = some (.int .i64 ((rd_T62 l0 x3_1).f6)) ∧ w'.cell? ⟨(ad117.add ((x3_1).toNat * 9)).block, (ad117.add ((x3_1).toNat * 9)).off + 7, none⟩ = some (.int .i64 ((rd_T62 l0 x3_1).f7)) ∧ w'.cell? ⟨(ad117.add ((x3_1).toNat * 9)).block, (ad117.add ((x3_1).toNat * 9)).off + 8, none⟩ = some (.int .i64 ((rd_T62 l0 x3_1).f8))) (ds := []) (bT 24 0) Zi rfl rfl ⟨(cbH HB hw117_0 :), (cbH HB hw117_1 :), (cbH HB hw117_2 :), (cbH HB hw117_3 :), (cbH HB hw117_4 :), (cbH HB hw117_5 :), (cbH HB hw117_6 :), (cbH HB hw117_7 :), (cbH HB hw117_8 :)⟩ (fun hHeld => ?_); refine with_tabW spec_AreArticles.tab4 spec_AreArticles.bits4 (fun HT_ HW_ => ?_); generalize wr.drew = w17 at HB hx117_0 hx117_1 hx117_2 hx117_3 hx117_4 hx117_5 hx117_6 hx117_7 hx117_8 hHeld ⊢; refine pureZ HT_ 0 (some 10) (bT 24 1) ?_; refine pureZ HT_ 1 (some 11) (bT 24 2) ?_; refine pureZ HT_ 2 (some 12) (bT 24 3) ?_; refine takeZ9 HT_ HW_ 3 (some 13) (bT 24 4) hHeld ?_; refine one_ (i := 4) (N := some 14) (bT 24 5) rfl rfl (one_of HT_.out Zi) (by decide) (fun K hK => ?_); refine goes_ Try.func94 Zi rfl #[.agg #[.string ((rd_T62 l0 x3_1).f0), .int .i64 ((rd_T62 l0 x3_1).f1), .int .i64 ((rd_T62 l0 x3_1).f2), .int .i64 ((rd_T62 l0 x3_1).f3), .int .i64 ((rd_T62 l0 x3_1).f4), .int .i64 ((rd_T62 l0 x3_1).f5), .int .i64 ((rd_T62 l0 x3_1).f6), .int .i64 ((rd_T62 l0 x3_1).f7), .int .i64 ((rd_T62 l0 x3_1).f8)]] (by rfl) rfl rfl Zj ?_
      with_reducible refine (spec_IsArticle.calls k1 ((rd_T62 l0 x3_1).f0) ((rd_T62 l0 x3_1).f1) ((rd_T62 l0 x3_1).f2) ((rd_T62 l0 x3_1).f3) ((rd_T62 l0 x3_1).f4) ((rd_T62 l0 x3_1).f5) ((rd_T62 l0 x3_1).f6) ((rd_T62 l0 x3_1).f7) ((rd_T62 l0 x3_1).f8) false _ A4.out).mono ?_
      rintro e w18 ⟨rfl, hb⟩; refine ⟨_, rfl, ?_⟩; replace HB := (bsZ Zf hb)
      (try clear hb)
      (try clear hb2)
      (try clear hk)
      (try clear hi)
      refine hK.out _ _ ⟨(cbH HB hw117_0 :), (cbH HB hw117_1 :), (cbH HB hw117_2 :), (cbH HB hw117_3 :), (cbH HB hw117_4 :), (cbH HB hw117_5 :), (cbH HB hw117_6 :), (cbH HB hw117_7 :), (cbH HB hw117_8 :)⟩ (fun hHeld => ?_); clear hK K; refine normZ 14 ?_; refine pureZ HT_ 5 (some 15) (bT 24 6) ?_; refine pureZ HT_ 6 (some 16) (bT 24 7) ?_; refine pureU HT_ 7 (some 17) (bT 24 8) ?_; refine pureU HT_ 8 (some 18) (bT 24 9) ?_; refine pureU HT_ 9 (some 19) (bT 24 10) ?_; refine pureU HT_ 10 (some 20) (bT 24 11) ?_; refine pureU HT_ 11 (some 21) (bT 24 12) ?_; refine pureU HT_ 12 (some 22) (bT 24 13) ?_; refine pureU HT_ 13 (some 23) (bT 24 14) ?_; refine pureU HT_ 14 (some 24) (bT 24 15) ?_; refine pureU HT_ 15 (some 25) (bT 24 16) ?_; refine pureU HT_ 16 (some 26) (bT 24 17) ?_; refine pureU HT_ 17 (some 27) (bT 24 18) ?_; refine pureU HT_ 18 (some 28) (bT 24 19) ?_; refine pureU HT_ 19 (some 29) (bT 24 20) ?_; refine pureU HT_ 20 (some 30) (bT 24 21) ?_; refine pureU HT_ 21 (some 31) (bT 24 22) ?_; refine pureU HT_ 22 (some 32) (bT 24 23) ?_; refine pureZ HT_ 23 (some 33) (bT 24 24) ?_; refine done_ (done_of HT_.out Zi) ?_
      try go_wp2
      go_ret
      exact ⟨Zg, Zf⟩
    ·rw [if_neg c3] at H
     exact absurd H (by simp)
   ·rw [if_neg c2] at H
    have c2b0 := decide_eq_false c2; clear c2; obtain rfl := Option.some.inj H
    go_wp2
    go_ret
    exact ⟨Zg, Zf⟩
def spec_IsScore.l0 : Nat → List (S104) → Int → Option (Bool)
 | 0, _, _ => none
 | k + 1, x0, x3 => if x3 < (x0.length : Int) then (if 0 ≤ x3 then ((spec_l01In.f ((rd_T104 x0 x3).f0) 1 16).bind fun t123 => (if t123 = true then ((spec_l01In.f ((rd_T104 x0 x3).f1) 100 5000).bind fun t125 => (if t125 = true then (spec_IsScore.l0 k x0 (wrap64 (x3 + 1))) else (some false))) else (some false))) else (none)) else ((spec_l01In.f (x0.length : Int) 1 20).bind fun t121 => (some t121))
def spec_IsScore.f (k : Nat) (l0 : List (S104)) : Option (Bool) := spec_IsScore.l0 k l0 0
set_option maxHeartbeats 8000000 in
set_option maxRecDepth 100000 in
theorem spec_IsScore.calls (k : Nat) (A0 : Option Addr) (c0 : Nat) (l0 : List (S104)) (r : Bool) (w : World) (hr0 : Kd.C k104 w A0 l0.length l0) (hc0 : l0.length ≤ c0) (h : spec_IsScore.f k l0 = some r) :
  Calls Try.prog 88 #[.slice A0 l0.length c0] w fun e w' => e = .returned (.bool r) ∧ Drawn0 w w' := by
 have HR0 := am_ hr0; have HC0 := am_ hc0; clear hr0 hc0; have H : (spec_IsScore.l0 k l0 0) = some r := h; clear h; have H' := am_ H; clear H
 go_enter Try.func88, Try.ntmps88
 go_wp2
 go_loopg [3] k (fun kq v3 w' => ∃ (x3_1 : Int), v3 = .int .i64 x3_1 ∧ Aside0 (spec_IsScore.l0 kq l0 x3_1 = some r) ∧ Aside0 (kq ≤ k) ∧ Drawn0 w w')
 case atStart => exact ⟨(0), Za, H', ⟨Nat.le_refl _⟩, Zb⟩
 case round =>
  clear H'; obtain ⟨x3_1, rfl, HA, HK1, ⟨m1, rfl⟩⟩ := hrel
  cases gk with
  | zero => exact absurd HA.out (by simp [spec_IsScore.l0])
  | succ k1 =>
   have H := HA.out; clear HA; simp only [spec_IsScore.l0] at H
   by_cases c2 : x3_1 < (l0.length : Int)
   ·rw [if_pos c2] at H
    have c2b0 := decide_eq_true c2; clear c2
    by_cases c3 : 0 ≤ x3_1
    ·rw [if_pos c3] at H
     have c3b0 := decide_eq_true c3; clear c3; replace H := Option.bind_eq_some_iff.mp H; obtain ⟨t123, A40, H⟩ := H; have A4 := am_ A40; clear A40
     by_cases c5 : t123 = true
     ·subst c5
      have H1 : ((spec_l01In.f ((rd_T104 l0 x3_1).f1) 100 5000).bind fun t125 => (if t125 = true then (spec_IsScore.l0 k1 l0 (wrap64 (x3_1 + 1))) else (some false))) = some r := by rw [if_pos rfl] at H; exact H
      clear H; have H := H1; clear H1; replace H := Option.bind_eq_some_iff.mp H; obtain ⟨t125, A60, H⟩ := H; have A6 := am_ A60; clear A60
      by_cases c7 : t125 = true
      ·subst c7
       have H1 : (spec_IsScore.l0 k1 l0 (wrap64 (x3_1 + 1))) = some r := by rw [if_pos rfl] at H; exact H
       clear H; have H := H1; clear H1; have H' := am_ H; clear H; have p122 : 0 ≤ (x3_1 : Int) := of_decide_eq_true Zc; have q122 : x3_1 < (l0.length : Int) := of_decide_eq_true Zc; obtain ⟨ad122, e122, hx122_0, hx122_1⟩ := at_T104 HR0.out x3_1 p122 q122
       cases e122
       replace p122 := eq_true p122; replace q122 := eq_true q122
       go_wp2_with (first | ((with_reducible refine gate_callee (f := 57) rfl ?_); refine goesL_ (some 15) rfl rfl Try.func57 Zi rfl #[.int .i64 ((rd_T104 l0 x3_1).f0), .int .i64 1, .int .i64 16] rfl Zj ?_; (with_reducible refine (spec_l01In.calls ((rd_T104 l0 x3_1).f0) 1 16 true _ A4.out).mono ?_); rintro e w' ⟨rfl, ⟨nd, rfl⟩⟩; refine ⟨_, rfl, ?_⟩; have p124 : 0 ≤ (x3_1 : Int) := of_decide_eq_true Zc; have q124 : x3_1 < (l0.length : Int) := of_decide_eq_true Zc; obtain ⟨ad124, e124, hx124_0, hx124_1⟩ := at_T104 HR0.out x3_1 p124 q124; obtain rfl : ad122 = ad124 := (by injection e124); replace p124 := eq_true p124; replace q124 := eq_true q124) | (go_at_call 57; (with_reducible refine (spec_l01In.calls ((rd_T104 l0 x3_1).f1) 100 5000 true _ A6.out).mono ?_); rintro e w' ⟨rfl, ⟨nd, rfl⟩⟩))
       go_roundg k1
       case measure => have := HK1.out; omega
       case rel => exact ⟨(wrap64 (x3_1 + 1)), Za, H', ⟨Zd⟩, Zb⟩
      ·replace c7 := Bool.eq_false_iff.mpr c7
       subst c7
       have H1 : (some false) = some r := by rw [if_neg (show ¬ (false = true) by decide)] at H; exact H
       clear H; have H := H1; clear H1; obtain rfl := Option.some.inj H; have p122 : 0 ≤ (x3_1 : Int) := of_decide_eq_true Zc; have q122 : x3_1 < (l0.length : Int) := of_decide_eq_true Zc; obtain ⟨ad122, e122, hx122_0, hx122_1⟩ := at_T104 HR0.out x3_1 p122 q122
       cases e122
       replace p122 := eq_true p122; replace q122 := eq_true q122
       go_wp2_with (first | ((with_reducible refine gate_callee (f := 57) rfl ?_); refine goesL_ (some 15) rfl rfl Try.func57 Zi rfl #[.int .i64 ((rd_T104 l0 x3_1).f0), .int .i64 1, .int .i64 16] rfl Zj ?_; (with_reducible refine (spec_l01In.calls ((rd_T104 l0 x3_1).f0) 1 16 true _ A4.out).mono ?_); rintro e w' ⟨rfl, ⟨nd, rfl⟩⟩; refine ⟨_, rfl, ?_⟩; have p124 : 0 ≤ (x3_1 : Int) := of_decide_eq_true Zc; have q124 : x3_1 < (l0.length : Int) := of_decide_eq_true Zc; obtain ⟨ad124, e124, hx124_0, hx124_1⟩ := at_T104 HR0.out x3_1 p124 q124; obtain rfl : ad122 = ad124 := (by injection e124); replace p124 := eq_true p124; replace q124 := eq_true q124) | (go_at_call 57; (with_reducible refine (spec_l01In.calls ((rd_T104 l0 x3_1).f1) 100 5000 false _ A6.out).mono ?_); rintro e w' ⟨rfl, ⟨nd, rfl⟩⟩))
       go_ret
       exact ⟨Za, Zb⟩
     ·replace c5 := Bool.eq_false_iff.mpr c5
      subst c5
      have H1 : (some false) = some r := by rw [if_neg (show ¬ (false = true) by decide)] at H; exact H
      clear H; have H := H1; clear H1; obtain rfl := Option.some.inj H; have p122 : 0 ≤ (x3_1 : Int) := of_decide_eq_true Zc; have q122 : x3_1 < (l0.length : Int) := of_decide_eq_true Zc; obtain ⟨ad122, e122, hx122_0, hx122_1⟩ := at_T104 HR0.out x3_1 p122 q122
      cases e122
      replace p122 := eq_true p122; replace q122 := eq_true q122
      go_wp2_with (first | ((with_reducible refine gate_callee (f := 57) rfl ?_); refine goesL_ (some 15) rfl rfl Try.func57 Zi rfl #[.int .i64 ((rd_T104 l0 x3_1).f0), .int .i64 1, .int .i64 16] rfl Zj ?_; (with_reducible refine (spec_l01In.calls ((rd_T104 l0 x3_1).f0) 1 16 false _ A4.out).mono ?_); rintro e w' ⟨rfl, ⟨nd, rfl⟩⟩; refine ⟨_, rfl, ?_⟩))
      go_ret
      exact ⟨Za, Zb⟩
    ·rw [if_neg c3] at H
     exact absurd H (by simp)
   ·rw [if_neg c2] at H
    have c2b0 := decide_eq_false c2; clear c2; replace H := Option.bind_eq_some_iff.mp H; obtain ⟨t121, A80, H⟩ := H; have A8 := am_ A80; clear A80; obtain rfl := Option.some.inj H
    go_wp2_with (first | ((with_reducible refine gate_callee (f := 57) rfl ?_); refine goesL_ (some 28) rfl rfl Try.func57 Zi rfl #[.int .i64 (l0.length : Int), .int .i64 1, .int .i64 20] rfl Zj ?_; (with_reducible refine (spec_l01In.calls (l0.length : Int) 1 20 t121 _ A8.out).mono ?_); rintro e w' ⟨rfl, ⟨nd, rfl⟩⟩; refine ⟨_, rfl, ?_⟩))
    go_ret
    exact ⟨Za, Zb⟩
def spec_l07Has.f (l0 : List (S104)) (a1 : Int) (a2 : Int) : Option (Bool) := (spec_l01In.f a1 0 (wrap64 ((l0.length : Int) - 1))).bind fun t126 => (if t126 = true then (if 0 ≤ a1 then (if a1 < (l0.length : Int) then ((spec_l01In.f a2 0 (wrap64 (((rd_T104 l0 a1).f0) - 1))).bind fun t128 => (some t128)) else (none)) else (none)) else (some false))
set_option maxHeartbeats 8000000 in
set_option maxRecDepth 100000 in
theorem spec_l07Has.calls (A0 : Option Addr) (c0 : Nat) (l0 : List (S104)) (a1 : Int) (a2 : Int) (r : Bool) (w : World) (hr0 : Kd.C k104 w A0 l0.length l0) (hc0 : l0.length ≤ c0) (h : spec_l07Has.f l0 a1 a2 = some r) :
  Calls Try.prog 89 #[.slice A0 l0.length c0, .int .i64 a1, .int .i64 a2] w fun e w' => e = .returned (.bool r) ∧ Drawn0 w w' := by
 have HR0 := am_ hr0; have HC0 := am_ hc0; clear hr0 hc0; have H : ((spec_l01In.f a1 0 (wrap64 ((l0.length : Int) - 1))).bind fun t126 => (if t126 = true then (if 0 ≤ a1 then (if a1 < (l0.length : Int) then ((spec_l01In.f a2 0 (wrap64 (((rd_T104 l0 a1).f0) - 1))).bind fun t128 => (some t128)) else (none)) else (none)) else (some false))) = some r := h; clear h; replace H := Option.bind_eq_some_iff.mp H; obtain ⟨t126, A40, H⟩ := H; have A4 := am_ A40; clear A40
 by_cases c5 : t126 = true
 ·subst c5
  have H1 : (if 0 ≤ a1 then (if a1 < (l0.length : Int) then ((spec_l01In.f a2 0 (wrap64 (((rd_T104 l0 a1).f0) - 1))).bind fun t128 => (some t128)) else (none)) else (none)) = some r := by rw [if_pos rfl] at H; exact H
  clear H; have H := H1; clear H1
  by_cases c6 : 0 ≤ a1
  ·rw [if_pos c6] at H
   have c6b0 := decide_eq_true c6; clear c6
   by_cases c7 : a1 < (l0.length : Int)
   ·rw [if_pos c7] at H
    have c7b0 := decide_eq_true c7; clear c7; replace H := Option.bind_eq_some_iff.mp H; obtain ⟨t128, A80, H⟩ := H; have A8 := am_ A80; clear A80; obtain rfl := Option.some.inj H
    go_enter Try.func89, Try.ntmps89
    go_wp2_with (first | ((with_reducible refine gate_callee (f := 57) rfl ?_); refine goesL_ (some 11) rfl rfl Try.func57 Zi rfl #[.int .i64 a1, .int .i64 0, .int .i64 (wrap64 ((l0.length : Int) - 1))] rfl Zj ?_; (with_reducible refine (spec_l01In.calls a1 0 (wrap64 ((l0.length : Int) - 1)) true _ A4.out).mono ?_); rintro e w' ⟨rfl, ⟨nd, rfl⟩⟩; refine ⟨_, rfl, ?_⟩; have p127 : 0 ≤ (a1 : Int) := of_decide_eq_true Zc; have q127 : a1 < (l0.length : Int) := of_decide_eq_true Zc; obtain ⟨ad127, e127, hx127_0, hx127_1⟩ := at_T104 HR0.out a1 p127 q127; cases e127; replace p127 := eq_true p127; replace q127 := eq_true q127) | (go_at_call 57; (with_reducible refine (spec_l01In.calls a2 0 (wrap64 (((rd_T104 l0 a1).f0) - 1)) t128 _ A8.out).mono ?_); rintro e w' ⟨rfl, ⟨nd, rfl⟩⟩))
    go_ret
    exact ⟨Za, Zb⟩
   ·rw [if_neg c7] at H
    exact absurd H (by simp)
  ·rw [if_neg c6] at H
   exact absurd H (by simp)
 ·replace c5 := Bool.eq_false_iff.mpr c5
  subst c5
  have H1 : (some false) = some r := by rw [if_neg (show ¬ (false = true) by decide)] at H; exact H
  clear H; have H := H1; clear H1; obtain rfl := Option.some.inj H
  go_enter Try.func89, Try.ntmps89
  go_wp2_with (first | ((with_reducible refine gate_callee (f := 57) rfl ?_); refine goesL_ (some 11) rfl rfl Try.func57 Zi rfl #[.int .i64 a1, .int .i64 0, .int .i64 (wrap64 ((l0.length : Int) - 1))] rfl Zj ?_; (with_reducible refine (spec_l01In.calls a1 0 (wrap64 ((l0.length : Int) - 1)) false _ A4.out).mono ?_); rintro e w' ⟨rfl, ⟨nd, rfl⟩⟩; refine ⟨_, rfl, ?_⟩))
  go_ret
  exact ⟨Za, Zb⟩
def spec_l07Time.l0 : Nat → List (S104) → Int → Int → Int → Int → Option (Int)
 | 0, _, _, _, _, _ => none
 | k + 1, x0, x1, x2, x7, x8 => if x8 < x1 then (if 0 ≤ x8 then (if x8 < (x0.length : Int) then (spec_l07Time.l0 k x0 x1 x2 (wrap64 (x7 + (wrap64 (((rd_T104 x0 x8).f0) * ((rd_T104 x0 x8).f1))))) (wrap64 (x8 + 1))) else (none)) else (none)) else (if 0 ≤ x1 then (if x1 < (x0.length : Int) then (some (wrap64 (x7 + (wrap64 (x2 * ((rd_T104 x0 x1).f1)))))) else (none)) else (none))
def spec_l07Time.f (k : Nat) (l0 : List (S104)) (a1 : Int) (a2 : Int) : Option (Int) := spec_l07Time.l0 k l0 a1 a2 0 0
set_option maxHeartbeats 8000000 in
set_option maxRecDepth 100000 in
theorem spec_l07Time.calls (k : Nat) (A0 : Option Addr) (c0 : Nat) (l0 : List (S104)) (a1 : Int) (a2 : Int) (r : Int) (w : World) (hr0 : Kd.C k104 w A0 l0.length l0) (hc0 : l0.length ≤ c0) (h : spec_l07Time.f k l0 a1 a2 = some r) :
  Calls Try.prog 99 #[.slice A0 l0.length c0, .int .i64 a1, .int .i64 a2] w fun e w' => e = .returned (.int .i64 r) ∧ Drawn0 w w' := by
 have HR0 := am_ hr0; have HC0 := am_ hc0; clear hr0 hc0; have H : (spec_l07Time.l0 k l0 a1 a2 0 0) = some r := h; clear h; have H' := am_ H; clear H
 go_enter Try.func99, Try.ntmps99
 go_wp2
 repeat (go_quiet (fail); try go_wp2)
 go_loopg [7, 8] k (fun kq v7 v8 w' => ∃ (x7_1 : Int) (x8_1 : Int), v7 = .int .i64 x7_1 ∧ v8 = .int .i64 x8_1 ∧ Aside0 (spec_l07Time.l0 kq l0 a1 a2 x7_1 x8_1 = some r) ∧ Aside0 (kq ≤ k) ∧ Drawn0 w w')
 case atStart => exact ⟨(0), (0), Za, Za, H', ⟨Nat.le_refl _⟩, Zb⟩
 case round =>
  clear H'
  try clear p2
  obtain ⟨x7_1, x8_1, rfl, rfl, HA, HK1, ⟨m1, rfl⟩⟩ := hrel
  cases gk with
  | zero => exact absurd HA.out (by simp [spec_l07Time.l0])
  | succ k1 =>
   have H := HA.out; clear HA; simp only [spec_l07Time.l0] at H
   by_cases c4 : x8_1 < a1
   ·rw [if_pos c4] at H
    have c4b0 := decide_eq_true c4; clear c4
    by_cases c5 : 0 ≤ x8_1
    ·rw [if_pos c5] at H
     have c5b0 := decide_eq_true c5; clear c5
     by_cases c6 : x8_1 < (l0.length : Int)
     ·rw [if_pos c6] at H
      have c6b0 := decide_eq_true c6; clear c6; have H' := am_ H; clear H; have p129 : 0 ≤ (x8_1 : Int) := of_decide_eq_true Zc; have q129 : x8_1 < (l0.length : Int) := of_decide_eq_true Zc; obtain ⟨ad129, e129, hx129_0, hx129_1⟩ := at_T104 HR0.out x8_1 p129 q129
      cases e129
      replace p129 := eq_true p129; replace q129 := eq_true q129; have p130 : 0 ≤ (x8_1 : Int) := of_decide_eq_true Zc; have q130 : x8_1 < (l0.length : Int) := of_decide_eq_true Zc; obtain ⟨ad130, e130, hx130_0, hx130_1⟩ := at_T104 HR0.out x8_1 p130 q130; obtain rfl : ad129 = ad130 := (by injection e130); replace p130 := eq_true p130; replace q130 := eq_true q130
      go_wp2
      repeat (go_quiet (fail); try go_wp2)
      go_roundg k1
      case measure => have := HK1.out; omega
      case rel => exact ⟨(wrap64 (x7_1 + (wrap64 (((rd_T104 l0 x8_1).f0) * ((rd_T104 l0 x8_1).f1))))), (wrap64 (x8_1 + 1)), Za, Za, H', ⟨Zd⟩, Zb⟩
     ·rw [if_neg c6] at H
      exact absurd H (by simp)
    ·rw [if_neg c5] at H
     exact absurd H (by simp)
   ·rw [if_neg c4] at H
    have c4b0 := decide_eq_false c4; clear c4
    by_cases c7 : 0 ≤ a1
    ·rw [if_pos c7] at H
     have c7b0 := decide_eq_true c7; clear c7
     by_cases c8 : a1 < (l0.length : Int)
     ·rw [if_pos c8] at H
      have c8b0 := decide_eq_true c8; clear c8; obtain rfl := Option.some.inj H; have p131 : 0 ≤ (a1 : Int) := of_decide_eq_true Zc; have q131 : a1 < (l0.length : Int) := of_decide_eq_true Zc; obtain ⟨ad131, e131, hx131_0, hx131_1⟩ := at_T104 HR0.out a1 p131 q131
      cases e131
      replace p131 := eq_true p131; replace q131 := eq_true q131
      go_wp2
      repeat (go_quiet (fail); try go_wp2)
      go_ret
      exact ⟨Za, Zb⟩
     ·rw [if_neg c8] at H
      exact absurd H (by simp)
    ·rw [if_neg c7] at H
     exact absurd H (by simp)
def spec_l08Time.f (k : Nat) (l0_0 : List (S104)) (l0_1 : List (S62)) (l0_2 : List (S39)) (a1_0 : Int) (a1_1 : Int) (a1_2 : ByteArray) (a1_3 : Int) : Option (Int) := (spec_l07Time.f k l0_0 a1_0 a1_1).bind fun t134 => ((spec_l03Find.f k l0_1 a1_2).bind fun t135 => (if 0 ≤ t135 then (if t135 < (l0_1.length : Int) then (some (wrap64 (t134 - ((rd_T62 l0_1 t135).f3)))) else (none)) else (none)))
set_option maxHeartbeats 8000000 in
set_option maxRecDepth 100000 in
theorem spec_l08Time.calls (k : Nat) (A0_0 : Option Addr) (c0_0 : Nat) (l0_0 : List (S104)) (A0_1 : Option Addr) (c0_1 : Nat) (l0_1 : List (S62)) (A0_2 : Option Addr) (c0_2 : Nat) (l0_2 : List (S39)) (a1_0 : Int) (a1_1 : Int) (a1_2 : ByteArray) (a1_3 : Int) (r : Int) (w : World) (hr0_0 : Kd.C k104 w A0_0 l0_0.length l0_0) (hc0_0 : l0_0.length ≤ c0_0) (hr0_1 : Kd.C k62 w A0_1 l0_1.length l0_1) (hc0_1 : l0_1.length ≤ c0_1) (hr0_2 : Kd.C k39 w A0_2 l0_2.length l0_2) (hc0_2 : l0_2.length ≤ c0_2) (h : spec_l08Time.f k l0_0 l0_1 l0_2 a1_0 a1_1 a1_2 a1_3 = some r) :
  Calls Try.prog 90 #[.agg #[.slice A0_0 l0_0.length c0_0, .slice A0_1 l0_1.length c0_1, .slice A0_2 l0_2.length c0_2], .agg #[.int .i64 a1_0, .int .i64 a1_1, .string a1_2, .int .i64 a1_3]] w fun e w' => e = .returned (.int .i64 r) ∧ Below w.heap.size w w' := by
 have hu28 := Try.underlying28; have hu39 := Try.underlying39; have HR0_0 := am_ hr0_0; have HC0_0 := am_ hc0_0; clear hr0_0 hc0_0; have HR0_1 := am_ hr0_1; have HC0_1 := am_ hc0_1; clear hr0_1 hc0_1; have HR0_2 := am_ hr0_2; have HC0_2 := am_ hc0_2; clear hr0_2 hc0_2; have HB := am_ (Below.refl w.heap.size w); have H : ((spec_l07Time.f k l0_0 a1_0 a1_1).bind fun t134 => ((spec_l03Find.f k l0_1 a1_2).bind fun t135 => (if 0 ≤ t135 then (if t135 < (l0_1.length : Int) then (some (wrap64 (t134 - ((rd_T62 l0_1 t135).f3)))) else (none)) else (none)))) = some r := h; clear h; replace H := Option.bind_eq_some_iff.mp H; obtain ⟨t134, A30, H⟩ := H; have A3 := am_ A30; clear A30; replace H := Option.bind_eq_some_iff.mp H; obtain ⟨t135, A40, H⟩ := H; have A4 := am_ A40; clear A40
 by_cases c5 : 0 ≤ t135
 ·rw [if_pos c5] at H
  have c5b0 := decide_eq_true c5; clear c5
  by_cases c6 : t135 < (l0_1.length : Int)
  ·rw [if_pos c6] at H
   have c6b0 := decide_eq_true c6; clear c6; obtain rfl := Option.some.inj H
   go_enter Try.func90, Try.ntmps90
   go_wp2_with (first | ((with_reducible refine gate_dst (N := 2) rfl ?_); refine boxZ 2 #[.slice A0_0 l0_0.length c0_0, .slice A0_1 l0_1.length c0_1, .slice A0_2 l0_2.length c0_2] 28 ?_; intro gb132 hg w7 hbox hb; replace BK132 := am_ (hbox); replace GW132 := am_ ((Zh : w.heap.size ≤ gb132)); replace GE132 := GW132; replace HB := (bsZ Zf hb); clear hb hbox hg) | ((with_reducible refine gate_dst (N := 3) rfl ?_); refine boxZ 3 #[.int .i64 a1_0, .int .i64 a1_1, .string a1_2, .int .i64 a1_3] 39 ?_; intro gb133 hg w8 hbox hb; replace BK133 := am_ (hbox); replace GW133 := am_ (((have z0_ := GE132; Zn) : w.heap.size ≤ gb133)); replace GE133 := GW133; replace HB := (bsZ (have z0_ := GE132; Zk) hb); replace NB132_133 := am_ (((have z0_ := BK132; Zaj) : gb132 ≠ gb133)); replace NB133_132 := am_ (((have z0_ := BK132; Zak) : gb133 ≠ gb132)); replace BK132 := (have z0_ := BK132; bkZ hb); clear hb hbox hg; have hnb9 := NB132_133.out; have hnc9 := NB133_132.out; obtain ⟨hcz10_0, hcz10_1, hcz10_2, hfz10_0, hfz10_1, hfz10_2⟩ := cz3 BK132; obtain ⟨hcz11_0, hcz11_1, hcz11_2, hcz11_3, hfz11_0, hfz11_1, hfz11_2, hfz11_3⟩ := cz4 BK133) | (go_at_call 99; (with_reducible refine (spec_l07Time.calls k _ _ l0_0 a1_0 a1_1 t134 _ ?side1 ?side2 A3.out).mono ?_); (case side1 => exact (have z0_ := HR0_0; Zq)); (case side2 => exact HC0_0.out); rintro e w' ⟨rfl, ⟨nd, rfl⟩⟩; (try first | exact ⟨rfl, _, World.drewN_drewN _ _ _⟩ | exact ⟨rfl, _, Eq.trans (World.drewN_drewN _ _ _) (congrArg (World.drewN _) (Nat.add_assoc _ _ _))⟩)) | (go_at_call 64; (with_reducible refine (spec_l03Find.calls k _ _ l0_1 a1_2 t135 _ ?side1 ?side2 A4.out).mono ?_); (case side1 => repeat (first | exact (Kd.C_below HR0_1.out (have z0_ := GE132; have z1_ := GE133; Zr)) | (with_reducible refine Kd.C_alloc ?_ _) | (with_reducible refine Kd.C_drewN ?_ _) | (with_reducible refine Kd.C_drew ?_))); (case side2 => exact HC0_1.out); rintro e w' ⟨rfl, ⟨nd, rfl⟩⟩; (try first | exact ⟨rfl, _, World.drewN_drewN _ _ _⟩ | exact ⟨rfl, _, Eq.trans (World.drewN_drewN _ _ _) (congrArg (World.drewN _) (Nat.add_assoc _ _ _))⟩); have p136 : 0 ≤ (t135 : Int) := of_decide_eq_true Zc; have q136 : t135 < (l0_1.length : Int) := of_decide_eq_true Zc; obtain ⟨ad136, e136, hx136_0, hx136_1, hx136_2, hx136_3, hx136_4, hx136_5, hx136_6, hx136_7, hx136_8⟩ := at_T62 HR0_1.out t135 p136 q136; cases e136; replace hx136_0 := cbH HB hx136_0; replace hx136_1 := cbH HB hx136_1; replace hx136_2 := cbH HB hx136_2; replace hx136_3 := cbH HB hx136_3; replace hx136_4 := cbH HB hx136_4; replace hx136_5 := cbH HB hx136_5; replace hx136_6 := cbH HB hx136_6; replace hx136_7 := cbH HB hx136_7; replace hx136_8 := cbH HB hx136_8; replace p136 := eq_true p136; replace q136 := eq_true q136))
   repeat (go_quiet (first | ((with_reducible refine gate_dst (N := 2) rfl ?_); refine boxZ 2 #[.slice A0_0 l0_0.length c0_0, .slice A0_1 l0_1.length c0_1, .slice A0_2 l0_2.length c0_2] 28 ?_; intro gb132 hg w7 hbox hb; replace BK132 := am_ (hbox); replace GW132 := am_ ((Zh : w.heap.size ≤ gb132)); replace GE132 := GW132; replace HB := (bsZ Zf hb); clear hb hbox hg) | ((with_reducible refine gate_dst (N := 3) rfl ?_); refine boxZ 3 #[.int .i64 a1_0, .int .i64 a1_1, .string a1_2, .int .i64 a1_3] 39 ?_; intro gb133 hg w8 hbox hb; replace BK133 := am_ (hbox); replace GW133 := am_ (((have z0_ := GE132; Zn) : w.heap.size ≤ gb133)); replace GE133 := GW133; replace HB := (bsZ (have z0_ := GE132; Zk) hb); replace NB132_133 := am_ (((have z0_ := BK132; Zaj) : gb132 ≠ gb133)); replace NB133_132 := am_ (((have z0_ := BK132; Zak) : gb133 ≠ gb132)); replace BK132 := (have z0_ := BK132; bkZ hb); clear hb hbox hg; have hnb9 := NB132_133.out; have hnc9 := NB133_132.out; obtain ⟨hcz10_0, hcz10_1, hcz10_2, hfz10_0, hfz10_1, hfz10_2⟩ := cz3 BK132; obtain ⟨hcz11_0, hcz11_1, hcz11_2, hcz11_3, hfz11_0, hfz11_1, hfz11_2, hfz11_3⟩ := cz4 BK133) | (go_at_call 99; (with_reducible refine (spec_l07Time.calls k _ _ l0_0 a1_0 a1_1 t134 _ ?side1 ?side2 A3.out).mono ?_); (case side1 => exact (have z0_ := HR0_0; Zq)); (case side2 => exact HC0_0.out); rintro e w' ⟨rfl, ⟨nd, rfl⟩⟩; (try first | exact ⟨rfl, _, World.drewN_drewN _ _ _⟩ | exact ⟨rfl, _, Eq.trans (World.drewN_drewN _ _ _) (congrArg (World.drewN _) (Nat.add_assoc _ _ _))⟩)) | (go_at_call 64; (with_reducible refine (spec_l03Find.calls k _ _ l0_1 a1_2 t135 _ ?side1 ?side2 A4.out).mono ?_); (case side1 => repeat (first | exact (Kd.C_below HR0_1.out (have z0_ := GE132; have z1_ := GE133; Zr)) | (with_reducible refine Kd.C_alloc ?_ _) | (with_reducible refine Kd.C_drewN ?_ _) | (with_reducible refine Kd.C_drew ?_))); (case side2 => exact HC0_1.out); rintro e w' ⟨rfl, ⟨nd, rfl⟩⟩; (try first | exact ⟨rfl, _, World.drewN_drewN _ _ _⟩ | exact ⟨rfl, _, Eq.trans (World.drewN_drewN _ _ _) (congrArg (World.drewN _) (Nat.add_assoc _ _ _))⟩); have p136 : 0 ≤ (t135 : Int) := of_decide_eq_true Zc; have q136 : t135 < (l0_1.length : Int) := of_decide_eq_true Zc; obtain ⟨ad136, e136, hx136_0, hx136_1, hx136_2, hx136_3, hx136_4, hx136_5, hx136_6, hx136_7, hx136_8⟩ := at_T62 HR0_1.out t135 p136 q136; cases e136; replace hx136_0 := cbH HB hx136_0; replace hx136_1 := cbH HB hx136_1; replace hx136_2 := cbH HB hx136_2; replace hx136_3 := cbH HB hx136_3; replace hx136_4 := cbH HB hx136_4; replace hx136_5 := cbH HB hx136_5; replace hx136_6 := cbH HB hx136_6; replace hx136_7 := cbH HB hx136_7; replace hx136_8 := cbH HB hx136_8; replace p136 := eq_true p136; replace q136 := eq_true q136)); try go_wp2_with (first | ((with_reducible refine gate_dst (N := 2) rfl ?_); refine boxZ 2 #[.slice A0_0 l0_0.length c0_0, .slice A0_1 l0_1.length c0_1, .slice A0_2 l0_2.length c0_2] 28 ?_; intro gb132 hg w7 hbox hb; replace BK132 := am_ (hbox); replace GW132 := am_ ((Zh : w.heap.size ≤ gb132)); replace GE132 := GW132; replace HB := (bsZ Zf hb); clear hb hbox hg) | ((with_reducible refine gate_dst (N := 3) rfl ?_); refine boxZ 3 #[.int .i64 a1_0, .int .i64 a1_1, .string a1_2, .int .i64 a1_3] 39 ?_; intro gb133 hg w8 hbox hb; replace BK133 := am_ (hbox); replace GW133 := am_ (((have z0_ := GE132; Zn) : w.heap.size ≤ gb133)); replace GE133 := GW133; replace HB := (bsZ (have z0_ := GE132; Zk) hb); replace NB132_133 := am_ (((have z0_ := BK132; Zaj) : gb132 ≠ gb133)); replace NB133_132 := am_ (((have z0_ := BK132; Zak) : gb133 ≠ gb132)); replace BK132 := (have z0_ := BK132; bkZ hb); clear hb hbox hg; have hnb9 := NB132_133.out; have hnc9 := NB133_132.out; obtain ⟨hcz10_0, hcz10_1, hcz10_2, hfz10_0, hfz10_1, hfz10_2⟩ := cz3 BK132; obtain ⟨hcz11_0, hcz11_1, hcz11_2, hcz11_3, hfz11_0, hfz11_1, hfz11_2, hfz11_3⟩ := cz4 BK133) | (go_at_call 99; (with_reducible refine (spec_l07Time.calls k _ _ l0_0 a1_0 a1_1 t134 _ ?side1 ?side2 A3.out).mono ?_); (case side1 => exact (have z0_ := HR0_0; Zq)); (case side2 => exact HC0_0.out); rintro e w' ⟨rfl, ⟨nd, rfl⟩⟩; (try first | exact ⟨rfl, _, World.drewN_drewN _ _ _⟩ | exact ⟨rfl, _, Eq.trans (World.drewN_drewN _ _ _) (congrArg (World.drewN _) (Nat.add_assoc _ _ _))⟩)) | (go_at_call 64; (with_reducible refine (spec_l03Find.calls k _ _ l0_1 a1_2 t135 _ ?side1 ?side2 A4.out).mono ?_); (case side1 => repeat (first | exact (Kd.C_below HR0_1.out (have z0_ := GE132; have z1_ := GE133; Zr)) | (with_reducible refine Kd.C_alloc ?_ _) | (with_reducible refine Kd.C_drewN ?_ _) | (with_reducible refine Kd.C_drew ?_))); (case side2 => exact HC0_1.out); rintro e w' ⟨rfl, ⟨nd, rfl⟩⟩; (try first | exact ⟨rfl, _, World.drewN_drewN _ _ _⟩ | exact ⟨rfl, _, Eq.trans (World.drewN_drewN _ _ _) (congrArg (World.drewN _) (Nat.add_assoc _ _ _))⟩); have p136 : 0 ≤ (t135 : Int) := of_decide_eq_true Zc; have q136 : t135 < (l0_1.length : Int) := of_decide_eq_true Zc; obtain ⟨ad136, e136, hx136_0, hx136_1, hx136_2, hx136_3, hx136_4, hx136_5, hx136_6, hx136_7, hx136_8⟩ := at_T62 HR0_1.out t135 p136 q136; cases e136; replace hx136_0 := cbH HB hx136_0; replace hx136_1 := cbH HB hx136_1; replace hx136_2 := cbH HB hx136_2; replace hx136_3 := cbH HB hx136_3; replace hx136_4 := cbH HB hx136_4; replace hx136_5 := cbH HB hx136_5; replace hx136_6 := cbH HB hx136_6; replace hx136_7 := cbH HB hx136_7; replace hx136_8 := cbH HB hx136_8; replace p136 := eq_true p136; replace q136 := eq_true q136)))
   go_ret
   exact ⟨by first | rfl | (simp only [i64_w]; done) | (simp only [i64_w]; rfl) | (simp [errW_none, errW_some] <;> rfl) | (simp [*, errW_none, errW_some] <;> rfl), (have z0_ := GE132; have z1_ := GE133; Zr)⟩
  ·rw [if_neg c6] at H
   exact absurd H (by simp)
 ·rw [if_neg c5] at H
  exact absurd H (by simp)
mutual
def spec_IsShow.j0 : Nat → Bool → List (S104) → List (S62) → List (S39) → Option (Bool)
 | 0, _, _, _, _ => none
 | k + 1, x20, x138000, x138001, x138002 => if x20 = true then (some false) else (spec_IsShow.l0 k 0 x138000 x138001 x138002)
def spec_IsShow.l0 : Nat → Int → List (S104) → List (S62) → List (S39) → Option (Bool)
 | 0, _, _, _, _ => none
 | k + 1, x3, x138000, x138001, x138002 => if x3 < (x138002.length : Int) then (if 0 ≤ x3 then ((spec_l07Has.f x138000 ((rd_T39 x138002 x3).f0) ((rd_T39 x138002 x3).f1)).bind fun t142 => (if t142 = true then ((spec_l03Find.f k x138001 ((rd_T39 x138002 x3).f2)).bind fun t143 => (if t143 < 0 then (some false) else ((spec_l01In.f ((rd_T39 x138002 x3).f3) 0 11).bind fun t144 => (if t144 = true then ((spec_l08Time.f k x138000 x138001 x138002 ((rd_T39 x138002 x3).f0) ((rd_T39 x138002 x3).f1) ((rd_T39 x138002 x3).f2) ((rd_T39 x138002 x3).f3)).bind fun t145 => (if t145 < 0 then (some false) else (spec_IsShow.l0 k (wrap64 (x3 + 1)) x138000 x138001 x138002))) else (some false))))) else (some false))) else (none)) else (some true)
end
def spec_IsShow.f (k : Nat) (l0_0 : List (S104)) (l0_1 : List (S62)) (l0_2 : List (S39)) : Option (Bool) := (spec_IsScore.f k l0_0).bind fun t138 => (if t138 = true then ((spec_AreArticles.f k l0_1).bind fun t139 => (if t139 = true then (spec_IsShow.j0 k (decide ((l0_2.length : Int) > 20)) l0_0 l0_1 l0_2) else (spec_IsShow.j0 k true l0_0 l0_1 l0_2))) else (spec_IsShow.j0 k true l0_0 l0_1 l0_2))
set_option maxHeartbeats 8000000 in
set_option maxRecDepth 100000 in
theorem spec_IsShow.calls (k : Nat) (A0_0 : Option Addr) (c0_0 : Nat) (l0_0 : List (S104)) (A0_1 : Option Addr) (c0_1 : Nat) (l0_1 : List (S62)) (A0_2 : Option Addr) (c0_2 : Nat) (l0_2 : List (S39)) (r : Bool) (w : World) (hr0_0 : Kd.C k104 w A0_0 l0_0.length l0_0) (hc0_0 : l0_0.length ≤ c0_0) (hr0_1 : Kd.C k62 w A0_1 l0_1.length l0_1) (hc0_1 : l0_1.length ≤ c0_1) (hr0_2 : Kd.C k39 w A0_2 l0_2.length l0_2) (hc0_2 : l0_2.length ≤ c0_2) (h : spec_IsShow.f k l0_0 l0_1 l0_2 = some r) :
  Calls Try.prog 56 #[.agg #[.slice A0_0 l0_0.length c0_0, .slice A0_1 l0_1.length c0_1, .slice A0_2 l0_2.length c0_2]] w fun e w' => e = .returned (.bool r) ∧ Below w.heap.size w w' := by
 have hu28 := Try.underlying28; have hu39 := Try.underlying39; have HR0_0 := am_ hr0_0; have HC0_0 := am_ hc0_0; clear hr0_0 hc0_0; have HR0_1 := am_ hr0_1; have HC0_1 := am_ hc0_1; clear hr0_1 hc0_1; have HR0_2 := am_ hr0_2; have HC0_2 := am_ hc0_2; clear hr0_2 hc0_2; have HB := am_ (Below.refl w.heap.size w); have H : ((spec_IsScore.f k l0_0).bind fun t138 => (if t138 = true then ((spec_AreArticles.f k l0_1).bind fun t139 => (if t139 = true then (spec_IsShow.j0 k (decide ((l0_2.length : Int) > 20)) l0_0 l0_1 l0_2) else (spec_IsShow.j0 k true l0_0 l0_1 l0_2))) else (spec_IsShow.j0 k true l0_0 l0_1 l0_2))) = some r := h; clear h; have HC2 := am_ H; clear H
 go_enter Try.func56, Try.ntmps56
 go_upto_region 1 with (first | ((with_reducible refine gate_dst (N := 1) rfl ?_); (try (refine gate_guard (by rfl) ?_; dsimp only)); refine boxZ 1 #[.slice A0_0 l0_0.length c0_0, .slice A0_1 l0_1.length c0_1, .slice A0_2 l0_2.length c0_2] 28 ?_; intro gb137 hg w3 hbox hb; replace BK137 := am_ (hbox); replace GW137 := am_ ((Zh : w.heap.size ≤ gb137)); replace GE137 := GW137; replace HB := (bsZ Zf hb); clear hb hbox hg))
 (try simp only [Act.put, List.setIfInBounds_toArray, List.set_cons_zero, List.set_cons_succ])
 go_cut [20] (fun v20 wc => ∃ (kq : Nat) (x20_1 : Bool), v20 = .bool x20_1 ∧ Aside0 (spec_IsShow.j0 kq x20_1 l0_0 l0_1 l0_2 = some r) ∧ Aside0 (kq ≤ k) ∧ Aside0 (wc.heap[gb137]? = some (.cells #[(.slice A0_0 l0_0.length c0_0), (.slice A0_1 l0_1.length c0_1), (.slice A0_2 l0_2.length c0_2)] 28 (0, 0))) ∧ Aside0 (Below w.heap.size w wc))
 case first =>
  have H := HC2.out; clear HC2; replace H := Option.bind_eq_some_iff.mp H; obtain ⟨t138, A40, H⟩ := H; have A4 := am_ A40; clear A40
  by_cases c5 : t138 = true
  ·subst c5
   have H1 : ((spec_AreArticles.f k l0_1).bind fun t139 => (if t139 = true then (spec_IsShow.j0 k (decide ((l0_2.length : Int) > 20)) l0_0 l0_1 l0_2) else (spec_IsShow.j0 k true l0_0 l0_1 l0_2))) = some r := by rw [if_pos rfl] at H; exact H
   clear H; have H := H1; clear H1; replace H := Option.bind_eq_some_iff.mp H; obtain ⟨t139, A60, H⟩ := H; have A6 := am_ A60; clear A60
   by_cases c7 : t139 = true
   ·subst c7
    have H1 : (spec_IsShow.j0 k (decide ((l0_2.length : Int) > 20)) l0_0 l0_1 l0_2) = some r := by rw [if_pos rfl] at H; exact H
    clear H; have H := H1; clear H1; have H' := am_ H; clear H; obtain ⟨hcz8_0, hcz8_1, hcz8_2, hfz8_0, hfz8_1, hfz8_2⟩ := cz3 BK137
    go_wp2_with (first | ((with_reducible refine gate_callee (f := 88) rfl ?_); refine goesL_ (some 7) rfl rfl Try.func88 Zi rfl #[.slice A0_0 l0_0.length c0_0] rfl Zj ?_; (with_reducible refine (spec_IsScore.calls k _ _ l0_0 true _ ?side1 ?side2 A4.out).mono ?_); (case side1 => exact (have z0_ := HR0_0; Zq)); (case side2 => exact HC0_0.out); rintro e w' ⟨rfl, ⟨nd, rfl⟩⟩; refine ⟨_, rfl, ?_⟩) | (go_at_call 81; (with_reducible refine (spec_AreArticles.calls k _ _ l0_1 true _ ?side1 ?side2 A6.out).mono ?_); (case side1 => repeat (first | exact (Kd.C_below HR0_1.out (have z0_ := GE137; Zk)) | (with_reducible refine Kd.C_alloc ?_ _) | (with_reducible refine Kd.C_drewN ?_ _) | (with_reducible refine Kd.C_drew ?_))); (case side2 => exact HC0_1.out); rintro e w9 ⟨rfl, hb⟩; replace BK137 := (have z0_ := BK137; bkZ hb); replace HB := (bsZ (have z0_ := GE137; Zk) hb); (try clear hb); (try clear hb2); (try clear hk); (try clear hi); obtain ⟨hcz10_0, hcz10_1, hcz10_2, hfz10_0, hfz10_1, hfz10_2⟩ := cz3 BK137))
    go_meet
    case rel => exact ⟨_, (decide ((l0_2.length : Int) > 20)), Za, H', ⟨Ze⟩, ⟨(have z0_ := BK137; Zs)⟩, ⟨(have z0_ := GE137; Zk)⟩⟩
   ·replace c7 := Bool.eq_false_iff.mpr c7
    subst c7
    have H1 : (spec_IsShow.j0 k true l0_0 l0_1 l0_2) = some r := by rw [if_neg (show ¬ (false = true) by decide)] at H; exact H
    clear H; have H := H1; clear H1; have H' := am_ H; clear H; obtain ⟨hcz11_0, hcz11_1, hcz11_2, hfz11_0, hfz11_1, hfz11_2⟩ := cz3 BK137
    go_wp2_with (first | ((with_reducible refine gate_callee (f := 88) rfl ?_); refine goesL_ (some 7) rfl rfl Try.func88 Zi rfl #[.slice A0_0 l0_0.length c0_0] rfl Zj ?_; (with_reducible refine (spec_IsScore.calls k _ _ l0_0 true _ ?side1 ?side2 A4.out).mono ?_); (case side1 => exact (have z0_ := HR0_0; Zq)); (case side2 => exact HC0_0.out); rintro e w' ⟨rfl, ⟨nd, rfl⟩⟩; refine ⟨_, rfl, ?_⟩) | (go_at_call 81; (with_reducible refine (spec_AreArticles.calls k _ _ l0_1 false _ ?side1 ?side2 A6.out).mono ?_); (case side1 => repeat (first | exact (Kd.C_below HR0_1.out (have z0_ := GE137; Zk)) | (with_reducible refine Kd.C_alloc ?_ _) | (with_reducible refine Kd.C_drewN ?_ _) | (with_reducible refine Kd.C_drew ?_))); (case side2 => exact HC0_1.out); rintro e w12 ⟨rfl, hb⟩; replace BK137 := (have z0_ := BK137; bkZ hb); replace HB := (bsZ (have z0_ := GE137; Zk) hb); (try clear hb); (try clear hb2); (try clear hk); (try clear hi)))
    go_meet
    case rel => exact ⟨_, (true), Za, H', ⟨Ze⟩, ⟨(have z0_ := BK137; Zs)⟩, ⟨(have z0_ := GE137; Zk)⟩⟩
  ·replace c5 := Bool.eq_false_iff.mpr c5
   subst c5
   have H1 : (spec_IsShow.j0 k true l0_0 l0_1 l0_2) = some r := by rw [if_neg (show ¬ (false = true) by decide)] at H; exact H
   clear H; have H := H1; clear H1; have H' := am_ H; clear H; obtain ⟨hcz13_0, hcz13_1, hcz13_2, hfz13_0, hfz13_1, hfz13_2⟩ := cz3 BK137
   go_wp2_with (first | ((with_reducible refine gate_callee (f := 88) rfl ?_); refine goesL_ (some 7) rfl rfl Try.func88 Zi rfl #[.slice A0_0 l0_0.length c0_0] rfl Zj ?_; (with_reducible refine (spec_IsScore.calls k _ _ l0_0 false _ ?side1 ?side2 A4.out).mono ?_); (case side1 => exact (have z0_ := HR0_0; Zq)); (case side2 => exact HC0_0.out); rintro e w' ⟨rfl, ⟨nd, rfl⟩⟩; refine ⟨_, rfl, ?_⟩))
   go_meet
   case rel => exact ⟨_, (true), Za, H', ⟨Ze⟩, ⟨(have z0_ := BK137; Zs)⟩, ⟨(have z0_ := GE137; Zk)⟩⟩
 case rest =>
  clear HC2
  try clear p2
  try clear c5
  try clear c7
  try clear c8
  try clear hcz10_0
  try clear hcz10_1
  try clear hcz10_2
  try clear hcz11_0
  try clear hcz11_1
  try clear hcz11_2
  try clear hcz13_0
  try clear hcz13_1
  try clear hcz13_2
  try clear hcz8_0
  try clear hcz8_1
  try clear hcz8_2
  try clear hfz10_0
  try clear hfz10_1
  try clear hfz10_2
  try clear hfz11_0
  try clear hfz11_1
  try clear hfz11_2
  try clear hfz13_0
  try clear hfz13_1
  try clear hfz13_2
  try clear hfz8_0
  try clear hfz8_1
  try clear hfz8_2
  obtain ⟨kq, x20_1, rfl, HA, HJ1, BK137, HB⟩ := hcut
  cases kq with
  | zero => exact absurd HA.out (by simp [spec_IsShow.j0])
  | succ kj1 =>
   have H := HA.out; clear HA; simp only [spec_IsShow.j0] at H
   by_cases c14 : x20_1 = true
   ·subst c14
    have H1 : (some false) = some r := by rw [if_pos rfl] at H; exact H
    clear H; have H := H1; clear H1; obtain rfl := Option.some.inj H
    go_wp2
    go_ret
    exact ⟨Zg, (have z0_ := GE137; Zk)⟩
   ·replace c14 := Bool.eq_false_iff.mpr c14
    subst c14
    have H1 : (spec_IsShow.l0 kj1 0 l0_0 l0_1 l0_2) = some r := by rw [if_neg (show ¬ (false = true) by decide)] at H; exact H
    clear H; have H := H1; clear H1; have H' := am_ H; clear H
    go_wp2
    go_loopg [3] kj1 (fun kq v3 w' => ∃ (x3_2 : Int), v3 = .int .i64 x3_2 ∧ Aside0 (spec_IsShow.l0 kq x3_2 l0_0 l0_1 l0_2 = some r) ∧ Aside0 (kq ≤ kj1) ∧ Aside0 (w'.heap[gb137]? = some (.cells #[(.slice A0_0 l0_0.length c0_0), (.slice A0_1 l0_1.length c0_1), (.slice A0_2 l0_2.length c0_2)] 28 (0, 0))) ∧ Aside0 (Below w.heap.size w w'))
    case atStart => exact ⟨(0), Za, H', ⟨Nat.le_refl _⟩, ⟨(have z0_ := BK137; Zs)⟩, ⟨(have z0_ := GE137; Zk)⟩⟩
    case round =>
     clear H'
     try clear c1
     try clear p2
     try clear c5
     try clear c7
     try clear c8
     try clear c14
     try clear hcz10_0
     try clear hcz10_1
     try clear hcz10_2
     try clear hcz11_0
     try clear hcz11_1
     try clear hcz11_2
     try clear hcz13_0
     try clear hcz13_1
     try clear hcz13_2
     try clear hcz8_0
     try clear hcz8_1
     try clear hcz8_2
     try clear hfz10_0
     try clear hfz10_1
     try clear hfz10_2
     try clear hfz11_0
     try clear hfz11_1
     try clear hfz11_2
     try clear hfz13_0
     try clear hfz13_1
     try clear hfz13_2
     try clear hfz8_0
     try clear hfz8_1
     try clear hfz8_2
     try clear p2
     obtain ⟨x3_2, rfl, HA, HK2, BK137, HB⟩ := hrel
     cases gk with
     | zero => exact absurd HA.out (by simp [spec_IsShow.l0])
     | succ k2 =>
      have H := HA.out; clear HA; simp only [spec_IsShow.l0] at H
      by_cases c15 : x3_2 < (l0_2.length : Int)
      ·rw [if_pos c15] at H
       have c15b0 := decide_eq_true c15; clear c15
       by_cases c16 : 0 ≤ x3_2
       ·rw [if_pos c16] at H
        have c16b0 := decide_eq_true c16; clear c16; replace H := Option.bind_eq_some_iff.mp H; obtain ⟨t142, A170, H⟩ := H; have A17 := am_ A170; clear A170
        by_cases c18 : t142 = true
        ·subst c18
         have H1 : ((spec_l03Find.f k2 l0_1 ((rd_T39 l0_2 x3_2).f2)).bind fun t143 => (if t143 < 0 then (some false) else ((spec_l01In.f ((rd_T39 l0_2 x3_2).f3) 0 11).bind fun t144 => (if t144 = true then ((spec_l08Time.f k2 l0_0 l0_1 l0_2 ((rd_T39 l0_2 x3_2).f0) ((rd_T39 l0_2 x3_2).f1) ((rd_T39 l0_2 x3_2).f2) ((rd_T39 l0_2 x3_2).f3)).bind fun t145 => (if t145 < 0 then (some false) else (spec_IsShow.l0 k2 (wrap64 (x3_2 + 1)) l0_0 l0_1 l0_2))) else (some false))))) = some r := by rw [if_pos rfl] at H; exact H
         clear H; have H := H1; clear H1; replace H := Option.bind_eq_some_iff.mp H; obtain ⟨t143, A190, H⟩ := H; have A19 := am_ A190; clear A190
         by_cases c20 : t143 < 0
         ·rw [if_pos c20] at H
          have c20b0 := decide_eq_true c20; clear c20; obtain rfl := Option.some.inj H; refine ci3 BK137 ?_; intros; have p140 : 0 ≤ (x3_2 : Int) := of_decide_eq_true Zc; have q140 : x3_2 < (l0_2.length : Int) := of_decide_eq_true Zc; obtain ⟨ad140, e140, hx140_0, hx140_1, hx140_2, hx140_3⟩ := at_T39 HR0_2.out x3_2 p140 q140
          cases e140
          replace hx140_0 := cbH HB hx140_0; replace hx140_1 := cbH HB hx140_1; replace hx140_2 := cbH HB hx140_2; replace hx140_3 := cbH HB hx140_3; replace p140 := eq_true p140; replace q140 := eq_true q140
          go_wp2_with (first | ((with_reducible refine gate_dst (N := 4) rfl ?_); (try (refine gate_guard (by rfl) ?_; dsimp only)); refine boxZ 4 #[.int .i64 0, .int .i64 0, .string (⟨#[]⟩ : ByteArray), .int .i64 0] 39 ?_; intro gb141 hg w22 hbox hb; replace BK141 := am_ (hbox); replace GW141 := am_ (((have z0_ := GE137; Zn) : w.heap.size ≤ gb141)); replace GE141 := GW141; replace HB := (bsZ (have z0_ := GE137; Zk) hb); replace NB137_141 := am_ (((have z0_ := BK137; Zal) : gb137 ≠ gb141)); replace NB141_137 := am_ (((have z0_ := BK137; Zam) : gb141 ≠ gb137)); replace BK137 := (have z0_ := BK137; bkZ hb); clear hb hbox hg; have hnb23 := NB141_137.out; have hnc23 := NB137_141.out; refine ci4 BK141 ?_; intros; refine ci3 BK137 ?_; intros) | ((with_reducible refine gate_callee (f := 89) rfl ?_); refine goesL_ (some 39) rfl rfl Try.func89 Zi rfl #[.slice A0_0 l0_0.length c0_0, .int .i64 ((rd_T39 l0_2 x3_2).f0), .int .i64 ((rd_T39 l0_2 x3_2).f1)] rfl Zj ?_; (with_reducible refine (spec_l07Has.calls _ _ l0_0 ((rd_T39 l0_2 x3_2).f0) ((rd_T39 l0_2 x3_2).f1) true _ ?side1 ?side2 A17.out).mono ?_); (case side1 => exact Kd.C_below HR0_0.out (have z0_ := GE137; have z1_ := GE141; Zr)); (case side2 => exact HC0_0.out); rintro e w' ⟨rfl, ⟨nd, rfl⟩⟩; refine ⟨_, rfl, ?_⟩) | (go_at_call 64; (with_reducible refine (spec_l03Find.calls k2 _ _ l0_1 ((rd_T39 l0_2 x3_2).f2) t143 _ ?side1 ?side2 A19.out).mono ?_); (case side1 => exact Kd.C_below HR0_1.out (have z0_ := GE137; have z1_ := GE141; Zr)); (case side2 => exact HC0_1.out); rintro e w' ⟨rfl, ⟨nd, rfl⟩⟩))
          go_ret
          exact ⟨Zg, (have z0_ := GE137; have z1_ := GE141; Zr)⟩
         ·rw [if_neg c20] at H
          have c20b0 := decide_eq_false c20; clear c20; replace H := Option.bind_eq_some_iff.mp H; obtain ⟨t144, A260, H⟩ := H; have A26 := am_ A260; clear A260
          by_cases c27 : t144 = true
          ·subst c27
           have H1 : ((spec_l08Time.f k2 l0_0 l0_1 l0_2 ((rd_T39 l0_2 x3_2).f0) ((rd_T39 l0_2 x3_2).f1) ((rd_T39 l0_2 x3_2).f2) ((rd_T39 l0_2 x3_2).f3)).bind fun t145 => (if t145 < 0 then (some false) else (spec_IsShow.l0 k2 (wrap64 (x3_2 + 1)) l0_0 l0_1 l0_2))) = some r := by rw [if_pos rfl] at H; exact H
           clear H; have H := H1; clear H1; replace H := Option.bind_eq_some_iff.mp H; obtain ⟨t145, A280, H⟩ := H; have A28 := am_ A280; clear A280
           by_cases c29 : t145 < 0
           ·rw [if_pos c29] at H
            have c29b0 := decide_eq_true c29; clear c29; obtain rfl := Option.some.inj H; refine ci3 BK137 ?_; intros; have p140 : 0 ≤ (x3_2 : Int) := of_decide_eq_true Zc; have q140 : x3_2 < (l0_2.length : Int) := of_decide_eq_true Zc; obtain ⟨ad140, e140, hx140_0, hx140_1, hx140_2, hx140_3⟩ := at_T39 HR0_2.out x3_2 p140 q140
            cases e140
            replace hx140_0 := cbH HB hx140_0; replace hx140_1 := cbH HB hx140_1; replace hx140_2 := cbH HB hx140_2; replace hx140_3 := cbH HB hx140_3; replace p140 := eq_true p140; replace q140 := eq_true q140
            go_wp2_with (first | ((with_reducible refine gate_dst (N := 4) rfl ?_); (try (refine gate_guard (by rfl) ?_; dsimp only)); refine boxZ 4 #[.int .i64 0, .int .i64 0, .string (⟨#[]⟩ : ByteArray), .int .i64 0] 39 ?_; intro gb141 hg w31 hbox hb; replace BK141 := am_ (hbox); replace GW141 := am_ (((have z0_ := GE137; Zn) : w.heap.size ≤ gb141)); replace GE141 := GW141; replace HB := (bsZ (have z0_ := GE137; Zk) hb); replace NB137_141 := am_ (((have z0_ := BK137; Zal) : gb137 ≠ gb141)); replace NB141_137 := am_ (((have z0_ := BK137; Zam) : gb141 ≠ gb137)); replace BK137 := (have z0_ := BK137; bkZ hb); clear hb hbox hg; have hnb32 := NB141_137.out; have hnc32 := NB137_141.out; refine ci4 BK141 ?_; intros; refine ci3 BK137 ?_; intros) | ((with_reducible refine gate_callee (f := 89) rfl ?_); refine goesL_ (some 39) rfl rfl Try.func89 Zi rfl #[.slice A0_0 l0_0.length c0_0, .int .i64 ((rd_T39 l0_2 x3_2).f0), .int .i64 ((rd_T39 l0_2 x3_2).f1)] rfl Zj ?_; (with_reducible refine (spec_l07Has.calls _ _ l0_0 ((rd_T39 l0_2 x3_2).f0) ((rd_T39 l0_2 x3_2).f1) true _ ?side1 ?side2 A17.out).mono ?_); (case side1 => exact Kd.C_below HR0_0.out (have z0_ := GE137; have z1_ := GE141; Zr)); (case side2 => exact HC0_0.out); rintro e w' ⟨rfl, ⟨nd, rfl⟩⟩; refine ⟨_, rfl, ?_⟩) | (go_at_call 64; (with_reducible refine (spec_l03Find.calls k2 _ _ l0_1 ((rd_T39 l0_2 x3_2).f2) t143 _ ?side1 ?side2 A19.out).mono ?_); (case side1 => exact Kd.C_below HR0_1.out (have z0_ := GE137; have z1_ := GE141; Zr)); (case side2 => exact HC0_1.out); rintro e w' ⟨rfl, ⟨nd, rfl⟩⟩) | (go_at_call 57; (with_reducible refine (spec_l01In.calls ((rd_T39 l0_2 x3_2).f3) 0 11 true _ A26.out).mono ?_); rintro e w' ⟨rfl, ⟨nd, rfl⟩⟩) | (go_at_call 90; (with_reducible refine (spec_l08Time.calls k2 _ _ l0_0 _ _ l0_1 _ _ l0_2 ((rd_T39 l0_2 x3_2).f0) ((rd_T39 l0_2 x3_2).f1) ((rd_T39 l0_2 x3_2).f2) ((rd_T39 l0_2 x3_2).f3) t145 _ ?side1 ?side2 ?side3 ?side4 ?side5 ?side6 A28.out).mono ?_); (case side1 => exact Kd.C_below HR0_0.out (have z0_ := GE137; have z1_ := GE141; Zr)); (case side2 => exact HC0_0.out); (case side3 => exact Kd.C_below HR0_1.out (have z0_ := GE137; have z1_ := GE141; Zr)); (case side4 => exact HC0_1.out); (case side5 => exact Kd.C_below HR0_2.out (have z0_ := GE137; have z1_ := GE141; Zr)); (case side6 => exact HC0_2.out); rintro e w35 ⟨rfl, hb⟩; replace BK137 := am_ (blk_below (g := gb137) (o := .cells #[.slice A0_0 l0_0.length c0_0, .slice A0_1 l0_1.length c0_1, .slice (some ad140) l0_2.length c0_2] 28 (0, 0)) (have z0_ := NB137_141; have z1_ := BK137; Zw) hb); replace BK141 := am_ (blk_below (g := gb141) (o := .cells #[.int .i64 ((rd_T39 l0_2 x3_2).f0), .int .i64 ((rd_T39 l0_2 x3_2).f1), .string ((rd_T39 l0_2 x3_2).f2), .int .i64 ((rd_T39 l0_2 x3_2).f3)] 39 (0, 0)) (have z0_ := BK141; Zan) hb); replace HB := (bsZ (have z0_ := GE137; have z1_ := GE141; Zr) hb); (try clear hb); (try clear hb2); (try clear hk); (try clear hi)))
            go_ret
            exact ⟨Zg, (have z0_ := GE137; have z1_ := GE141; Zr)⟩
           ·rw [if_neg c29] at H
            have c29b0 := decide_eq_false c29; clear c29; have H' := am_ H; clear H; refine ci3 BK137 ?_; intros; have p140 : 0 ≤ (x3_2 : Int) := of_decide_eq_true Zc; have q140 : x3_2 < (l0_2.length : Int) := of_decide_eq_true Zc; obtain ⟨ad140, e140, hx140_0, hx140_1, hx140_2, hx140_3⟩ := at_T39 HR0_2.out x3_2 p140 q140
            cases e140
            replace hx140_0 := cbH HB hx140_0; replace hx140_1 := cbH HB hx140_1; replace hx140_2 := cbH HB hx140_2; replace hx140_3 := cbH HB hx140_3; replace p140 := eq_true p140; replace q140 := eq_true q140
            go_wp2_with (first | ((with_reducible refine gate_dst (N := 4) rfl ?_); (try (refine gate_guard (by rfl) ?_; dsimp only)); refine boxZ 4 #[.int .i64 0, .int .i64 0, .string (⟨#[]⟩ : ByteArray), .int .i64 0] 39 ?_; intro gb141 hg w37 hbox hb; replace BK141 := am_ (hbox); replace GW141 := am_ (((have z0_ := GE137; Zn) : w.heap.size ≤ gb141)); replace GE141 := GW141; replace HB := (bsZ (have z0_ := GE137; Zk) hb); replace NB137_141 := am_ (((have z0_ := BK137; Zal) : gb137 ≠ gb141)); replace NB141_137 := am_ (((have z0_ := BK137; Zam) : gb141 ≠ gb137)); replace BK137 := (have z0_ := BK137; bkZ hb); clear hb hbox hg; have hnb38 := NB141_137.out; have hnc38 := NB137_141.out; refine ci4 BK141 ?_; intros; refine ci3 BK137 ?_; intros) | ((with_reducible refine gate_callee (f := 89) rfl ?_); refine goesL_ (some 39) rfl rfl Try.func89 Zi rfl #[.slice A0_0 l0_0.length c0_0, .int .i64 ((rd_T39 l0_2 x3_2).f0), .int .i64 ((rd_T39 l0_2 x3_2).f1)] rfl Zj ?_; (with_reducible refine (spec_l07Has.calls _ _ l0_0 ((rd_T39 l0_2 x3_2).f0) ((rd_T39 l0_2 x3_2).f1) true _ ?side1 ?side2 A17.out).mono ?_); (case side1 => exact Kd.C_below HR0_0.out (have z0_ := GE137; have z1_ := GE141; Zr)); (case side2 => exact HC0_0.out); rintro e w' ⟨rfl, ⟨nd, rfl⟩⟩; refine ⟨_, rfl, ?_⟩) | (go_at_call 64; (with_reducible refine (spec_l03Find.calls k2 _ _ l0_1 ((rd_T39 l0_2 x3_2).f2) t143 _ ?side1 ?side2 A19.out).mono ?_); (case side1 => exact Kd.C_below HR0_1.out (have z0_ := GE137; have z1_ := GE141; Zr)); (case side2 => exact HC0_1.out); rintro e w' ⟨rfl, ⟨nd, rfl⟩⟩) | (go_at_call 57; (with_reducible refine (spec_l01In.calls ((rd_T39 l0_2 x3_2).f3) 0 11 true _ A26.out).mono ?_); rintro e w' ⟨rfl, ⟨nd, rfl⟩⟩) | (go_at_call 90; (with_reducible refine (spec_l08Time.calls k2 _ _ l0_0 _ _ l0_1 _ _ l0_2 ((rd_T39 l0_2 x3_2).f0) ((rd_T39 l0_2 x3_2).f1) ((rd_T39 l0_2 x3_2).f2) ((rd_T39 l0_2 x3_2).f3) t145 _ ?side1 ?side2 ?side3 ?side4 ?side5 ?side6 A28.out).mono ?_); (case side1 => exact Kd.C_below HR0_0.out (have z0_ := GE137; have z1_ := GE141; Zr)); (case side2 => exact HC0_0.out); (case side3 => exact Kd.C_below HR0_1.out (have z0_ := GE137; have z1_ := GE141; Zr)); (case side4 => exact HC0_1.out); (case side5 => exact Kd.C_below HR0_2.out (have z0_ := GE137; have z1_ := GE141; Zr)); (case side6 => exact HC0_2.out); rintro e w41 ⟨rfl, hb⟩; replace BK137 := am_ (blk_below (g := gb137) (o := .cells #[.slice A0_0 l0_0.length c0_0, .slice A0_1 l0_1.length c0_1, .slice (some ad140) l0_2.length c0_2] 28 (0, 0)) (have z0_ := NB137_141; have z1_ := BK137; Zw) hb); replace BK141 := am_ (blk_below (g := gb141) (o := .cells #[.int .i64 ((rd_T39 l0_2 x3_2).f0), .int .i64 ((rd_T39 l0_2 x3_2).f1), .string ((rd_T39 l0_2 x3_2).f2), .int .i64 ((rd_T39 l0_2 x3_2).f3)] 39 (0, 0)) (have z0_ := BK141; Zan) hb); replace HB := (bsZ (have z0_ := GE137; have z1_ := GE141; Zr) hb); (try clear hb); (try clear hb2); (try clear hk); (try clear hi)))
            go_roundg k2
            case measure => have := HJ1.out; have := HK2.out; omega
            case rel => exact ⟨(wrap64 (x3_2 + 1)), Za, H', ⟨by have := HJ1.out; have := HK2.out; omega⟩, ⟨(have z0_ := BK137; Zs)⟩, ⟨(have z0_ := GE137; have z1_ := GE141; Zr)⟩⟩
          ·replace c27 := Bool.eq_false_iff.mpr c27
           subst c27
           have H1 : (some false) = some r := by rw [if_neg (show ¬ (false = true) by decide)] at H; exact H
           clear H; have H := H1; clear H1; obtain rfl := Option.some.inj H; refine ci3 BK137 ?_; intros; have p140 : 0 ≤ (x3_2 : Int) := of_decide_eq_true Zc; have q140 : x3_2 < (l0_2.length : Int) := of_decide_eq_true Zc; obtain ⟨ad140, e140, hx140_0, hx140_1, hx140_2, hx140_3⟩ := at_T39 HR0_2.out x3_2 p140 q140
           cases e140
           replace hx140_0 := cbH HB hx140_0; replace hx140_1 := cbH HB hx140_1; replace hx140_2 := cbH HB hx140_2; replace hx140_3 := cbH HB hx140_3; replace p140 := eq_true p140; replace q140 := eq_true q140
           go_wp2_with (first | ((with_reducible refine gate_dst (N := 4) rfl ?_); (try (refine gate_guard (by rfl) ?_; dsimp only)); refine boxZ 4 #[.int .i64 0, .int .i64 0, .string (⟨#[]⟩ : ByteArray), .int .i64 0] 39 ?_; intro gb141 hg w43 hbox hb; replace BK141 := am_ (hbox); replace GW141 := am_ (((have z0_ := GE137; Zn) : w.heap.size ≤ gb141)); replace GE141 := GW141; replace HB := (bsZ (have z0_ := GE137; Zk) hb); replace NB137_141 := am_ (((have z0_ := BK137; Zal) : gb137 ≠ gb141)); replace NB141_137 := am_ (((have z0_ := BK137; Zam) : gb141 ≠ gb137)); replace BK137 := (have z0_ := BK137; bkZ hb); clear hb hbox hg; have hnb44 := NB141_137.out; have hnc44 := NB137_141.out; refine ci4 BK141 ?_; intros; refine ci3 BK137 ?_; intros) | ((with_reducible refine gate_callee (f := 89) rfl ?_); refine goesL_ (some 39) rfl rfl Try.func89 Zi rfl #[.slice A0_0 l0_0.length c0_0, .int .i64 ((rd_T39 l0_2 x3_2).f0), .int .i64 ((rd_T39 l0_2 x3_2).f1)] rfl Zj ?_; (with_reducible refine (spec_l07Has.calls _ _ l0_0 ((rd_T39 l0_2 x3_2).f0) ((rd_T39 l0_2 x3_2).f1) true _ ?side1 ?side2 A17.out).mono ?_); (case side1 => exact Kd.C_below HR0_0.out (have z0_ := GE137; have z1_ := GE141; Zr)); (case side2 => exact HC0_0.out); rintro e w' ⟨rfl, ⟨nd, rfl⟩⟩; refine ⟨_, rfl, ?_⟩) | (go_at_call 64; (with_reducible refine (spec_l03Find.calls k2 _ _ l0_1 ((rd_T39 l0_2 x3_2).f2) t143 _ ?side1 ?side2 A19.out).mono ?_); (case side1 => exact Kd.C_below HR0_1.out (have z0_ := GE137; have z1_ := GE141; Zr)); (case side2 => exact HC0_1.out); rintro e w' ⟨rfl, ⟨nd, rfl⟩⟩) | (go_at_call 57; (with_reducible refine (spec_l01In.calls ((rd_T39 l0_2 x3_2).f3) 0 11 false _ A26.out).mono ?_); rintro e w' ⟨rfl, ⟨nd, rfl⟩⟩))
           go_ret
           exact ⟨Zg, (have z0_ := GE137; have z1_ := GE141; Zr)⟩
        ·replace c18 := Bool.eq_false_iff.mpr c18
         subst c18
         have H1 : (some false) = some r := by rw [if_neg (show ¬ (false = true) by decide)] at H; exact H
         clear H; have H := H1; clear H1; obtain rfl := Option.some.inj H; refine ci3 BK137 ?_; intros; have p140 : 0 ≤ (x3_2 : Int) := of_decide_eq_true Zc; have q140 : x3_2 < (l0_2.length : Int) := of_decide_eq_true Zc; obtain ⟨ad140, e140, hx140_0, hx140_1, hx140_2, hx140_3⟩ := at_T39 HR0_2.out x3_2 p140 q140
         cases e140
         replace hx140_0 := cbH HB hx140_0; replace hx140_1 := cbH HB hx140_1; replace hx140_2 := cbH HB hx140_2; replace hx140_3 := cbH HB hx140_3; replace p140 := eq_true p140; replace q140 := eq_true q140
         go_wp2_with (first | ((with_reducible refine gate_dst (N := 4) rfl ?_); (try (refine gate_guard (by rfl) ?_; dsimp only)); refine boxZ 4 #[.int .i64 0, .int .i64 0, .string (⟨#[]⟩ : ByteArray), .int .i64 0] 39 ?_; intro gb141 hg w48 hbox hb; replace BK141 := am_ (hbox); replace GW141 := am_ (((have z0_ := GE137; Zn) : w.heap.size ≤ gb141)); replace GE141 := GW141; replace HB := (bsZ (have z0_ := GE137; Zk) hb); replace NB137_141 := am_ (((have z0_ := BK137; Zal) : gb137 ≠ gb141)); replace NB141_137 := am_ (((have z0_ := BK137; Zam) : gb141 ≠ gb137)); replace BK137 := (have z0_ := BK137; bkZ hb); clear hb hbox hg; have hnb49 := NB141_137.out; have hnc49 := NB137_141.out; refine ci4 BK141 ?_; intros; refine ci3 BK137 ?_; intros) | ((with_reducible refine gate_callee (f := 89) rfl ?_); refine goesL_ (some 39) rfl rfl Try.func89 Zi rfl #[.slice A0_0 l0_0.length c0_0, .int .i64 ((rd_T39 l0_2 x3_2).f0), .int .i64 ((rd_T39 l0_2 x3_2).f1)] rfl Zj ?_; (with_reducible refine (spec_l07Has.calls _ _ l0_0 ((rd_T39 l0_2 x3_2).f0) ((rd_T39 l0_2 x3_2).f1) false _ ?side1 ?side2 A17.out).mono ?_); (case side1 => exact Kd.C_below HR0_0.out (have z0_ := GE137; have z1_ := GE141; Zr)); (case side2 => exact HC0_0.out); rintro e w' ⟨rfl, ⟨nd, rfl⟩⟩; refine ⟨_, rfl, ?_⟩))
         go_ret
         exact ⟨Zg, (have z0_ := GE137; have z1_ := GE141; Zr)⟩
       ·rw [if_neg c16] at H
        exact absurd H (by simp)
      ·rw [if_neg c15] at H
       have c15b0 := decide_eq_false c15; clear c15; obtain rfl := Option.some.inj H; refine ci3 BK137 ?_; intros
       go_wp2
       go_ret
       exact ⟨Zg, (have z0_ := GE137; Zk)⟩
def spec_l03Window.f (a0_0 : ByteArray) (a0_1 : Int) (a0_2 : Int) (a0_3 : Int) (a0_4 : Int) (a0_5 : Int) (a0_6 : Int) (a0_7 : Int) (a0_8 : Int) (a1 : Int) (a2 : Int) : Option (List Int) := some (([wrap64 ((wrap64 ((wrap64 (a1 + a0_3)) + (wrap64 (a2 * a0_6)))) - a0_4), wrap64 ((wrap64 ((wrap64 (a1 + a0_3)) + (wrap64 (a2 * a0_6)))) + a0_4)] : List Int))
set_option maxHeartbeats 8000000 in
set_option maxRecDepth 100000 in
theorem spec_l03Window.calls (a0_0 : ByteArray) (a0_1 : Int) (a0_2 : Int) (a0_3 : Int) (a0_4 : Int) (a0_5 : Int) (a0_6 : Int) (a0_7 : Int) (a0_8 : Int) (a1 : Int) (a2 : Int) (r : List Int) (w : World) (h : spec_l03Window.f a0_0 a0_1 a0_2 a0_3 a0_4 a0_5 a0_6 a0_7 a0_8 a1 a2 = some r) :
  Calls Try.prog 93 #[.agg #[.string a0_0, .int .i64 a0_1, .int .i64 a0_2, .int .i64 a0_3, .int .i64 a0_4, .int .i64 a0_5, .int .i64 a0_6, .int .i64 a0_7, .int .i64 a0_8], .int .i64 a1, .int .i64 a2] w fun e w' => ∃ v0_ : Value, e = .returned (v0_) ∧ Kd.R (Kd.int .i64) 2 w' w.heap.size (fun _ => True) v0_ r ∧ Below w.heap.size w w' := by
 have hu62 := Try.underlying62; have HB := am_ (Below.refl w.heap.size w); have H : (some (([wrap64 ((wrap64 ((wrap64 (a1 + a0_3)) + (wrap64 (a2 * a0_6)))) - a0_4), wrap64 ((wrap64 ((wrap64 (a1 + a0_3)) + (wrap64 (a2 * a0_6)))) + a0_4)] : List Int))) = some r := h; clear h; obtain ⟨y1049, hy1049⟩ : ∃ y_ : List Int, y_ = (([wrap64 ((wrap64 ((wrap64 (a1 + a0_3)) + (wrap64 (a2 * a0_6)))) - a0_4), wrap64 ((wrap64 ((wrap64 (a1 + a0_3)) + (wrap64 (a2 * a0_6)))) + a0_4)] : List Int)) := ⟨_, rfl⟩
 (first | (rw [← hy1049] at H; with_reducible replace H := bindZ H) | rw [← hy1049] at H)
 have Ny1049 := am_ hy1049; clear hy1049; obtain rfl := Option.some.inj H
 go_enter Try.func93, Try.ntmps93
 go_wp2_with (first | ((with_reducible refine gate_dst (N := 3) rfl ?_); refine boxZ 3 #[.string a0_0, .int .i64 a0_1, .int .i64 a0_2, .int .i64 a0_3, .int .i64 a0_4, .int .i64 a0_5, .int .i64 a0_6, .int .i64 a0_7, .int .i64 a0_8] 62 ?_; intro gb1048 hg w4 hbox hb; replace BK1048 := am_ (hbox); replace GW1048 := am_ ((Zh : w.heap.size ≤ gb1048)); replace GE1048 := GW1048; replace HB := (bsZ Zf hb); clear hb hbox hg; refine ci9 BK1048 ?_; intros) | ((with_reducible refine gate_dst (N := 25) rfl ?_); refine Kd.R_lit (Kd.int .i64) _ 2 ?hg (N := 25) ?hd (xs := ([wrap64 ((wrap64 ((wrap64 (a1 + a0_3)) + (wrap64 (a2 * a0_6)))) - a0_4), wrap64 ((wrap64 ((wrap64 (a1 + a0_3)) + (wrap64 (a2 * a0_6)))) + a0_4)] : List Int)) (inner := [.int .i64 (wrap64 ((wrap64 ((wrap64 (a1 + a0_3)) + (wrap64 (a2 * a0_6)))) - a0_4)), .int .i64 (wrap64 ((wrap64 ((wrap64 (a1 + a0_3)) + (wrap64 (a2 * a0_6)))) + a0_4))]) (ok := fun _ => True) (okp := fun _ => True) ?hr ?hp (fun _ hk => hk) trivial (Below.refl _ _) (Nat.le_refl _) (by simp) ?_; (case hd => rfl); (case hg => rfl); (case hr => first | (go_simp; done) | (go_simp; rfl)); (case hp => exact (Reps.one (show Kd.M (Kd.int .i64) _ _ _ (wrap64 ((wrap64 ((wrap64 (a1 + a0_3)) + (wrap64 (a2 * a0_6)))) - a0_4)) [.int .i64 (wrap64 ((wrap64 ((wrap64 (a1 + a0_3)) + (wrap64 (a2 * a0_6)))) - a0_4))] from rfl) (Reps.one (show Kd.M (Kd.int .i64) _ _ _ (wrap64 ((wrap64 ((wrap64 (a1 + a0_3)) + (wrap64 (a2 * a0_6)))) + a0_4)) [.int .i64 (wrap64 ((wrap64 ((wrap64 (a1 + a0_3)) + (wrap64 (a2 * a0_6)))) + a0_4))] from rfl) (Reps.none _ _)))); intro v1050 w6 ho7 hb hg_ hnew_; clear hg_ hnew_; (first | rw [← Ny1049.out] at ho7 | (simp only [Int.reduceToNat] at ho7; rw [← Ny1049.out] at ho7)); replace HO1051 := am_ (Kd.R_lower ho7 (below_size (have z0_ := GE1048; Zk))); replace BK1048 := (have z0_ := BK1048; bkZ hb); replace HB := (bsZ (have z0_ := GE1048; Zk) hb); clear hb ho7))
 go_ret
 exact ⟨_, Zg, (have z0_ := HO1051; Zai), (have z0_ := GE1048; Zk)⟩
def spec_l09Cue.l0 : Nat → Int → List (List Int) → Int → List (S104) → List (S62) → List (S39) → Int → Int → ByteArray → Int → ByteArray → Int → Int → Int → Int → Int → Int → Int → Int → Option ((List (List Int)))
 | 0, _, _, _, _, _, _, _, _, _, _, _, _, _, _, _, _, _, _, _ => none
 | k + 1, x1, x7, x8, x1053000, x1053001, x1053002, x1055000, x1055001, x1055002, x1055003, x1058000, x1058001, x1058002, x1058003, x1058004, x1058005, x1058006, x1058007, x1058008 => if x8 < x1058005 then ((spec_l08Time.f k x1053000 x1053001 x1053002 x1055000 x1055001 x1055002 x1055003).bind fun t1061 => ((spec_l03Window.f x1058000 x1058001 x1058002 x1058003 x1058004 x1058005 x1058006 x1058007 x1058008 t1061 x8).bind fun t1062 => (if 0 < (t1062.length : Int) then (if 1 < (t1062.length : Int) then (if x7.length < 5864062014805 then (spec_l09Cue.l0 k x1 (x7 ++ [(([rd t1062 0, rd t1062 1, x1] : List Int))]) (wrap64 (x8 + 1)) x1053000 x1053001 x1053002 x1055000 x1055001 x1055002 x1055003 x1058000 x1058001 x1058002 x1058003 x1058004 x1058005 x1058006 x1058007 x1058008) else (none)) else (none)) else (none)))) else (some x7)
def spec_l09Cue.f (k : Nat) (l0_0 : List (S104)) (l0_1 : List (S62)) (l0_2 : List (S39)) (a1 : Int) : Option ((List (List Int))) := if 0 ≤ a1 then (if a1 < (l0_2.length : Int) then ((spec_l03Find.f k l0_1 ((rd_T39 l0_2 a1).f2)).bind fun t1055 => (if 0 ≤ t1055 then (if t1055 < (l0_1.length : Int) then (spec_l09Cue.l0 k a1 (([] : List (List Int))) 0 l0_0 l0_1 l0_2 ((rd_T39 l0_2 a1).f0) ((rd_T39 l0_2 a1).f1) ((rd_T39 l0_2 a1).f2) ((rd_T39 l0_2 a1).f3) ((rd_T62 l0_1 t1055).f0) ((rd_T62 l0_1 t1055).f1) ((rd_T62 l0_1 t1055).f2) ((rd_T62 l0_1 t1055).f3) ((rd_T62 l0_1 t1055).f4) ((rd_T62 l0_1 t1055).f5) ((rd_T62 l0_1 t1055).f6) ((rd_T62 l0_1 t1055).f7) ((rd_T62 l0_1 t1055).f8)) else (none)) else (none))) else (none)) else (none)
def spec_l09Cue.T2 : Bool × List (List Nat × List Nat) := (true, [([], []), ([0], [0]), ([], []), ([2], [2]), ([], []), ([4], [4]), ([3, 5], [3, 5]), ([1, 6], [1, 6]), ([7], [7]), ([], []), ([9, 8, 6, 0, 1, 2, 3, 4, 5, 6, 7, 8, 9], [8, 9])])
def spec_l09Cue.B2 : List Nat := [0, 1, 0, 4, 0, 16, 60, 127, 255, 0, 1023]
theorem spec_l09Cue.tab2 : rtab .any (opsOf Try.f76 2) = spec_l09Cue.T2 := by kernel_rfl
theorem spec_l09Cue.bits2 : waitsOk spec_l09Cue.T2.2 spec_l09Cue.B2 = true := by kernel_rfl
def spec_l09Cue.T8 : Bool × List (List Nat × List Nat) := (true, [([], []), ([], []), ([1], [1]), ([2], [2]), ([], []), ([4], [4]), ([5], [5]), ([], []), ([3, 6, 7], [3, 6, 7]), ([8], [8]), ([0, 9], [0, 9]), ([10, 10, 0, 1, 2, 3, 4, 5, 6, 7, 8, 9, 10], [0, 10])])
def spec_l09Cue.B8 : List Nat := [0, 0, 2, 6, 0, 16, 48, 0, 254, 510, 1023, 2047]
theorem spec_l09Cue.tab8 : rtab .any (opsOf Try.f76 8) = spec_l09Cue.T8 := by kernel_rfl
theorem spec_l09Cue.bits8 : waitsOk spec_l09Cue.T8.2 spec_l09Cue.B8 = true := by kernel_rfl
set_option maxHeartbeats 8000000 in
set_option maxRecDepth 100000 in
theorem spec_l09Cue.calls (k : Nat) (A0_0 : Option Addr) (c0_0 : Nat) (l0_0 : List (S104)) (A0_1 : Option Addr) (c0_1 : Nat) (l0_1 : List (S62)) (A0_2 : Option Addr) (c0_2 : Nat) (l0_2 : List (S39)) (a1 : Int) (r : List (List Int)) (w : World) (hr0_0 : Kd.C k104 w A0_0 l0_0.length l0_0) (hc0_0 : l0_0.length ≤ c0_0) (hr0_1 : Kd.C k62 w A0_1 l0_1.length l0_1) (hc0_1 : l0_1.length ≤ c0_1) (hr0_2 : Kd.C k39 w A0_2 l0_2.length l0_2) (hc0_2 : l0_2.length ≤ c0_2) (h : spec_l09Cue.f k l0_0 l0_1 l0_2 a1 = some r) :
  Calls Try.prog 76 #[.agg #[.slice A0_0 l0_0.length c0_0, .slice A0_1 l0_1.length c0_1, .slice A0_2 l0_2.length c0_2], .int .i64 a1] w fun e w' => ∃ v0_ : Value, e = .returned (v0_) ∧ Kd.S (Kd.slice 2 (Kd.int .i64)) 33 w' w.heap.size (fun _ => True) v0_ r ∧ Below w.heap.size w w' := by
 have hu28 := Try.underlying28; have hu39 := Try.underlying39; have hu62 := Try.underlying62; have HR0_0 := am_ hr0_0; have HC0_0 := am_ hc0_0; clear hr0_0 hc0_0; have HR0_1 := am_ hr0_1; have HC0_1 := am_ hc0_1; clear hr0_1 hc0_1; have HR0_2 := am_ hr0_2; have HC0_2 := am_ hc0_2; clear hr0_2 hc0_2; have HB := am_ (Below.refl w.heap.size w); have H : (if 0 ≤ a1 then (if a1 < (l0_2.length : Int) then ((spec_l03Find.f k l0_1 ((rd_T39 l0_2 a1).f2)).bind fun t1055 => (if 0 ≤ t1055 then (if t1055 < (l0_1.length : Int) then (spec_l09Cue.l0 k a1 (([] : List (List Int))) 0 l0_0 l0_1 l0_2 ((rd_T39 l0_2 a1).f0) ((rd_T39 l0_2 a1).f1) ((rd_T39 l0_2 a1).f2) ((rd_T39 l0_2 a1).f3) ((rd_T62 l0_1 t1055).f0) ((rd_T62 l0_1 t1055).f1) ((rd_T62 l0_1 t1055).f2) ((rd_T62 l0_1 t1055).f3) ((rd_T62 l0_1 t1055).f4) ((rd_T62 l0_1 t1055).f5) ((rd_T62 l0_1 t1055).f6) ((rd_T62 l0_1 t1055).f7) ((rd_T62 l0_1 t1055).f8)) else (none)) else (none))) else (none)) else (none)) = some r := h; clear h
 by_cases c3 : 0 ≤ a1
 ·rw [if_pos c3] at H
  have c3b0 := decide_eq_true c3; clear c3
  by_cases c4 : a1 < (l0_2.length : Int)
  ·rw [if_pos c4] at H
   have c4b0 := decide_eq_true c4; clear c4; replace H := Option.bind_eq_some_iff.mp H; obtain ⟨t1055, A50, H⟩ := H; have A5 := am_ A50; clear A50
   by_cases c6 : 0 ≤ t1055
   ·rw [if_pos c6] at H
    have c6b0 := decide_eq_true c6; clear c6
    by_cases c7 : t1055 < (l0_1.length : Int)
    ·rw [if_pos c7] at H
     have c7b0 := decide_eq_true c7; clear c7; obtain ⟨y1058, hy1058⟩ : ∃ y_ : List (List Int), y_ = (([] : List (List Int))) := ⟨_, rfl⟩
     replace H : (spec_l09Cue.l0 k a1 y1058 0 l0_0 l0_1 l0_2 ((rd_T39 l0_2 a1).f0) ((rd_T39 l0_2 a1).f1) ((rd_T39 l0_2 a1).f2) ((rd_T39 l0_2 a1).f3) ((rd_T62 l0_1 t1055).f0) ((rd_T62 l0_1 t1055).f1) ((rd_T62 l0_1 t1055).f2) ((rd_T62 l0_1 t1055).f3) ((rd_T62 l0_1 t1055).f4) ((rd_T62 l0_1 t1055).f5) ((rd_T62 l0_1 t1055).f6) ((rd_T62 l0_1 t1055).f7) ((rd_T62 l0_1 t1055).f8)) = some r := by (try rw [hy1058]); first | with_reducible exact H | with_reducible exact (Option.bind_some _ _).symm.trans H | exact H
     have Ny1058 := am_ hy1058; clear hy1058; have H' := am_ H; clear H
     go_enter Try.func76, Try.ntmps76
     try go_wp2_with (first | ((with_reducible refine gate_dst (N := 2) rfl ?_); refine boxZ 2 #[.slice A0_0 l0_0.length c0_0, .slice A0_1 l0_1.length c0_1, .slice A0_2 l0_2.length c0_2] 28 ?_; intro gb1052 hg w8 hbox hb; replace BK1052 := am_ (hbox); replace GW1052 := am_ ((Zh : w.heap.size ≤ gb1052)); replace GE1052 := GW1052; replace HB := (bsZ Zf hb); clear hb hbox hg; obtain ⟨hcz9_0, hcz9_1, hcz9_2, hfz9_0, hfz9_1, hfz9_2⟩ := cz3 BK1052; have p1053 : 0 ≤ (a1 : Int) := of_decide_eq_true Zc; have q1053 : a1 < (l0_2.length : Int) := of_decide_eq_true Zc; obtain ⟨ad1053, e1053, hx1053_0, hx1053_1, hx1053_2, hx1053_3⟩ := at_T39 HR0_2.out a1 p1053 q1053; cases e1053; replace hx1053_0 := cbH HB hx1053_0; replace hx1053_1 := cbH HB hx1053_1; replace hx1053_2 := cbH HB hx1053_2; replace hx1053_3 := cbH HB hx1053_3; replace p1053 := eq_true p1053; replace q1053 := eq_true q1053) | ((with_reducible refine gate_dst (N := 5) rfl ?_); refine boxZ 5 #[.int .i64 0, .int .i64 0, .string (⟨#[]⟩ : ByteArray), .int .i64 0] 39 ?_; intro gb1054 hg w10 hbox hb; replace BK1054 := am_ (hbox); replace GW1054 := am_ (((have z0_ := GE1052; Zn) : w.heap.size ≤ gb1054)); replace GE1054 := GW1054; replace HB := (bsZ (have z0_ := GE1052; Zk) hb); replace NB1052_1054 := am_ ((by rw [hg]; exact Nat.ne_of_lt (blk_lt (g := gb1052) (o := .cells #[.slice A0_0 l0_0.length c0_0, .slice A0_1 l0_1.length c0_1, .slice (some ad1053) l0_2.length c0_2] 28 (0, 0)) (have z0_ := BK1052; Zs)) : gb1052 ≠ gb1054)); replace NB1054_1052 := am_ ((by rw [hg]; exact Nat.ne_of_gt (blk_lt (g := gb1052) (o := .cells #[.slice A0_0 l0_0.length c0_0, .slice A0_1 l0_1.length c0_1, .slice (some ad1053) l0_2.length c0_2] 28 (0, 0)) (have z0_ := BK1052; Zs)) : gb1054 ≠ gb1052)); replace BK1052 := (have z0_ := BK1052; bkZ hb); clear hb hbox hg; have hnb11 := NB1054_1052.out; have hnc11 := NB1052_1054.out; obtain ⟨hcz12_0, hcz12_1, hcz12_2, hcz12_3, hfz12_0, hfz12_1, hfz12_2, hfz12_3⟩ := cz4 BK1054))
     have n0_ : Aside0 (((((w10.setCell ⟨gb1054, 0, none⟩ (.int .i64 ((rd_T39 l0_2 a1).f0))).setCell ⟨gb1054, 1, none⟩ (.int .i64 ((rd_T39 l0_2 a1).f1))).setCell ⟨gb1054, 2, none⟩ (.string ((rd_T39 l0_2 a1).f2))).setCell ⟨gb1054, 3, none⟩ (.int .i64 ((rd_T39 l0_2 a1).f3))).heap[gb1052]? = some (.cells #[.slice A0_0 l0_0.length c0_0, .slice A0_1 l0_1.length c0_1, .slice (some ad1053) l0_2.length c0_2] 28 (0, 0))) := ⟨by refine blk_far ?_ NB1052_1054.out _; refine blk_far ?_ NB1052_1054.out _; refine blk_far ?_ NB1052_1054.out _; refine blk_far ?_ NB1052_1054.out _; exact BK1052.out⟩; have n1_ : Aside0 (((((w10.setCell ⟨gb1054, 0, none⟩ (.int .i64 ((rd_T39 l0_2 a1).f0))).setCell ⟨gb1054, 1, none⟩ (.int .i64 ((rd_T39 l0_2 a1).f1))).setCell ⟨gb1054, 2, none⟩ (.string ((rd_T39 l0_2 a1).f2))).setCell ⟨gb1054, 3, none⟩ (.int .i64 ((rd_T39 l0_2 a1).f3))).heap[gb1054]? = some (.cells #[.int .i64 ((rd_T39 l0_2 a1).f0), .int .i64 ((rd_T39 l0_2 a1).f1), .string ((rd_T39 l0_2 a1).f2), .int .i64 ((rd_T39 l0_2 a1).f3)] 39 (0, 0))) := ⟨by refine blk_put (cs := #[.int .i64 ((rd_T39 l0_2 a1).f0), .int .i64 ((rd_T39 l0_2 a1).f1), .string ((rd_T39 l0_2 a1).f2), .int .i64 0]) ?_ 3 _ rfl; refine blk_put (cs := #[.int .i64 ((rd_T39 l0_2 a1).f0), .int .i64 ((rd_T39 l0_2 a1).f1), .string (⟨#[]⟩ : ByteArray), .int .i64 0]) ?_ 2 _ rfl; refine blk_put (cs := #[.int .i64 ((rd_T39 l0_2 a1).f0), .int .i64 0, .string (⟨#[]⟩ : ByteArray), .int .i64 0]) ?_ 1 _ rfl; refine blk_put (cs := #[.int .i64 0, .int .i64 0, .string (⟨#[]⟩ : ByteArray), .int .i64 0]) ?_ 0 _ rfl; exact BK1054.out⟩; have n2_ : Aside0 (Below w.heap.size w ((((w10.setCell ⟨gb1054, 0, none⟩ (.int .i64 ((rd_T39 l0_2 a1).f0))).setCell ⟨gb1054, 1, none⟩ (.int .i64 ((rd_T39 l0_2 a1).f1))).setCell ⟨gb1054, 2, none⟩ (.string ((rd_T39 l0_2 a1).f2))).setCell ⟨gb1054, 3, none⟩ (.int .i64 ((rd_T39 l0_2 a1).f3)))) := ⟨(have z0_ := GE1052; have z1_ := GE1054; Zr)⟩
     (try clear BK1052)
     (try clear BK1054)
     (try clear HB)
     generalize ((((w10.setCell ⟨gb1054, 0, none⟩ (.int .i64 ((rd_T39 l0_2 a1).f0))).setCell ⟨gb1054, 1, none⟩ (.int .i64 ((rd_T39 l0_2 a1).f1))).setCell ⟨gb1054, 2, none⟩ (.string ((rd_T39 l0_2 a1).f2))).setCell ⟨gb1054, 3, none⟩ (.int .i64 ((rd_T39 l0_2 a1).f3))) = w13 at n0_ n1_ n2_ ⊢; have BK1052 := n0_; have BK1054 := n1_; have HB := n2_; clear n0_ n1_ n2_; replace BK1052 := am_ (blk_drew BK1052.out); replace BK1054 := am_ (blk_drew BK1054.out); replace HB := am_ (below_drew1 HB.out); have p1056 : 0 ≤ (t1055 : Int) := of_decide_eq_true Zc; have q1056 : t1055 < (l0_1.length : Int) := of_decide_eq_true Zc; obtain ⟨ad1056, e1056, hx1056_0, hx1056_1, hx1056_2, hx1056_3, hx1056_4, hx1056_5, hx1056_6, hx1056_7, hx1056_8⟩ := at_T62 HR0_1.out t1055 p1056 q1056; have hw1056_8 := hx1056_8; have hw1056_7 := hx1056_7; have hw1056_6 := hx1056_6; have hw1056_5 := hx1056_5; have hw1056_4 := hx1056_4; have hw1056_3 := hx1056_3; have hw1056_2 := hx1056_2; have hw1056_1 := hx1056_1; have hw1056_0 := hx1056_0
     cases e1056
     replace hx1056_0 := cbH HB hx1056_0; replace hx1056_1 := cbH HB hx1056_1; replace hx1056_2 := cbH HB hx1056_2; replace hx1056_3 := cbH HB hx1056_3; replace hx1056_4 := cbH HB hx1056_4; replace hx1056_5 := cbH HB hx1056_5; replace hx1056_6 := cbH HB hx1056_6; replace hx1056_7 := cbH HB hx1056_7; replace hx1056_8 := cbH HB hx1056_8; replace p1056 := eq_true p1056; replace q1056 := eq_true q1056; refine start_ (n := 11) (S := fun w' => w'.cell? ⟨gb1052, 0, none⟩ = some (.slice A0_0 l0_0.length c0_0) ∧ w'.cell? ⟨gb1052, 1, none⟩ = some (.slice (some ad1056) l0_1.length c0_1) ∧ w'.cell? ⟨gb1052, 2, none⟩ = some (.slice (some ad1053) l0_2.length c0_2) ∧ w'.cell? ⟨gb1054, 0, none⟩ = some (.int .i64 ((rd_T39 l0_2 a1).f0)) ∧ w'.cell? ⟨gb1054, 1, none⟩ = some (.int .i64 ((rd_T39 l0_2 a1).f1)) ∧ w'.cell? ⟨gb1054, 2, none⟩ = some (.string ((rd_T39 l0_2 a1).f2)) ∧ w'.cell? ⟨gb1054, 3, none⟩ = some (.int .i64 ((rd_T39 l0_2 a1).f3)) ∧ w'.cell? (ad1056.add ((t1055).toNat * 9)) = some (.string ((rd_T62 l0_1 t1055).f0)) ∧ w'.cell? ⟨(ad1056.add ((t1055).toNat * 9)).block, (ad1056.add ((t1055).toNat * 9)).off + 1, none⟩ = some (.int .i64 ((rd_T62 l0_1 t1055).f1)) ∧ w'.cell? ⟨(ad1056.add ((t1055).toNat * 9)).block, (ad1056.add ((t1055).toNat * 9)).off + 2, none⟩ = some (.int .i64 ((rd_T62 l0_1 t1055).f2)) ∧ w'.cell? ⟨(ad1056.add ((t1055).toNat * 9)).block, (ad1056.add ((t1055).toNat * 9)).off + 3, none⟩ = some (.int .i64 ((rd_T62 l0_1 t1055).f3)) ∧ w'.cell? ⟨(ad1056.add ((t1055).toNat * 9)).block, (ad1056.add ((t1055).toNat * 9)).off + 4, none⟩ = some (.int .i64 ((rd_T62 l0_1 t1055).f4)) ∧ w'.cell? ⟨(ad1056.add ((t1055).toNat * 9)).block, (ad1056.add ((t1055).toNat * 9)).off + 5, none⟩ = some (.int .i64 ((rd_T62 l0_1 t1055).f5)) ∧ w'.cell? ⟨(ad1056.add ((t1055).toNat * 9)).block, (ad1056.add ((t1055).toNat * 9)).off + 6, none⟩ = some (.int .i64 ((rd_T62 l0_1 t1055).f6)) ∧ w'.cell? ⟨(ad1056.add ((t1055).toNat * 9)).block, (ad1056.add ((t1055).toNat * 9)).off + 7, none⟩ = some (.int .i64 ((rd_T62 l0_1 t1055).f7)) ∧ w'.cell? ⟨(ad1056.add ((t1055).toNat * 9)).block, (ad1056.add ((t1055).toNat * 9)).off + 8, none⟩ = some (.int .i64 ((rd_T62 l0_1 t1055).f8))) (ds := []) (bT 11 0) Zi rfl rfl ⟨(blk_cell BK1052.out 0).trans rfl, (blk_cell BK1052.out 1).trans rfl, (blk_cell BK1052.out 2).trans rfl, (blk_cell BK1054.out 0).trans rfl, (blk_cell BK1054.out 1).trans rfl, (blk_cell BK1054.out 2).trans rfl, (blk_cell BK1054.out 3).trans rfl, (cbH HB hw1056_0 :), (cbH HB hw1056_1 :), (cbH HB hw1056_2 :), (cbH HB hw1056_3 :), (cbH HB hw1056_4 :), (cbH HB hw1056_5 :), (cbH HB hw1056_6 :), (cbH HB hw1056_7 :), (cbH HB hw1056_8 :)⟩ (fun hHeld => ?_); refine with_tabW spec_l09Cue.tab2 spec_l09Cue.bits2 (fun HT_ HW_ => ?_); generalize w13.drew = w14 at BK1052 BK1054 HB hx1056_0 hx1056_1 hx1056_2 hx1056_3 hx1056_4 hx1056_5 hx1056_6 hx1056_7 hx1056_8 hHeld ⊢; refine pureZ HT_ 0 (some 15) (bT 11 1) ?_; refine pureZ HT_ 2 (some 17) #[true, false, true, false, false, false, false, false, false, false, false] ?_
     refine pureZ HT_ 4 (some 19) #[true, false, true, false, true, false, false, false, false, false, false] ?_; refine takeZ16 HT_ HW_ 1 (some 16) #[true, true, true, false, true, false, false, false, false, false, false] hHeld ?_; refine takeZ16 HT_ HW_ 3 (some 18) (bT 11 5) hHeld ?_; refine takeZ16 HT_ HW_ 5 (some 20) (bT 11 6) hHeld ?_; refine join_ (σ := Nat) 1 (bT 11 10) (fun s_ => [(21, .int .i64 t1055), (6, .pointer (some ⟨s_, 0, none⟩)), (22, .pointer (some (ad1056.add ((t1055).toNat * 9)))), (23, .agg #[.string ((rd_T62 l0_1 t1055).f0), .int .i64 ((rd_T62 l0_1 t1055).f1), .int .i64 ((rd_T62 l0_1 t1055).f2), .int .i64 ((rd_T62 l0_1 t1055).f3), .int .i64 ((rd_T62 l0_1 t1055).f4), .int .i64 ((rd_T62 l0_1 t1055).f5), .int .i64 ((rd_T62 l0_1 t1055).f6), .int .i64 ((rd_T62 l0_1 t1055).f7), .int .i64 ((rd_T62 l0_1 t1055).f8)])]) (fun s_ w' => (w'.cell? ⟨gb1052, 0, none⟩ = some (.slice A0_0 l0_0.length c0_0) ∧ w'.cell? ⟨gb1052, 1, none⟩ = some (.slice (some ad1056) l0_1.length c0_1) ∧ w'.cell? ⟨gb1052, 2, none⟩ = some (.slice (some ad1053) l0_2.length c0_2) ∧ w'.cell? ⟨gb1054, 0, none⟩ = some (.int .i64 ((rd_T39 l0_2 a1).f0)) ∧ w'.cell? ⟨gb1054, 1, none⟩ = some (.int .i64 ((rd_T39 l0_2 a1).f1)) ∧ w'.cell? ⟨gb1054, 2, none⟩ = some (.string ((rd_T39 l0_2 a1).f2)) ∧ w'.cell? ⟨gb1054, 3, none⟩ = some (.int .i64 ((rd_T39 l0_2 a1).f3)) ∧ w'.cell? (ad1056.add ((t1055).toNat * 9)) = some (.string ((rd_T62 l0_1 t1055).f0)) ∧ w'.cell? ⟨(ad1056.add ((t1055).toNat * 9)).block, (ad1056.add ((t1055).toNat * 9)).off + 1, none⟩ = some (.int .i64 ((rd_T62 l0_1 t1055).f1)) ∧ w'.cell? ⟨(ad1056.add ((t1055).toNat * 9)).block, (ad1056.add ((t1055).toNat * 9)).off + 2, none⟩ = some (.int .i64 ((rd_T62 l0_1 t1055).f2)) ∧ w'.cell? ⟨(ad1056.add ((t1055).toNat * 9)).block, (ad1056.add ((t1055).toNat * 9)).off + 3, none⟩ = some (.int .i64 ((rd_T62 l0_1 t1055).f3)) ∧ w'.cell? ⟨(ad1056.add ((t1055).toNat * 9)).block, (ad1056.add ((t1055).toNat * 9)).off + 4, none⟩ = some (.int .i64 ((rd_T62 l0_1 t1055).f4)) ∧ w'.cell? ⟨(ad1056.add ((t1055).toNat * 9)).block, (ad1056.add ((t1055).toNat * 9)).off + 5, none⟩ = some (.int .i64 ((rd_T62 l0_1 t1055).f5)) ∧ w'.cell? ⟨(ad1056.add ((t1055).toNat * 9)).block, (ad1056.add ((t1055).toNat * 9)).off + 6, none⟩ = some (.int .i64 ((rd_T62 l0_1 t1055).f6)) ∧ w'.cell? ⟨(ad1056.add ((t1055).toNat * 9)).block, (ad1056.add ((t1055).toNat * 9)).off + 7, none⟩ = some (.int .i64 ((rd_T62 l0_1 t1055).f7)) ∧ w'.cell? ⟨(ad1056.add ((t1055).toNat * 9)).block, (ad1056.add ((t1055).toNat * 9)).off + 8, none⟩ = some (.int .i64 ((rd_T62 l0_1 t1055).f8))) ∧ (w'.heap[gb1052]? = some (.cells #[.slice A0_0 l0_0.length c0_0, .slice (some ad1056) l0_1.length c0_1, .slice (some ad1053) l0_2.length c0_2] 28 (0, 0))) ∧ (w'.heap[gb1054]? = some (.cells #[.int .i64 ((rd_T39 l0_2 a1).f0), .int .i64 ((rd_T39 l0_2 a1).f1), .string ((rd_T39 l0_2 a1).f2), .int .i64 ((rd_T39 l0_2 a1).f3)] 39 (0, 0))) ∧ (w'.heap[s_]? = some (.cells #[.string (⟨#[]⟩ : ByteArray), .int .i64 0, .int .i64 0, .int .i64 0, .int .i64 0, .int .i64 0, .int .i64 0, .int .i64 0, .int .i64 0] 62 (0, 0))) ∧ (w.heap.size ≤ s_) ∧ (w.heap.size ≤ s_) ∧ (gb1052 ≠ s_) ∧ (s_ ≠ gb1052) ∧ (gb1054 ≠ s_) ∧ (s_ ≠ gb1054) ∧ (Below w.heap.size w w')) ?_ ?_
     rotate_left
     ·intro hCont
      refine two_ (i := 6) (j := 9) (Ni := some 21) (Nj := some 6) (bT 11 7) #[true, true, true, true, true, true, false, false, false, true, false] rfl rfl rfl rfl (two_of HT_.out Zi) (by decide) (by decide) (fun K hK => ?_) (fun K hK => ?_)
      ·skip
       refine goes_ Try.func64 Zi rfl #[.slice (some ad1056) l0_1.length c0_1, .string ((rd_T39 l0_2 a1).f2)] (by rfl) rfl rfl Zj ?_
       with_reducible refine (spec_l03Find.calls k _ _ l0_1 ((rd_T39 l0_2 a1).f2) t1055 _ ?side1 ?side2 A5.out).mono ?_
       (case side1 => exact (have z0_ := HR0_1; Zq))
       (case side2 => exact HC0_1.out)
       rintro e w' ⟨rfl, ⟨nd, rfl⟩⟩; refine ⟨_, rfl, ?_⟩; refine hK.out _ _ (have z0_ := BK1052; have z1_ := BK1054; have z2_ := hw1056_0; have z3_ := hw1056_1; have z4_ := hw1056_2; have z5_ := hw1056_3; have z6_ := hw1056_4; have z7_ := hw1056_5; have z8_ := hw1056_6; have z9_ := hw1056_7; have z10_ := hw1056_8; Zt) (fun hHeld => ?_); clear hK K; refine normZ 21 ?_; refine pureZ HT_ 7 (some 22) (bT 11 8) ?_; refine takeZ16 HT_ HW_ 8 (some 23) (bT 11 9) hHeld ?_; refine one_ (i := 9) (N := some 6) (bT 11 10) rfl rfl (one_of HT_.out Zi) (by decide) (fun K hK => ?_); refine box_step ?hg (N := 6) ?hd (cs := #[.string (⟨#[]⟩ : ByteArray), .int .i64 0, .int .i64 0, .int .i64 0, .int .i64 0, .int .i64 0, .int .i64 0, .int .i64 0, .int .i64 0]) (t := 62) ?hr ?_; (case hd => rfl); (case hg => rfl); (case hr => first | (go_simp; done) | (go_simp; rfl)); intro gb1057 hg w15 hbox hb; replace BK1057 := am_ (hbox); replace GW1057 := am_ (((have z0_ := GE1052; have z1_ := GE1054; Zaa) : w.heap.size ≤ gb1057)); replace GE1057 := GW1057; replace HB := (bsZ (have z0_ := GE1052; have z1_ := GE1054; Zr) hb); replace NB1052_1057 := am_ (((have z0_ := BK1052; Zao) : gb1052 ≠ gb1057)); replace NB1057_1052 := am_ (((have z0_ := BK1052; Zap) : gb1057 ≠ gb1052)); replace BK1052 := (have z0_ := BK1052; bkZ hb); replace NB1054_1057 := am_ (((have z0_ := BK1054; Zaq) : gb1054 ≠ gb1057)); replace NB1057_1054 := am_ (((have z0_ := BK1054; Zar) : gb1057 ≠ gb1054)); replace BK1054 := (have z0_ := BK1054; bkZ hb); clear hb hbox hg; refine hK.out _ _ (have z0_ := BK1052; have z1_ := BK1054; have z2_ := hw1056_0; have z3_ := hw1056_1; have z4_ := hw1056_2; have z5_ := hw1056_3; have z6_ := hw1056_4; have z7_ := hw1056_5; have z8_ := hw1056_6; have z9_ := hw1056_7; have z10_ := hw1056_8; Zt) (fun hHeld => ?_); clear hK K; refine normZ 6 ?_; exact norm_ (by simp only [putAll, Act.put, List.setIfInBounds_toArray, List.set_cons_zero, List.set_cons_succ]) (hCont (gb1057) _ ⟨hHeld, (have z0_ := BK1052; Zs), (have z0_ := BK1054; Zs), (have z0_ := BK1057; Zs), GW1057.out, GE1057.out, NB1052_1057.out, NB1057_1052.out, NB1054_1057.out, NB1057_1054.out, (have z0_ := GE1052; have z1_ := GE1054; have z2_ := GE1057; Zab)⟩)
      ·skip
       refine box_step ?hg (N := 6) ?hd (cs := #[.string (⟨#[]⟩ : ByteArray), .int .i64 0, .int .i64 0, .int .i64 0, .int .i64 0, .int .i64 0, .int .i64 0, .int .i64 0, .int .i64 0]) (t := 62) ?hr ?_; (case hd => rfl); (case hg => rfl); (case hr => first | (go_simp; done) | (go_simp; rfl)); intro gb1057 hg w15 hbox hb; replace BK1057 := am_ (hbox); replace GW1057 := am_ (((have z0_ := GE1052; have z1_ := GE1054; Zaa) : w.heap.size ≤ gb1057)); replace GE1057 := GW1057; replace HB := (bsZ (have z0_ := GE1052; have z1_ := GE1054; Zr) hb); replace NB1052_1057 := am_ (((have z0_ := BK1052; Zao) : gb1052 ≠ gb1057)); replace NB1057_1052 := am_ (((have z0_ := BK1052; Zap) : gb1057 ≠ gb1052)); replace BK1052 := (have z0_ := BK1052; bkZ hb); replace NB1054_1057 := am_ (((have z0_ := BK1054; Zaq) : gb1054 ≠ gb1057)); replace NB1057_1054 := am_ (((have z0_ := BK1054; Zar) : gb1057 ≠ gb1054)); replace BK1054 := (have z0_ := BK1054; bkZ hb); clear hb hbox hg; refine hK.out _ _ (have z0_ := BK1052; have z1_ := BK1054; have z2_ := hw1056_0; have z3_ := hw1056_1; have z4_ := hw1056_2; have z5_ := hw1056_3; have z6_ := hw1056_4; have z7_ := hw1056_5; have z8_ := hw1056_6; have z9_ := hw1056_7; have z10_ := hw1056_8; Zt) (fun hHeld => ?_); clear hK K; refine normZ 6 ?_; refine one_ (i := 6) (N := some 21) #[true, true, true, true, true, true, true, false, false, true, false] rfl rfl (one_of HT_.out Zi) (by decide) (fun K hK => ?_); refine goes_ Try.func64 Zi rfl #[.slice (some ad1056) l0_1.length c0_1, .string ((rd_T39 l0_2 a1).f2)] (by rfl) rfl rfl Zj ?_
       with_reducible refine (spec_l03Find.calls k _ _ l0_1 ((rd_T39 l0_2 a1).f2) t1055 _ ?side1 ?side2 A5.out).mono ?_
       (case side1 => exact (have z0_ := HR0_1; Zq))
       (case side2 => exact HC0_1.out)
       rintro e w' ⟨rfl, ⟨nd, rfl⟩⟩; refine ⟨_, rfl, ?_⟩; refine hK.out _ _ (have z0_ := BK1052; have z1_ := BK1054; have z2_ := hw1056_0; have z3_ := hw1056_1; have z4_ := hw1056_2; have z5_ := hw1056_3; have z6_ := hw1056_4; have z7_ := hw1056_5; have z8_ := hw1056_6; have z9_ := hw1056_7; have z10_ := hw1056_8; Zt) (fun hHeld => ?_); clear hK K; refine normZ 21 ?_; refine pureZ HT_ 7 (some 22) #[true, true, true, true, true, true, true, true, false, true, false] ?_; refine takeZ16 HT_ HW_ 8 (some 23) (bT 11 10) hHeld ?_; exact norm_ (by simp only [putAll, Act.put, List.setIfInBounds_toArray, List.set_cons_zero, List.set_cons_succ]) (hCont (gb1057) _ ⟨hHeld, (have z0_ := BK1052; Zs), (have z0_ := BK1054; Zs), (have z0_ := BK1057; Zs), GW1057.out, GE1057.out, NB1052_1057.out, NB1057_1052.out, NB1054_1057.out, NB1057_1054.out, (have z0_ := GE1052; have z1_ := GE1054; have z2_ := GE1057; Zab)⟩)
     rintro gb1057 w16 ⟨hS_, h0_, h1_, h2_, h3_, h4_, h5_, h6_, h7_, h8_, h9_⟩
     (try dsimp only at hS_ h0_ h1_ h2_ h3_ h4_ h5_ h6_ h7_ h8_ h9_)
     replace BK1052 := am_ h0_; replace BK1054 := am_ h1_; replace BK1057 := am_ h2_; replace GW1057 := am_ h3_; replace GE1057 := am_ h4_; replace NB1052_1057 := am_ h5_; replace NB1057_1052 := am_ h6_; replace NB1054_1057 := am_ h7_; replace NB1057_1054 := am_ h8_; replace HB := am_ h9_; clear h0_ h1_ h2_ h3_ h4_ h5_ h6_ h7_ h8_ h9_; have hHeld := hS_; refine normP ?_; refine one_ (i := 10) (N := none) (bT 11 11) rfl rfl (one_of HT_.out Zi) (by decide) (fun K hK => ?_); have hs17 : w16.cell? ⟨gb1057, 0, none⟩ = some (.string (⟨#[]⟩ : ByteArray)) := (blk_cell BK1057.out 0).trans rfl; have hfs17 := blk_frozen BK1057.out 0; have hns17_0 := NB1052_1057.out; have hns17_1 := NB1054_1057.out; have hms17_0 := NB1057_1052.out; have hms17_1 := NB1057_1054.out; have hs18 : w16.cell? ⟨gb1057, 1, none⟩ = some (.int .i64 0) := (blk_cell BK1057.out 1).trans rfl; have hfs18 := blk_frozen BK1057.out 1; have hns18_0 := NB1052_1057.out; have hns18_1 := NB1054_1057.out; have hms18_0 := NB1057_1052.out; have hms18_1 := NB1057_1054.out; have hs19 : w16.cell? ⟨gb1057, 2, none⟩ = some (.int .i64 0) := (blk_cell BK1057.out 2).trans rfl; have hfs19 := blk_frozen BK1057.out 2; have hns19_0 := NB1052_1057.out; have hns19_1 := NB1054_1057.out; have hms19_0 := NB1057_1052.out; have hms19_1 := NB1057_1054.out; have hs20 : w16.cell? ⟨gb1057, 3, none⟩ = some (.int .i64 0) := (blk_cell BK1057.out 3).trans rfl; have hfs20 := blk_frozen BK1057.out 3; have hns20_0 := NB1052_1057.out; have hns20_1 := NB1054_1057.out; have hms20_0 := NB1057_1052.out; have hms20_1 := NB1057_1054.out; have hs21 : w16.cell? ⟨gb1057, 4, none⟩ = some (.int .i64 0) := (blk_cell BK1057.out 4).trans rfl; have hfs21 := blk_frozen BK1057.out 4; have hns21_0 := NB1052_1057.out; have hns21_1 := NB1054_1057.out; have hms21_0 := NB1057_1052.out; have hms21_1 := NB1057_1054.out; have hs22 : w16.cell? ⟨gb1057, 5, none⟩ = some (.int .i64 0) := (blk_cell BK1057.out 5).trans rfl; have hfs22 := blk_frozen BK1057.out 5; have hns22_0 := NB1052_1057.out; have hns22_1 := NB1054_1057.out; have hms22_0 := NB1057_1052.out; have hms22_1 := NB1057_1054.out; have hs23 : w16.cell? ⟨gb1057, 6, none⟩ = some (.int .i64 0) := (blk_cell BK1057.out 6).trans rfl; have hfs23 := blk_frozen BK1057.out 6; have hns23_0 := NB1052_1057.out; have hns23_1 := NB1054_1057.out; have hms23_0 := NB1057_1052.out; have hms23_1 := NB1057_1054.out; have hs24 : w16.cell? ⟨gb1057, 7, none⟩ = some (.int .i64 0) := (blk_cell BK1057.out 7).trans rfl; have hfs24 := blk_frozen BK1057.out 7; have hns24_0 := NB1052_1057.out; have hns24_1 := NB1054_1057.out; have hms24_0 := NB1057_1052.out; have hms24_1 := NB1057_1054.out; have hs25 : w16.cell? ⟨gb1057, 8, none⟩ = some (.int .i64 0) := (blk_cell BK1057.out 8).trans rfl; have hfs25 := blk_frozen BK1057.out 8; have hns25_0 := NB1052_1057.out; have hns25_1 := NB1054_1057.out; have hms25_0 := NB1057_1052.out; have hms25_1 := NB1057_1054.out; refine skip_ (w1 := ?_) (by rfl) rfl ?_ ?_
     rotate_left
     ·go_simp
      rfl
     refine hK.out _ _ ⟨((cell_far (p := ⟨gb1057, _, none⟩) NB1052_1057.out _).trans (((cell_far (p := ⟨gb1057, _, none⟩) NB1052_1057.out _).trans (((cell_far (p := ⟨gb1057, _, none⟩) NB1052_1057.out _).trans (((cell_far (p := ⟨gb1057, _, none⟩) NB1052_1057.out _).trans (((cell_far (p := ⟨gb1057, _, none⟩) NB1052_1057.out _).trans (((cell_far (p := ⟨gb1057, _, none⟩) NB1052_1057.out _).trans (((cell_far (p := ⟨gb1057, _, none⟩) NB1052_1057.out _).trans (((cell_far (p := ⟨gb1057, _, none⟩) NB1052_1057.out _).trans (((cell_far (p := ⟨gb1057, _, none⟩) NB1052_1057.out _).trans (hHeld.1)))))))))))))))))), ((cell_far (p := ⟨gb1057, _, none⟩) NB1052_1057.out _).trans (((cell_far (p := ⟨gb1057, _, none⟩) NB1052_1057.out _).trans (((cell_far (p := ⟨gb1057, _, none⟩) NB1052_1057.out _).trans (((cell_far (p := ⟨gb1057, _, none⟩) NB1052_1057.out _).trans (((cell_far (p := ⟨gb1057, _, none⟩) NB1052_1057.out _).trans (((cell_far (p := ⟨gb1057, _, none⟩) NB1052_1057.out _).trans (((cell_far (p := ⟨gb1057, _, none⟩) NB1052_1057.out _).trans (((cell_far (p := ⟨gb1057, _, none⟩) NB1052_1057.out _).trans (((cell_far (p := ⟨gb1057, _, none⟩) NB1052_1057.out _).trans (hHeld.2.1)))))))))))))))))), ((cell_far (p := ⟨gb1057, _, none⟩) NB1052_1057.out _).trans (((cell_far (p := ⟨gb1057, _, none⟩) NB1052_1057.out _).trans (((cell_far (p := ⟨gb1057, _, none⟩) NB1052_1057.out _).trans (((cell_far (p := ⟨gb1057, _, none⟩) NB1052_1057.out _).trans (((cell_far (p := ⟨gb1057, _, none⟩) NB1052_1057.out _).trans (((cell_far (p := ⟨gb1057, _, none⟩) NB1052_1057.out _).trans (((cell_far (p := ⟨gb1057, _, none⟩) NB1052_1057.out _).trans (((cell_far (p := ⟨gb1057, _, none⟩) NB1052_1057.out _).trans (((cell_far (p := ⟨gb1057, _, none⟩) NB1052_1057.out _).trans (hHeld.2.2.1)))))))))))))))))), ((cell_far (p := ⟨gb1057, _, none⟩) NB1054_1057.out _).trans (((cell_far (p := ⟨gb1057, _, none⟩) NB1054_1057.out _).trans (((cell_far (p := ⟨gb1057, _, none⟩) NB1054_1057.out _).trans (((cell_far (p := ⟨gb1057, _, none⟩) NB1054_1057.out _).trans (((cell_far (p := ⟨gb1057, _, none⟩) NB1054_1057.out _).trans (((cell_far (p := ⟨gb1057, _, none⟩) NB1054_1057.out _).trans (((cell_far (p := ⟨gb1057, _, none⟩) NB1054_1057.out _).trans (((cell_far (p := ⟨gb1057, _, none⟩) NB1054_1057.out _).trans (((cell_far (p := ⟨gb1057, _, none⟩) NB1054_1057.out _).trans (hHeld.2.2.2.1)))))))))))))))))), ((cell_far (p := ⟨gb1057, _, none⟩) NB1054_1057.out _).trans (((cell_far (p := ⟨gb1057, _, none⟩) NB1054_1057.out _).trans (((cell_far (p := ⟨gb1057, _, none⟩) NB1054_1057.out _).trans (((cell_far (p := ⟨gb1057, _, none⟩) NB1054_1057.out _).trans (((cell_far (p := ⟨gb1057, _, none⟩) NB1054_1057.out _).trans (((cell_far (p := ⟨gb1057, _, none⟩) NB1054_1057.out _).trans (((cell_far (p := ⟨gb1057, _, none⟩) NB1054_1057.out _).trans (((cell_far (p := ⟨gb1057, _, none⟩) NB1054_1057.out _).trans (((cell_far (p := ⟨gb1057, _, none⟩) NB1054_1057.out _).trans (hHeld.2.2.2.2.1)))))))))))))))))), ((cell_far (p := ⟨gb1057, _, none⟩) NB1054_1057.out _).trans (((cell_far (p := ⟨gb1057, _, none⟩) NB1054_1057.out _).trans (((cell_far (p := ⟨gb1057, _, none⟩) NB1054_1057.out _).trans (((cell_far (p := ⟨gb1057, _, none⟩) NB1054_1057.out _).trans (((cell_far (p := ⟨gb1057, _, none⟩) NB1054_1057.out _).trans (((cell_far (p := ⟨gb1057, _, none⟩) NB1054_1057.out _).trans (((cell_far (p := ⟨gb1057, _, none⟩) NB1054_1057.out _).trans (((cell_far (p := ⟨gb1057, _, none⟩) NB1054_1057.out _).trans (((cell_far (p := ⟨gb1057, _, none⟩) NB1054_1057.out _).trans (hHeld.2.2.2.2.2.1)))))))))))))))))), ((cell_far (p := ⟨gb1057, _, none⟩) NB1054_1057.out _).trans (((cell_far (p := ⟨gb1057, _, none⟩) NB1054_1057.out _).trans (((cell_far (p := ⟨gb1057, _, none⟩) NB1054_1057.out _).trans (((cell_far (p := ⟨gb1057, _, none⟩) NB1054_1057.out _).trans (((cell_far (p := ⟨gb1057, _, none⟩) NB1054_1057.out _).trans (((cell_far (p := ⟨gb1057, _, none⟩) NB1054_1057.out _).trans (((cell_far (p := ⟨gb1057, _, none⟩) NB1054_1057.out _).trans (((cell_far (p := ⟨gb1057, _, none⟩) NB1054_1057.out _).trans (((cell_far (p := ⟨gb1057, _, none⟩) NB1054_1057.out _).trans (hHeld.2.2.2.2.2.2.1)))))))))))))))))), ((cell_far (p := ⟨gb1057, _, none⟩) (have z0_ := hw1056_0; have z1_ := GW1057; Zac) _).trans (((cell_far (p := ⟨gb1057, _, none⟩) (have z0_ := hw1056_0; have z1_ := GW1057; Zac) _).trans (((cell_far (p := ⟨gb1057, _, none⟩) (have z0_ := hw1056_0; have z1_ := GW1057; Zac) _).trans (((cell_far (p := ⟨gb1057, _, none⟩) (have z0_ := hw1056_0; have z1_ := GW1057; Zac) _).trans (((cell_far (p := ⟨gb1057, _, none⟩) (have z0_ := hw1056_0; have z1_ := GW1057; Zac) _).trans (((cell_far (p := ⟨gb1057, _, none⟩) (have z0_ := hw1056_0; have z1_ := GW1057; Zac) _).trans (((cell_far (p := ⟨gb1057, _, none⟩) (have z0_ := hw1056_0; have z1_ := GW1057; Zac) _).trans (((cell_far (p := ⟨gb1057, _, none⟩) (have z0_ := hw1056_0; have z1_ := GW1057; Zac) _).trans (((cell_far (p := ⟨gb1057, _, none⟩) (have z0_ := hw1056_0; have z1_ := GW1057; Zac) _).trans (hHeld.2.2.2.2.2.2.2.1)))))))))))))))))), ((cell_far (p := ⟨gb1057, _, none⟩) (have z0_ := hw1056_1; have z1_ := GW1057; Zac) _).trans (((cell_far (p := ⟨gb1057, _, none⟩) (have z0_ := hw1056_1; have z1_ := GW1057; Zac) _).trans (((cell_far (p := ⟨gb1057, _, none⟩) (have z0_ := hw1056_1; have z1_ := GW1057; Zac) _).trans (((cell_far (p := ⟨gb1057, _, none⟩) (have z0_ := hw1056_1; have z1_ := GW1057; Zac) _).trans (((cell_far (p := ⟨gb1057, _, none⟩) (have z0_ := hw1056_1; have z1_ := GW1057; Zac) _).trans (((cell_far (p := ⟨gb1057, _, none⟩) (have z0_ := hw1056_1; have z1_ := GW1057; Zac) _).trans (((cell_far (p := ⟨gb1057, _, none⟩) (have z0_ := hw1056_1; have z1_ := GW1057; Zac) _).trans (((cell_far (p := ⟨gb1057, _, none⟩) (have z0_ := hw1056_1; have z1_ := GW1057; Zac) _).trans (((cell_far (p := ⟨gb1057, _, none⟩) (have z0_ := hw1056_1; have z1_ := GW1057; Zac) _).trans (hHeld.2.2.2.2.2.2.2.2.1)))))))))))))))))), ((cell_far (p := ⟨gb1057, _, none⟩) (have z0_ := hw1056_2; have z1_ := GW1057; Zac) _).trans (((cell_far (p := ⟨gb1057, _, none⟩) (have z0_ := hw1056_2; have z1_ := GW1057; Zac) _).trans (((cell_far (p := ⟨gb1057, _, none⟩) (have z0_ := hw1056_2; have z1_ := GW1057; Zac) _).trans (((cell_far (p := ⟨gb1057, _, none⟩) (have z0_ := hw1056_2; have z1_ := GW1057; Zac) _).trans (((cell_far (p := ⟨gb1057, _, none⟩) (have z0_ := hw1056_2; have z1_ := GW1057; Zac) _).trans (((cell_far (p := ⟨gb1057, _, none⟩) (have z0_ := hw1056_2; have z1_ := GW1057; Zac) _).trans (((cell_far (p := ⟨gb1057, _, none⟩) (have z0_ := hw1056_2; have z1_ := GW1057; Zac) _).trans (((cell_far (p := ⟨gb1057, _, none⟩) (have z0_ := hw1056_2; have z1_ := GW1057; Zac) _).trans (((cell_far (p := ⟨gb1057, _, none⟩) (have z0_ := hw1056_2; have z1_ := GW1057; Zac) _).trans (hHeld.2.2.2.2.2.2.2.2.2.1)))))))))))))))))), ((cell_far (p := ⟨gb1057, _, none⟩) (have z0_ := hw1056_3; have z1_ := GW1057; Zac) _).trans (((cell_far (p := ⟨gb1057, _, none⟩) (have z0_ := hw1056_3; have z1_ := GW1057; Zac) _).trans (((cell_far (p := ⟨gb1057, _, none⟩) (have z0_ := hw1056_3; have z1_ := GW1057; Zac) _).trans (((cell_far (p := ⟨gb1057, _, none⟩) (have z0_ := hw1056_3; have z1_ := GW1057; Zac) _).trans (((cell_far (p := ⟨gb1057, _, none⟩) (have z0_ := hw1056_3; have z1_ := GW1057; Zac) _).trans (((cell_far (p := ⟨gb1057, _, none⟩) (have z0_ := hw1056_3; have z1_ := GW1057; Zac) _).trans (((cell_far (p := ⟨gb1057, _, none⟩) (have z0_ := hw1056_3; have z1_ := GW1057; Zac) _).trans (((cell_far (p := ⟨gb1057, _, none⟩) (have z0_ := hw1056_3; have z1_ := GW1057; Zac) _).trans (((cell_far (p := ⟨gb1057, _, none⟩) (have z0_ := hw1056_3; have z1_ := GW1057; Zac) _).trans (hHeld.2.2.2.2.2.2.2.2.2.2.1)))))))))))))))))), ((cell_far (p := ⟨gb1057, _, none⟩) (have z0_ := hw1056_4; have z1_ := GW1057; Zac) _).trans (((cell_far (p := ⟨gb1057, _, none⟩) (have z0_ := hw1056_4; have z1_ := GW1057; Zac) _).trans (((cell_far (p := ⟨gb1057, _, none⟩) (have z0_ := hw1056_4; have z1_ := GW1057; Zac) _).trans (((cell_far (p := ⟨gb1057, _, none⟩) (have z0_ := hw1056_4; have z1_ := GW1057; Zac) _).trans (((cell_far (p := ⟨gb1057, _, none⟩) (have z0_ := hw1056_4; have z1_ := GW1057; Zac) _).trans (((cell_far (p := ⟨gb1057, _, none⟩) (have z0_ := hw1056_4; have z1_ := GW1057; Zac) _).trans (((cell_far (p := ⟨gb1057, _, none⟩) (have z0_ := hw1056_4; have z1_ := GW1057; Zac) _).trans (((cell_far (p := ⟨gb1057, _, none⟩) (have z0_ := hw1056_4; have z1_ := GW1057; Zac) _).trans (((cell_far (p := ⟨gb1057, _, none⟩) (have z0_ := hw1056_4; have z1_ := GW1057; Zac) _).trans (hHeld.2.2.2.2.2.2.2.2.2.2.2.1)))))))))))))))))), ((cell_far (p := ⟨gb1057, _, none⟩) (have z0_ := hw1056_5; have z1_ := GW1057; Zac) _).trans (((cell_far (p := ⟨gb1057, _, none⟩) (have z0_ := hw1056_5; have z1_ := GW1057; Zac) _).trans (((cell_far (p := ⟨gb1057, _, none⟩) (have z0_ := hw1056_5; have z1_ := GW1057; Zac) _).trans (((cell_far (p := ⟨gb1057, _, none⟩) (have z0_ := hw1056_5; have z1_ := GW1057; Zac) _).trans (((cell_far (p := ⟨gb1057, _, none⟩) (have z0_ := hw1056_5; have z1_ := GW1057; Zac) _).trans (((cell_far (p := ⟨gb1057, _, none⟩) (have z0_ := hw1056_5; have z1_ := GW1057; Zac) _).trans (((cell_far (p := ⟨gb1057, _, none⟩) (have z0_ := hw1056_5; have z1_ := GW1057; Zac) _).trans (((cell_far (p := ⟨gb1057, _, none⟩) (have z0_ := hw1056_5; have z1_ := GW1057; Zac) _).trans (((cell_far (p := ⟨gb1057, _, none⟩) (have z0_ := hw1056_5; have z1_ := GW1057; Zac) _).trans (hHeld.2.2.2.2.2.2.2.2.2.2.2.2.1)))))))))))))))))), ((cell_far (p := ⟨gb1057, _, none⟩) (have z0_ := hw1056_6; have z1_ := GW1057; Zac) _).trans (((cell_far (p := ⟨gb1057, _, none⟩) (have z0_ := hw1056_6; have z1_ := GW1057; Zac) _).trans (((cell_far (p := ⟨gb1057, _, none⟩) (have z0_ := hw1056_6; have z1_ := GW1057; Zac) _).trans (((cell_far (p := ⟨gb1057, _, none⟩) (have z0_ := hw1056_6; have z1_ := GW1057; Zac) _).trans (((cell_far (p := ⟨gb1057, _, none⟩) (have z0_ := hw1056_6; have z1_ := GW1057; Zac) _).trans (((cell_far (p := ⟨gb1057, _, none⟩) (have z0_ := hw1056_6; have z1_ := GW1057; Zac) _).trans (((cell_far (p := ⟨gb1057, _, none⟩) (have z0_ := hw1056_6; have z1_ := GW1057; Zac) _).trans (((cell_far (p := ⟨gb1057, _, none⟩) (have z0_ := hw1056_6; have z1_ := GW1057; Zac) _).trans (((cell_far (p := ⟨gb1057, _, none⟩) (have z0_ := hw1056_6; have z1_ := GW1057; Zac) _).trans (hHeld.2.2.2.2.2.2.2.2.2.2.2.2.2.1)))))))))))))))))), ((cell_far (p := ⟨gb1057, _, none⟩) (have z0_ := hw1056_7; have z1_ := GW1057; Zac) _).trans (((cell_far (p := ⟨gb1057, _, none⟩) (have z0_ := hw1056_7; have z1_ := GW1057; Zac) _).trans (((cell_far (p := ⟨gb1057, _, none⟩) (have z0_ := hw1056_7; have z1_ := GW1057; Zac) _).trans (((cell_far (p := ⟨gb1057, _, none⟩) (have z0_ := hw1056_7; have z1_ := GW1057; Zac) _).trans (((cell_far (p := ⟨gb1057, _, none⟩) (have z0_ := hw1056_7; have z1_ := GW1057; Zac) _).trans (((cell_far (p := ⟨gb1057, _, none⟩) (have z0_ := hw1056_7; have z1_ := GW1057; Zac) _).trans (((cell_far (p := ⟨gb1057, _, none⟩) (have z0_ := hw1056_7; have z1_ := GW1057; Zac) _).trans (((cell_far (p := ⟨gb1057, _, none⟩) (have z0_ := hw1056_7; have z1_ := GW1057; Zac) _).trans (((cell_far (p := ⟨gb1057, _, none⟩) (have z0_ := hw1056_7; have z1_ := GW1057; Zac) _).trans (hHeld.2.2.2.2.2.2.2.2.2.2.2.2.2.2.1)))))))))))))))))), ((cell_far (p := ⟨gb1057, _, none⟩) (have z0_ := hw1056_8; have z1_ := GW1057; Zac) _).trans (((cell_far (p := ⟨gb1057, _, none⟩) (have z0_ := hw1056_8; have z1_ := GW1057; Zac) _).trans (((cell_far (p := ⟨gb1057, _, none⟩) (have z0_ := hw1056_8; have z1_ := GW1057; Zac) _).trans (((cell_far (p := ⟨gb1057, _, none⟩) (have z0_ := hw1056_8; have z1_ := GW1057; Zac) _).trans (((cell_far (p := ⟨gb1057, _, none⟩) (have z0_ := hw1056_8; have z1_ := GW1057; Zac) _).trans (((cell_far (p := ⟨gb1057, _, none⟩) (have z0_ := hw1056_8; have z1_ := GW1057; Zac) _).trans (((cell_far (p := ⟨gb1057, _, none⟩) (have z0_ := hw1056_8; have z1_ := GW1057; Zac) _).trans (((cell_far (p := ⟨gb1057, _, none⟩) (have z0_ := hw1056_8; have z1_ := GW1057; Zac) _).trans (((cell_far (p := ⟨gb1057, _, none⟩) (have z0_ := hw1056_8; have z1_ := GW1057; Zac) _).trans (hHeld.2.2.2.2.2.2.2.2.2.2.2.2.2.2.2))))))))))))))))))⟩ (fun hHeld => ?_)
     clear hK K; refine done_ (done_of HT_.out Zi) ?_
     try go_wp2_with (first | ((with_reducible refine gate_dst (N := 24) rfl ?_); refine Kd.S_lit (Kd.slice 2 (Kd.int .i64)) _ 33 ?hg (N := 24) ?hd (xs := ([] : List (List Int))) (inner := []) (ok := fun _ => True) (okp := fun _ => True) ?hr ?hp (fun _ hk => hk) trivial (Below.refl _ _) (Nat.le_refl _) (by simp) ?_; (case hd => rfl); (case hg => rfl); (case hr => first | (go_simp; done) | (go_simp; rfl)); (case hp => exact (Reps.none _ _)); intro v1059 w26 ho27 hb hg_ hnew_; clear hg_ hnew_; (first | rw [← Ny1058.out] at ho27 | (simp only [Int.reduceToNat] at ho27; rw [← Ny1058.out] at ho27)); replace HO1060 := am_ (Kd.S_lower ho27 (below_size (have z0_ := GE1052; have z1_ := GE1054; have z2_ := GE1057; Zab))); replace BK1052 := am_ (blk_below (g := gb1052) (o := .cells #[.slice A0_0 l0_0.length c0_0, .slice (some ad1056) l0_1.length c0_1, .slice (some ad1053) l0_2.length c0_2] 28 (0, 0)) (have z0_ := NB1052_1057; have z1_ := BK1052; Zas) hb); replace BK1054 := am_ (blk_below (g := gb1054) (o := .cells #[.int .i64 ((rd_T39 l0_2 a1).f0), .int .i64 ((rd_T39 l0_2 a1).f1), .string ((rd_T39 l0_2 a1).f2), .int .i64 ((rd_T39 l0_2 a1).f3)] 39 (0, 0)) (have z0_ := NB1054_1057; have z1_ := BK1054; Zas) hb); replace BK1057 := am_ (blk_below (g := gb1057) (o := .cells #[.string ((rd_T62 l0_1 t1055).f0), .int .i64 ((rd_T62 l0_1 t1055).f1), .int .i64 ((rd_T62 l0_1 t1055).f2), .int .i64 ((rd_T62 l0_1 t1055).f3), .int .i64 ((rd_T62 l0_1 t1055).f4), .int .i64 ((rd_T62 l0_1 t1055).f5), .int .i64 ((rd_T62 l0_1 t1055).f6), .int .i64 ((rd_T62 l0_1 t1055).f7), .int .i64 ((rd_T62 l0_1 t1055).f8)] 62 (0, 0)) (by (with_reducible repeat (first | refine blk_drewN ?_ _ | refine blk_drew ?_ | refine blk_alloc ?_ _)); refine blk_put (cs := #[.string ((rd_T62 l0_1 t1055).f0), .int .i64 ((rd_T62 l0_1 t1055).f1), .int .i64 ((rd_T62 l0_1 t1055).f2), .int .i64 ((rd_T62 l0_1 t1055).f3), .int .i64 ((rd_T62 l0_1 t1055).f4), .int .i64 ((rd_T62 l0_1 t1055).f5), .int .i64 ((rd_T62 l0_1 t1055).f6), .int .i64 ((rd_T62 l0_1 t1055).f7), .int .i64 0]) ?_ 8 _ rfl; refine blk_put (cs := #[.string ((rd_T62 l0_1 t1055).f0), .int .i64 ((rd_T62 l0_1 t1055).f1), .int .i64 ((rd_T62 l0_1 t1055).f2), .int .i64 ((rd_T62 l0_1 t1055).f3), .int .i64 ((rd_T62 l0_1 t1055).f4), .int .i64 ((rd_T62 l0_1 t1055).f5), .int .i64 ((rd_T62 l0_1 t1055).f6), .int .i64 0, .int .i64 0]) ?_ 7 _ rfl; refine blk_put (cs := #[.string ((rd_T62 l0_1 t1055).f0), .int .i64 ((rd_T62 l0_1 t1055).f1), .int .i64 ((rd_T62 l0_1 t1055).f2), .int .i64 ((rd_T62 l0_1 t1055).f3), .int .i64 ((rd_T62 l0_1 t1055).f4), .int .i64 ((rd_T62 l0_1 t1055).f5), .int .i64 0, .int .i64 0, .int .i64 0]) ?_ 6 _ rfl; refine blk_put (cs := #[.string ((rd_T62 l0_1 t1055).f0), .int .i64 ((rd_T62 l0_1 t1055).f1), .int .i64 ((rd_T62 l0_1 t1055).f2), .int .i64 ((rd_T62 l0_1 t1055).f3), .int .i64 ((rd_T62 l0_1 t1055).f4), .int .i64 0, .int .i64 0, .int .i64 0, .int .i64 0]) ?_ 5 _ rfl; refine blk_put (cs := #[.string ((rd_T62 l0_1 t1055).f0), .int .i64 ((rd_T62 l0_1 t1055).f1), .int .i64 ((rd_T62 l0_1 t1055).f2), .int .i64 ((rd_T62 l0_1 t1055).f3), .int .i64 0, .int .i64 0, .int .i64 0, .int .i64 0, .int .i64 0]) ?_ 4 _ rfl; refine blk_put (cs := #[.string ((rd_T62 l0_1 t1055).f0), .int .i64 ((rd_T62 l0_1 t1055).f1), .int .i64 ((rd_T62 l0_1 t1055).f2), .int .i64 0, .int .i64 0, .int .i64 0, .int .i64 0, .int .i64 0, .int .i64 0]) ?_ 3 _ rfl; refine blk_put (cs := #[.string ((rd_T62 l0_1 t1055).f0), .int .i64 ((rd_T62 l0_1 t1055).f1), .int .i64 0, .int .i64 0, .int .i64 0, .int .i64 0, .int .i64 0, .int .i64 0, .int .i64 0]) ?_ 2 _ rfl; refine blk_put (cs := #[.string ((rd_T62 l0_1 t1055).f0), .int .i64 0, .int .i64 0, .int .i64 0, .int .i64 0, .int .i64 0, .int .i64 0, .int .i64 0, .int .i64 0]) ?_ 1 _ rfl; refine blk_put (cs := #[.string (⟨#[]⟩ : ByteArray), .int .i64 0, .int .i64 0, .int .i64 0, .int .i64 0, .int .i64 0, .int .i64 0, .int .i64 0, .int .i64 0]) ?_ 0 _ rfl; (with_reducible repeat (first | refine blk_drewN ?_ _ | refine blk_drew ?_ | refine blk_alloc ?_ _)); exact BK1057.out) hb); replace HB := (bsZ (have z0_ := GE1052; have z1_ := GE1054; have z2_ := GE1057; Zab) hb); clear hb ho27))
     go_loopg [7, 8] k (fun kq v7 v8 w' => ∃ (x7_1 : List (List Int)) (x8_1 : Int), v8 = .int .i64 x8_1 ∧ Aside0 (spec_l09Cue.l0 kq a1 x7_1 x8_1 l0_0 l0_1 l0_2 ((rd_T39 l0_2 a1).f0) ((rd_T39 l0_2 a1).f1) ((rd_T39 l0_2 a1).f2) ((rd_T39 l0_2 a1).f3) ((rd_T62 l0_1 t1055).f0) ((rd_T62 l0_1 t1055).f1) ((rd_T62 l0_1 t1055).f2) ((rd_T62 l0_1 t1055).f3) ((rd_T62 l0_1 t1055).f4) ((rd_T62 l0_1 t1055).f5) ((rd_T62 l0_1 t1055).f6) ((rd_T62 l0_1 t1055).f7) ((rd_T62 l0_1 t1055).f8) = some r) ∧ Aside0 (kq ≤ k) ∧ Aside0 (Kd.S (Kd.slice 2 (Kd.int .i64)) 33 w' w.heap.size (fun _ => True) v7 x7_1) ∧ Aside0 (w'.heap[gb1052]? = some (.cells #[(.slice A0_0 l0_0.length c0_0), (.slice (some ad1056) l0_1.length c0_1), (.slice (some ad1053) l0_2.length c0_2)] 28 (0, 0))) ∧ Aside0 (w'.heap[gb1054]? = some (.cells #[.int .i64 ((rd_T39 l0_2 a1).f0), .int .i64 ((rd_T39 l0_2 a1).f1), .string ((rd_T39 l0_2 a1).f2), .int .i64 ((rd_T39 l0_2 a1).f3)] 39 (0, 0))) ∧ Aside0 (w'.heap[gb1057]? = some (.cells #[.string ((rd_T62 l0_1 t1055).f0), .int .i64 ((rd_T62 l0_1 t1055).f1), .int .i64 ((rd_T62 l0_1 t1055).f2), .int .i64 ((rd_T62 l0_1 t1055).f3), .int .i64 ((rd_T62 l0_1 t1055).f4), .int .i64 ((rd_T62 l0_1 t1055).f5), .int .i64 ((rd_T62 l0_1 t1055).f6), .int .i64 ((rd_T62 l0_1 t1055).f7), .int .i64 ((rd_T62 l0_1 t1055).f8)] 62 (0, 0))) ∧ Aside0 (Below w.heap.size w w'))
     case atStart => exact ⟨(y1058), (0), Za, H', ⟨Nat.le_refl _⟩, ⟨(have z0_ := HO1060; Zae)⟩, ⟨(have z0_ := BK1052; Zs)⟩, ⟨(have z0_ := BK1054; Zs)⟩, ⟨(have z0_ := BK1057; Zs)⟩, ⟨(have z0_ := GE1052; have z1_ := GE1054; have z2_ := GE1057; Zab)⟩⟩
     case round =>
      clear H'
      try clear c1
      try clear p1
      try clear q1
      try clear hx1
      try clear p2
      try clear c3
      try clear c3b0
      try clear c4
      try clear c4b0
      try clear c6
      try clear c6b0
      try clear c7
      try clear c7b0
      try clear p10
      try clear q10
      try clear hx10
      try clear c11
      try clear hcz12_0
      try clear hcz12_1
      try clear hcz12_2
      try clear hcz12_3
      try clear hcz9_0
      try clear hcz9_1
      try clear hcz9_2
      try clear hfz12_0
      try clear hfz12_1
      try clear hfz12_2
      try clear hfz12_3
      try clear hfz9_0
      try clear hfz9_1
      try clear hfz9_2
      try clear hx1053_0
      try clear hx1053_1
      try clear hx1053_2
      try clear hx1053_3
      try clear hx1056_0
      try clear hx1056_1
      try clear hx1056_2
      try clear hx1056_3
      try clear hx1056_4
      try clear hx1056_5
      try clear hx1056_6
      try clear hx1056_7
      try clear hx1056_8
      try clear p1053
      try clear p1056
      try clear q1053
      try clear q1056
      obtain ⟨x7_1, x8_1, rfl, HA, HK1, HO_7, BK1052, BK1054, BK1057, HB⟩ := hrel
      cases gk with
      | zero => exact absurd HA.out (by simp [spec_l09Cue.l0])
      | succ k1 =>
       have H := HA.out; clear HA; simp only [spec_l09Cue.l0] at H
       by_cases c28 : x8_1 < ((rd_T62 l0_1 t1055).f5)
       ·rw [if_pos c28] at H
        have c28b0 := decide_eq_true c28; clear c28; replace H := Option.bind_eq_some_iff.mp H; obtain ⟨t1061, A290, H⟩ := H; have A29 := am_ A290; clear A290; replace H := Option.bind_eq_some_iff.mp H; obtain ⟨t1062, A300, H⟩ := H; have A30 := am_ A300; clear A300
        by_cases c31 : 0 < (t1062.length : Int)
        ·rw [if_pos c31] at H
         have c31b0 := decide_eq_true c31; have c31b1 : decide (0 < t1062.length) = true := decide_eq_true (by omega); clear c31
         by_cases c32 : 1 < (t1062.length : Int)
         ·rw [if_pos c32] at H
          have c32b0 := decide_eq_true c32; have c32b1 : decide (1 < t1062.length) = true := decide_eq_true (by omega); clear c32; obtain ⟨y1067, hy1067⟩ : ∃ y_ : List Int, y_ = (([rd t1062 0, rd t1062 1, a1] : List Int)) := ⟨_, rfl⟩
          (first | (rw [← hy1067] at H; with_reducible replace H := bindZ H) | rw [← hy1067] at H)
          have Ny1067 := am_ hy1067; clear hy1067
          by_cases c33 : x7_1.length < 5864062014805
          ·rw [if_pos c33] at H
           have LMc33 := am_ c33; clear c33; obtain ⟨y1070, hy1070⟩ : ∃ y_ : List (List Int), y_ = (x7_1 ++ [y1067]) := ⟨_, rfl⟩
           (first | (rw [← hy1070] at H; with_reducible replace H := bindZ H) | rw [← hy1070] at H)
           have Ny1070 := am_ hy1070; clear hy1070; have H' := am_ H; clear H; have hnb34 := NB1057_1052.out; have hnc34 := NB1052_1057.out; have hnb35 := NB1057_1054.out; have hnc35 := NB1054_1057.out; refine ci9 BK1057 ?_; intros
           try go_wp2
           replace HO_7 := am_ (Kd.S_drew HO_7.out); replace BK1052 := am_ (blk_drew BK1052.out); replace BK1054 := am_ (blk_drew BK1054.out); replace BK1057 := am_ (blk_drew BK1057.out); replace HB := am_ (below_drew1 HB.out); refine start_ (n := 7) (S := fun w' => w'.cell? ⟨gb1057, 0, none⟩ = some (.string ((rd_T62 l0_1 t1055).f0)) ∧ w'.cell? ⟨gb1057, 1, none⟩ = some (.int .i64 ((rd_T62 l0_1 t1055).f1)) ∧ w'.cell? ⟨gb1057, 2, none⟩ = some (.int .i64 ((rd_T62 l0_1 t1055).f2)) ∧ w'.cell? ⟨gb1057, 3, none⟩ = some (.int .i64 ((rd_T62 l0_1 t1055).f3)) ∧ w'.cell? ⟨gb1057, 4, none⟩ = some (.int .i64 ((rd_T62 l0_1 t1055).f4)) ∧ w'.cell? ⟨gb1057, 5, none⟩ = some (.int .i64 ((rd_T62 l0_1 t1055).f5)) ∧ w'.cell? ⟨gb1057, 6, none⟩ = some (.int .i64 ((rd_T62 l0_1 t1055).f6)) ∧ w'.cell? ⟨gb1057, 7, none⟩ = some (.int .i64 ((rd_T62 l0_1 t1055).f7)) ∧ w'.cell? ⟨gb1057, 8, none⟩ = some (.int .i64 ((rd_T62 l0_1 t1055).f8)) ∧ w'.cell? ⟨gb1052, 0, none⟩ = some (.slice A0_0 l0_0.length c0_0) ∧ w'.cell? ⟨gb1052, 1, none⟩ = some (.slice (some ad1056) l0_1.length c0_1) ∧ w'.cell? ⟨gb1052, 2, none⟩ = some (.slice (some ad1053) l0_2.length c0_2) ∧ w'.cell? ⟨gb1054, 0, none⟩ = some (.int .i64 ((rd_T39 l0_2 a1).f0)) ∧ w'.cell? ⟨gb1054, 1, none⟩ = some (.int .i64 ((rd_T39 l0_2 a1).f1)) ∧ w'.cell? ⟨gb1054, 2, none⟩ = some (.string ((rd_T39 l0_2 a1).f2)) ∧ w'.cell? ⟨gb1054, 3, none⟩ = some (.int .i64 ((rd_T39 l0_2 a1).f3))) (ds := []) (bT 7 0) Zi rfl rfl ⟨(blk_cell BK1057.out 0).trans rfl, (blk_cell BK1057.out 1).trans rfl, (blk_cell BK1057.out 2).trans rfl, (blk_cell BK1057.out 3).trans rfl, (blk_cell BK1057.out 4).trans rfl, (blk_cell BK1057.out 5).trans rfl, (blk_cell BK1057.out 6).trans rfl, (blk_cell BK1057.out 7).trans rfl, (blk_cell BK1057.out 8).trans rfl, (blk_cell BK1052.out 0).trans rfl, (blk_cell BK1052.out 1).trans rfl, (blk_cell BK1052.out 2).trans rfl, (blk_cell BK1054.out 0).trans rfl, (blk_cell BK1054.out 1).trans rfl, (blk_cell BK1054.out 2).trans rfl, (blk_cell BK1054.out 3).trans rfl⟩ (fun hHeld => ?_); generalize wr.drew = w37 at HO_7 BK1052 BK1054 BK1057 HB hHeld ⊢; refine pure_ (i := 4) (N := some 35) (v := ?_) (a' := ?_) #[false, false, false, false, true, false, false] rfl rfl Zi (fun _ _ _ h => h) (Or.inl ⟨by rfl, ?_⟩) ?_ ?_; rotate_left
           ·intro w'
            go_simp
            with_reducible rfl
           rotate_left
           ·exact Zput
           refine take_ (i := 0) (N := some 31) (v := ?_) (a' := ?_) #[true, false, false, false, true, false, false] rfl rfl Zi (fun _ _ _ h => h) (Or.inl ⟨by rfl, ?_⟩) hHeld ?_ ?_; rotate_left
           ·rintro w' ⟨s0, s1, s2, s3, s4, s5, s6, s7, s8, s9, s10, s11, s12, s13, s14, s15⟩
            go_simp
            with_reducible rfl
           rotate_left
           ·exact Zput
           refine take_ (i := 1) (N := some 32) (v := ?_) (a' := ?_) #[true, true, false, false, true, false, false] rfl rfl Zi (fun _ _ _ h => h) (Or.inl ⟨by rfl, ?_⟩) hHeld ?_ ?_; rotate_left
           ·rintro w' ⟨s0, s1, s2, s3, s4, s5, s6, s7, s8, s9, s10, s11, s12, s13, s14, s15⟩
            go_simp
            with_reducible rfl
           rotate_left
           ·exact Zput
           refine take_ (i := 2) (N := some 33) (v := ?_) (a' := ?_) #[true, true, true, false, true, false, false] rfl rfl Zi (fun _ _ _ h => h) (Or.inl ⟨by rfl, ?_⟩) hHeld ?_ ?_; rotate_left
           ·rintro w' ⟨s0, s1, s2, s3, s4, s5, s6, s7, s8, s9, s10, s11, s12, s13, s14, s15⟩
            go_simp
            with_reducible rfl
           rotate_left
           ·exact Zput
           refine one_ (i := 3) (N := some 34) (bT 7 5) rfl rfl Zi (by decide) (fun K hK => ?_); refine goes_ Try.func90 Zi rfl #[.agg #[.slice A0_0 l0_0.length c0_0, .slice (some ad1056) l0_1.length c0_1, .slice (some ad1053) l0_2.length c0_2], .agg #[.int .i64 ((rd_T39 l0_2 a1).f0), .int .i64 ((rd_T39 l0_2 a1).f1), .string ((rd_T39 l0_2 a1).f2), .int .i64 ((rd_T39 l0_2 a1).f3)]] (by rfl) rfl rfl Zj ?_
           with_reducible refine (spec_l08Time.calls k1 _ _ l0_0 _ _ l0_1 _ _ l0_2 ((rd_T39 l0_2 a1).f0) ((rd_T39 l0_2 a1).f1) ((rd_T39 l0_2 a1).f2) ((rd_T39 l0_2 a1).f3) t1061 _ ?side1 ?side2 ?side3 ?side4 ?side5 ?side6 A29.out).mono ?_
           (case side1 => exact (have z0_ := HR0_0; Zq))
           (case side2 => exact HC0_0.out)
           (case side3 => exact (have z0_ := HR0_1; Zq))
           (case side4 => exact HC0_1.out)
           (case side5 => exact (have z0_ := HR0_2; Zq))
           (case side6 => exact HC0_2.out)
           rintro e w38 ⟨rfl, hb⟩; refine ⟨_, rfl, ?_⟩; replace HO_7 := am_ (Kd.S_below (have z0_ := HO_7; Zae) hb); replace BK1052 := (have z0_ := BK1052; bkZ hb); replace BK1054 := (have z0_ := BK1054; bkZ hb); replace BK1057 := (have z0_ := BK1057; bkZ hb); replace HB := (bsZ (have z0_ := GE1052; have z1_ := GE1054; have z2_ := GE1057; Zab) hb)
           (try clear hb)
           (try clear hb2)
           (try clear hk)
           (try clear hi)
           refine hK.out _ _ (have z0_ := BK1057; have z1_ := BK1052; have z2_ := BK1054; Zat) (fun hHeld => ?_); clear hK K; refine normZ 34 ?_; refine one_ (i := 5) (N := some 36) (bT 7 6) rfl rfl Zi (by decide) (fun K hK => ?_); refine goes_ Try.func93 Zi rfl #[.agg #[.string ((rd_T62 l0_1 t1055).f0), .int .i64 ((rd_T62 l0_1 t1055).f1), .int .i64 ((rd_T62 l0_1 t1055).f2), .int .i64 ((rd_T62 l0_1 t1055).f3), .int .i64 ((rd_T62 l0_1 t1055).f4), .int .i64 ((rd_T62 l0_1 t1055).f5), .int .i64 ((rd_T62 l0_1 t1055).f6), .int .i64 ((rd_T62 l0_1 t1055).f7), .int .i64 ((rd_T62 l0_1 t1055).f8)], .int .i64 t1061, .int .i64 x8_1] (by rfl) rfl rfl Zj ?_
           with_reducible refine (spec_l03Window.calls ((rd_T62 l0_1 t1055).f0) ((rd_T62 l0_1 t1055).f1) ((rd_T62 l0_1 t1055).f2) ((rd_T62 l0_1 t1055).f3) ((rd_T62 l0_1 t1055).f4) ((rd_T62 l0_1 t1055).f5) ((rd_T62 l0_1 t1055).f6) ((rd_T62 l0_1 t1055).f7) ((rd_T62 l0_1 t1055).f8) t1061 x8_1 t1062 _ A30.out).mono ?_
           rintro e w39 ⟨v1063, rfl, ho0, hb⟩; refine ⟨_, rfl, ?_⟩; replace HO_7 := am_ (Kd.S_elder' (have z0_ := HO_7; Zae) (Kd.R_base ho0) hb); replace HO1064 := am_ (Kd.R_lower ho0 (below_size (have z0_ := GE1052; have z1_ := GE1054; have z2_ := GE1057; Zab))); replace BK1052 := (have z0_ := BK1052; bkZ hb); replace BK1054 := (have z0_ := BK1054; bkZ hb); replace BK1057 := (have z0_ := BK1057; bkZ hb); replace HB := (bsZ (have z0_ := GE1052; have z1_ := GE1054; have z2_ := GE1057; Zab) hb)
           (try clear hb)
           (try clear hb2)
           (try clear hk)
           (try clear hi)
           (try clear ho0)
           refine hK.out _ _ (have z0_ := BK1057; have z1_ := BK1052; have z2_ := BK1054; Zat) (fun hHeld => ?_); clear hK K; refine normZ 36 ?_; refine pure_ (i := 6) (N := some 9) (v := ?_) (a' := ?_) (bT 7 7) rfl rfl Zi (fun _ _ _ h => h) (Or.inl ⟨by rfl, ?_⟩) ?_ ?_; rotate_left
           ·intro w'
            go_simp
            with_reducible rfl
           rotate_left
           ·exact Zput
           refine done_ Zi ?_
           try go_wp2
           replace HO_7 := am_ (Kd.S_drew HO_7.out); replace HO1064 := am_ (Kd.R_drew HO1064.out); replace BK1052 := am_ (blk_drew BK1052.out); replace BK1054 := am_ (blk_drew BK1054.out); replace BK1057 := am_ (blk_drew BK1057.out); replace HB := am_ (below_drew1 HB.out); obtain ⟨Ao41, co41, eo41⟩ := Kd.R_slice HO1064.out
           (first | subst eo41 | (injection eo41 with f1_ f2_ f3_; have f4_ := f1_.symm; have f5_ := f3_.symm; clear f1_ f2_ f3_; subst f4_; subst f5_))
           have p1065 : 0 ≤ (0 : Int) := (by omega); have q1065 : 0 < (t1062.length : Int) := of_decide_eq_true Zc; obtain ⟨ad1065, e1065, hx1065_0⟩ := Kd.at_int (Kd.R_reads' HO1064.out).2.2 0 p1065 q1065
           cases e1065
           have qi1065 : (0 < t1062.length) = True := eq_true (by omega)
           (try rw [show ((0 : Int)).toNat = 0 from rfl] at hx1065_0)
           (try rw [Addr.add_zero'] at hx1065_0)
           replace p1065 := eq_true p1065; replace q1065 := eq_true q1065; have p1066 : 0 ≤ (1 : Int) := (by omega); have q1066 : 1 < (t1062.length : Int) := of_decide_eq_true Zc; obtain ⟨ad1066, e1066, hx1066_0⟩ := Kd.at_int (Kd.R_reads' HO1064.out).2.2 1 p1066 q1066; obtain rfl : ad1065 = ad1066 := (by injection e1066)
           (try simp only [show (1 : Int).toNat = 1 from rfl, Nat.reduceMul, Nat.reduceEqDiff, Go.Addr.add, ↓reduceIte] at hx1066_0)
           have qi1066 : (1 < t1062.length) = True := eq_true (by omega)
           (try rw [show ((1 : Int)).toNat = 1 from rfl] at hx1066_0)
           replace p1066 := eq_true p1066; replace q1066 := eq_true q1066; refine start_ (n := 12) (S := fun w' => w'.cell? ad1065 = some (.int .i64 (rd t1062 0)) ∧ w'.cell? ⟨ad1065.block, ad1065.off + 1, none⟩ = some (.int .i64 (rd t1062 1))) (ds := [9, 10]) (bT 12 0) Zi rfl rfl ⟨hx1065_0, hx1066_0⟩ (fun hHeld => ?_); refine with_tabW spec_l09Cue.tab8 spec_l09Cue.bits8 (fun HT_ HW_ => ?_); generalize w39.drew = w40 at HO_7 HO1064 BK1052 BK1054 BK1057 HB hx1065_0 hx1066_0 hHeld ⊢; refine pureZ HT_ 0 (some 37) (bT 12 1) ?_; refine pureZ HT_ 1 (some 38) (bT 12 2) ?_; refine pureZ HT_ 2 (some 39) (bT 12 3) ?_; refine pureZ HT_ 4 (some 41) #[true, true, true, false, true, false, false, false, false, false, false, false] ?_; refine pureZ HT_ 5 (some 42) #[true, true, true, false, true, true, false, false, false, false, false, false] ?_; refine pureZ HT_ 7 (some 44) #[true, true, true, false, true, true, false, true, false, false, false, false] ?_; refine takeZ2 HT_ HW_ 3 (some 40) #[true, true, true, true, true, true, false, true, false, false, false, false] hHeld ?_; refine takeZ2 HT_ HW_ 6 (some 43) (bT 12 8) hHeld ?_; refine one_ (i := 8) (N := some 45) (bT 12 9) rfl rfl (one_of HT_.out Zi) (by decide) (fun K hK => ?_); refine Kd.R_lit_step (Kd.int .i64) _ 2 ?hg (N := 45) ?hd (xs := ([rd t1062 0, rd t1062 1, a1] : List Int)) (inner := [.int .i64 (rd t1062 0), .int .i64 (rd t1062 1), .int .i64 a1]) (ok := fun _ => True) (okp := fun _ => True) ?hr ?hp (fun _ hk => hk) trivial (Below.refl _ _) (Nat.le_refl _) (by simp) ?_; (case hd => rfl); (case hg => rfl); (case hr => first | (go_simp; done) | (go_simp; rfl)); (case hp => exact (Reps.one (show Kd.M (Kd.int .i64) _ _ _ (rd t1062 0) [.int .i64 (rd t1062 0)] from rfl) (Reps.one (show Kd.M (Kd.int .i64) _ _ _ (rd t1062 1) [.int .i64 (rd t1062 1)] from rfl) (Reps.one (show Kd.M (Kd.int .i64) _ _ _ a1 [.int .i64 a1] from rfl) (Reps.none _ _))))); intro v1068 w42 ho43 hb hg_ hnew_; have HS0_ := (hb.cell (World.block_lt_of_cell? _ _ (hHeld.1))).trans (hHeld.1); have HS1_ := (hb.cell (World.block_lt_of_cell? _ _ (hHeld.2))).trans (hHeld.2); clear hg_ hnew_
           (first | rw [← Ny1067.out] at ho43 | (simp only [Int.reduceToNat] at ho43; rw [← Ny1067.out] at ho43))
           replace HO_7 := am_ (Kd.S_elder' (have z0_ := HO_7; Zae) (Kd.R_base ho43) hb); replace HO1069 := am_ (Kd.R_lower (Kd.R_new' ho43 (Kd.R_lt (have z0_ := HO1064; Zai))) (below_size (have z0_ := GE1052; have z1_ := GE1054; have z2_ := GE1057; Zab))); replace HO1064 := am_ (Kd.R_elder' (have z0_ := HO1064; Zai) (Kd.R_base ho43) hb); replace BK1052 := (have z0_ := BK1052; bkZ hb); replace BK1054 := (have z0_ := BK1054; bkZ hb); replace BK1057 := (have z0_ := BK1057; bkZ hb); replace HB := (bsZ (have z0_ := GE1052; have z1_ := GE1054; have z2_ := GE1057; Zab) hb); clear hb ho43; obtain ⟨Ao45, co45, eo45⟩ := Kd.R_slice HO1069.out
           (first | subst eo45 | (injection eo45 with f1_ f2_ f3_; have f4_ := f1_.symm; have f5_ := f3_.symm; clear f1_ f2_ f3_; subst f4_; subst f5_))
           refine hK.out _ _ ⟨HS0_, HS1_⟩ (fun hHeld => ?_); clear hK K; refine normZ 45 ?_; refine last_ (i := 9) (N := some 46) (bT 12 10) rfl rfl (one_of HT_.out Zi) (by decide) (fun K hK => ?_); refine value_ (w1 := ?_) (v := ?_) (by rfl) rfl ?_ ?_; rotate_left 2
           ·go_simp
            constructor
            ·rfl
            ·rfl
           refine hK.out _ _ ?_; clear hK K; refine normZ 46 ?_; refine last_ (i := 10) (N := some 47) (bT 12 11) rfl rfl (one_of HT_.out Zi) (by decide) (fun K hK => ?_); refine Kd.S_append_step (Kd.slice 2 (Kd.int .i64)) (w0 := w) w.heap.size (by rfl) (.tmp 37) (.tmp 46) 51 33 (.slice none 0 0) 24 rfl Try.underlying51 info33 rfl (by decide) (by omega) u7 x7_1 y1067 [.slice Ao45 y1067.length co45] (fun k_ => some k_ ≠ (.slice (some ad1065) t1062.length co41 : Value).ownBlock) (fun k_ => some k_ = (.slice Ao45 y1067.length co45 : Value).ownBlock) rfl rfl ?aP (fun k_ hk_ => ((Kd.R_mono (ok' := fun k_ => ((fun k_ => some k_ ≠ (.slice (some ad1065) t1062.length co41 : Value).ownBlock)) k_ ∧ some k_ ≠ (u7 : Value).ownBlock) (Kd.R_apart' (HO1069.out) (Kd.S_typed HO_7.out) (by decide)) (fun k_ hk => ⟨hk.1.2, hk.2⟩))).1 k_ hk_.symm) ?aF ?aO ?aB ?aS ?aL ?_
           (case aP => exact Kd.M_row (Kd.R_mono (Kd.R_tight rfl (Kd.R_mono (ok' := fun k_ => ((fun k_ => some k_ ≠ (.slice (some ad1065) t1062.length co41 : Value).ownBlock)) k_ ∧ some k_ ≠ (u7 : Value).ownBlock) (Kd.R_apart' (HO1069.out) (Kd.S_typed HO_7.out) (by decide)) (fun k_ hk => ⟨hk.1.2, hk.2⟩))) (fun _ h_ => h_)))
           (case aB => exact (have z0_ := GE1052; have z1_ := GE1054; have z2_ := GE1057; Zab))
           (case aF => exact (fun k_ hk => Kd.fresh' (Kd.R_lt (have z0_ := HO1064; Zai)) k_ hk))
           (case aO => exact (by (with_reducible repeat (first | apply Kd.S_alloc | apply Kd.S_drewN | apply Kd.S_drew)); exact Kd.S_mono HO_7.out (fun k_ hk => ⟨hk.1.2, fun e_ => hk.2 e_⟩)))
           (case aS => exact (below_size (have z0_ := GE1052; have z1_ := GE1054; have z2_ := GE1057; Zab)))
           (case aL => have := LMc33.out; omega)
           intro v1071 w44 ho hb hg hat; rw [← Ny1070.out] at ho; replace BK1052 := am_ (blk_grown (g := gb1052) (o := .cells #[.slice A0_0 l0_0.length c0_0, .slice (some ad1056) l0_1.length c0_1, .slice (some ad1053) l0_2.length c0_2] 28 (0, 0)) (have z0_ := BK1052; Zs) hg (Kd.S_ne HO_7.out BK1052.out (by decide))); replace BK1054 := am_ (blk_grown (g := gb1054) (o := .cells #[.int .i64 ((rd_T39 l0_2 a1).f0), .int .i64 ((rd_T39 l0_2 a1).f1), .string ((rd_T39 l0_2 a1).f2), .int .i64 ((rd_T39 l0_2 a1).f3)] 39 (0, 0)) (have z0_ := BK1054; Zs) hg (Kd.S_ne HO_7.out BK1054.out (by decide))); replace BK1057 := am_ (blk_grown (g := gb1057) (o := .cells #[.string ((rd_T62 l0_1 t1055).f0), .int .i64 ((rd_T62 l0_1 t1055).f1), .int .i64 ((rd_T62 l0_1 t1055).f2), .int .i64 ((rd_T62 l0_1 t1055).f3), .int .i64 ((rd_T62 l0_1 t1055).f4), .int .i64 ((rd_T62 l0_1 t1055).f5), .int .i64 ((rd_T62 l0_1 t1055).f6), .int .i64 ((rd_T62 l0_1 t1055).f7), .int .i64 ((rd_T62 l0_1 t1055).f8)] 62 (0, 0)) (have z0_ := BK1057; Zs) hg (Kd.S_ne HO_7.out BK1057.out (by decide))); replace HO1064 := am_ (Kd.R_over' (have z0_ := HO1064; Zai) (Kd.S_typed (have z0_ := HO_7; Zae)) (by decide) hg); replace HB := am_ (hb); replace HO1072 := am_ (ho); clear HO_7 HO1069; clear ho hb hg hat; refine hK.out _ _ ?_; clear hK K; refine normZ 47 ?_; refine pureZ HT_ 11 (some 7) (bT 12 12) ?_; refine done_ (done_of HT_.out Zi) ?_
           try go_wp2
           go_roundg k1
           case measure => have := HK1.out; omega
           case rel => exact ⟨(y1070), (wrap64 (x8_1 + 1)), Za, H', ⟨Zd⟩, ⟨by (with_reducible repeat (first | apply Kd.S_alloc | apply Kd.S_drewN | apply Kd.S_drew)); exact Kd.S_mono HO1072.out (fun _ hk => trivial)⟩, ⟨(have z0_ := BK1052; Zs)⟩, ⟨(have z0_ := BK1054; Zs)⟩, ⟨(have z0_ := BK1057; Zs)⟩, ⟨(have z0_ := GE1052; have z1_ := GE1054; have z2_ := GE1057; Zab)⟩⟩
          ·rw [if_neg c33] at H
           exact absurd H (by simp)
         ·rw [if_neg c32] at H
          exact absurd H (by simp)
        ·rw [if_neg c31] at H
         exact absurd H (by simp)
       ·rw [if_neg c28] at H
        have c28b0 := decide_eq_false c28; clear c28; obtain rfl := Option.some.inj H; have hnb46 := NB1057_1052.out; have hnc46 := NB1052_1057.out; have hnb47 := NB1057_1054.out; have hnc47 := NB1054_1057.out; refine ci9 BK1057 ?_; intros
        go_wp2
        go_ret
        exact ⟨_, Zg, (have z0_ := HO_7; Zae), (have z0_ := GE1052; have z1_ := GE1054; have z2_ := GE1057; Zab)⟩
    ·rw [if_neg c7] at H
     exact absurd H (by simp)
   ·rw [if_neg c6] at H
    exact absurd H (by simp)
  ·rw [if_neg c4] at H
   exact absurd H (by simp)
 ·rw [if_neg c3] at H
  exact absurd H (by simp)
def spec_l09All.l0 : Nat → List (List Int) → Int → List (S104) → List (S62) → List (S39) → Option ((List (List Int)))
 | 0, _, _, _, _, _ => none
 | k + 1, x3, x4, x1229000, x1229001, x1229002 => if x4 < (x1229002.length : Int) then ((spec_l09Cue.f k x1229000 x1229001 x1229002 x4).bind fun t1232 => (if x3.length + t1232.length < 5864062014805 then (spec_l09All.l0 k (x3 ++ t1232) (wrap64 (x4 + 1)) x1229000 x1229001 x1229002) else (none))) else (some x3)
def spec_l09All.f (k : Nat) (l0_0 : List (S104)) (l0_1 : List (S62)) (l0_2 : List (S39)) : Option ((List (List Int))) := spec_l09All.l0 k (([] : List (List Int))) 0 l0_0 l0_1 l0_2
set_option maxHeartbeats 8000000 in
set_option maxRecDepth 100000 in
theorem spec_l09All.calls (k : Nat) (A0_0 : Option Addr) (c0_0 : Nat) (l0_0 : List (S104)) (A0_1 : Option Addr) (c0_1 : Nat) (l0_1 : List (S62)) (A0_2 : Option Addr) (c0_2 : Nat) (l0_2 : List (S39)) (r : List (List Int)) (w : World) (hr0_0 : Kd.C k104 w A0_0 l0_0.length l0_0) (hc0_0 : l0_0.length ≤ c0_0) (hr0_1 : Kd.C k62 w A0_1 l0_1.length l0_1) (hc0_1 : l0_1.length ≤ c0_1) (hr0_2 : Kd.C k39 w A0_2 l0_2.length l0_2) (hc0_2 : l0_2.length ≤ c0_2) (h : spec_l09All.f k l0_0 l0_1 l0_2 = some r) :
  Calls Try.prog 78 #[.agg #[.slice A0_0 l0_0.length c0_0, .slice A0_1 l0_1.length c0_1, .slice A0_2 l0_2.length c0_2]] w fun e w' => ∃ v0_ : Value, e = .returned (v0_) ∧ Kd.N (Kd.slice 2 (Kd.int .i64)) 33 w' w.heap.size (fun k_ => (w.heap.size ≤ k_)) v0_ r ∧ Below w.heap.size w w' := by
 have hu28 := Try.underlying28; have HR0_0 := am_ hr0_0; have HC0_0 := am_ hc0_0; clear hr0_0 hc0_0; have HR0_1 := am_ hr0_1; have HC0_1 := am_ hc0_1; clear hr0_1 hc0_1; have HR0_2 := am_ hr0_2; have HC0_2 := am_ hc0_2; clear hr0_2 hc0_2; have HB := am_ (Below.refl w.heap.size w); have H : (spec_l09All.l0 k (([] : List (List Int))) 0 l0_0 l0_1 l0_2) = some r := h; clear h; obtain ⟨y1229, hy1229⟩ : ∃ y_ : List (List Int), y_ = (([] : List (List Int))) := ⟨_, rfl⟩
 replace H : (spec_l09All.l0 k y1229 0 l0_0 l0_1 l0_2) = some r := by (try rw [hy1229]); first | with_reducible exact H | with_reducible exact (Option.bind_some _ _).symm.trans H | exact H
 have Ny1229 := am_ hy1229; clear hy1229; have H' := am_ H; clear H
 go_enter Try.func78, Try.ntmps78
 go_wp2_with (first | ((with_reducible refine gate_dst (N := 1) rfl ?_); refine boxZ 1 #[.slice A0_0 l0_0.length c0_0, .slice A0_1 l0_1.length c0_1, .slice A0_2 l0_2.length c0_2] 28 ?_; intro gb1228 hg w2 hbox hb; replace BK1228 := am_ (hbox); replace GW1228 := am_ ((Zh : w.heap.size ≤ gb1228)); replace GE1228 := GW1228; replace HB := (bsZ Zf hb); clear hb hbox hg) | ((with_reducible refine gate_dst (N := 5) rfl ?_); refine Kd.N_lit (Kd.slice 2 (Kd.int .i64)) _ 33 ?hg (N' := 5) ?hd (xs := ([] : List (List Int))) (inner := []) (ok := (fun k_ => (w.heap.size ≤ k_) ∧ k_ ≠ gb1228)) (okp := (fun k_ => (w.heap.size ≤ k_) ∧ k_ ≠ gb1228)) ?hr ?hp (fun _ hk => hk) ((show ∀ k_, w2.heap.size ≤ k_ → (fun k_ => (w.heap.size ≤ k_) ∧ k_ ≠ gb1228) k_ from fun k_ hk => ⟨(Nat.le_trans (below_size (have z0_ := GE1228; Zk)) hk), Kd.freshB (g := gb1228) (o := .cells #[.slice A0_0 l0_0.length c0_0, .slice A0_1 l0_1.length c0_1, .slice A0_2 l0_2.length c0_2] 28 (0, 0)) (have z0_ := BK1228; Zs) k_ hk⟩) _ (Nat.le_refl _)) (Below.refl _ _) (Nat.le_refl _) (by simp) ?_; (case hd => rfl); (case hg => rfl); (case hr => first | (go_simp; done) | (go_simp; rfl)); (case hp => exact (Reps.none _ _)); intro v1230 w3 ho4 hb hg_ hnew_; clear hg_ hnew_; (first | rw [← Ny1229.out] at ho4 | (simp only [Int.reduceToNat] at ho4; rw [← Ny1229.out] at ho4)); replace HO1231 := am_ (Kd.N_lower ho4 (below_size (have z0_ := GE1228; Zk))); replace BK1228 := (have z0_ := BK1228; bkZ hb); replace HB := (bsZ (have z0_ := GE1228; Zk) hb); clear hb ho4))
 go_loopg [3, 4] k (fun kq v3 v4 w' => ∃ (x3_1 : List (List Int)) (x4_1 : Int), v4 = .int .i64 x4_1 ∧ Aside0 (spec_l09All.l0 kq x3_1 x4_1 l0_0 l0_1 l0_2 = some r) ∧ Aside0 (kq ≤ k) ∧ Aside0 (Kd.N (Kd.slice 2 (Kd.int .i64)) 33 w' w.heap.size (fun k_ => (w.heap.size ≤ k_) ∧ k_ ≠ gb1228) v3 x3_1) ∧ Aside0 (w'.heap[gb1228]? = some (.cells #[(.slice A0_0 l0_0.length c0_0), (.slice A0_1 l0_1.length c0_1), (.slice A0_2 l0_2.length c0_2)] 28 (0, 0))) ∧ Aside0 (Below w.heap.size w w'))
 case atStart => exact ⟨(y1229), (0), Za, H', ⟨Nat.le_refl _⟩, ⟨(have z0_ := HO1231; Zau)⟩, ⟨(have z0_ := BK1228; Zs)⟩, ⟨(have z0_ := GE1228; Zk)⟩⟩
 case round =>
  clear H'
  try clear p2
  obtain ⟨x3_1, x4_1, rfl, HA, HK1, HO_3, BK1228, HB⟩ := hrel
  cases gk with
  | zero => exact absurd HA.out (by simp [spec_l09All.l0])
  | succ k1 =>
   have H := HA.out; clear HA; simp only [spec_l09All.l0] at H
   by_cases c5 : x4_1 < (l0_2.length : Int)
   ·rw [if_pos c5] at H
    have c5b0 := decide_eq_true c5; clear c5; replace H := Option.bind_eq_some_iff.mp H; obtain ⟨t1232, A60, H⟩ := H; have A6 := am_ A60; clear A60
    by_cases c7 : x3_1.length + t1232.length < 5864062014805
    ·rw [if_pos c7] at H
     have LMc7 := am_ c7; clear c7; obtain ⟨y1235, hy1235⟩ : ∃ y_ : List (List Int), y_ = (x3_1 ++ t1232) := ⟨_, rfl⟩
     (first | (rw [← hy1235] at H; with_reducible replace H := bindZ H) | rw [← hy1235] at H)
     have Ny1235 := am_ hy1235; clear hy1235; have H' := am_ H; clear H; refine ci3 BK1228 ?_; intros
     go_wp2_with (first | ((with_reducible refine gate_callee (f := 76) rfl ?_); refine goesL_ (some 16) rfl rfl Try.func76 Zi rfl #[.agg #[.slice A0_0 l0_0.length c0_0, .slice A0_1 l0_1.length c0_1, .slice A0_2 l0_2.length c0_2], .int .i64 x4_1] rfl Zj ?_; (with_reducible refine (spec_l09Cue.calls k1 _ _ l0_0 _ _ l0_1 _ _ l0_2 x4_1 t1232 _ ?side1 ?side2 ?side3 ?side4 ?side5 ?side6 A6.out).mono ?_); (case side1 => exact (have z0_ := HR0_0; Zq)); (case side2 => exact HC0_0.out); (case side3 => exact (have z0_ := HR0_1; Zq)); (case side4 => exact HC0_1.out); (case side5 => exact (have z0_ := HR0_2; Zq)); (case side6 => exact HC0_2.out); rintro e w9 ⟨v1233, rfl, ho0, hb⟩; refine ⟨_, rfl, ?_⟩; replace HO1234 := am_ (Kd.N_lower (Kd.N_mono (ok' := fun k_ => (w.heap.size ≤ k_) ∧ some k_ ≠ (u3 : Value).ownBlock ∧ k_ ≠ gb1228) (Kd.S_N (Kd.S_bound ho0)) (fun k_ hk_ => ⟨(Nat.le_trans (below_size (have z0_ := GE1228; Zk)) hk_.2.1), (Kd.fresh' (Kd.N_lt (have z0_ := HO_3; Zau)) k_ hk_.2.1), (Kd.freshB (g := gb1228) (o := .cells #[.slice A0_0 l0_0.length c0_0, .slice A0_1 l0_1.length c0_1, .slice A0_2 l0_2.length c0_2] 28 (0, 0)) (have z0_ := BK1228; Zs) k_ hk_.2.1)⟩)) (below_size (have z0_ := GE1228; Zk))); replace HO_3 := am_ (Kd.N_elder' (have z0_ := HO_3; Zau) (Kd.S_base ho0) hb); replace BK1228 := (have z0_ := BK1228; bkZ hb); replace HB := (bsZ (have z0_ := GE1228; Zk) hb); (try clear hb); (try clear hb2); (try clear hk); (try clear hi); (try clear ho0); obtain ⟨Ao11, co11, eo11⟩ := Kd.N_slice HO1234.out; subst eo11) | ((with_reducible refine gate_builtin (b := .append) (xs := #[.tmp 13, .tmp 16]) rfl ?_); at_builtin; refine Kd.N_append_rows (Kd.slice 2 (Kd.int .i64)) (w0 := w) w.heap.size rfl (.tmp 13) (.tmp 16) 51 33 (.slice none 0 0) 24 rfl Try.underlying51 info33 rfl (by decide) (by omega) u3 x3_1 t1232 _ _ _ (fun k_ => (w.heap.size ≤ k_) ∧ k_ ≠ gb1228) (fun k_ => ((fun k_ => (w.heap.size ≤ k_) ∧ k_ ≠ gb1228)) k_ ∧ some k_ ≠ (u3 : Value).ownBlock) rfl rfl ?aO ?aR (fun _ hk => hk) ?aF ?aB ?aS ?aL ?_; (case aR => exact (by skip; exact Kd.N_F (Kd.N_mono (ok' := (fun k_ => ((fun k_ => (w.heap.size ≤ k_) ∧ k_ ≠ gb1228)) k_ ∧ some k_ ≠ (u3 : Value).ownBlock)) (HO1234.out) (fun k_ hk => ⟨⟨hk.1, hk.2.2⟩, hk.2.1⟩)))); (case aB => exact (have z0_ := GE1228; Zk)); (case aF => exact (fun k_ hk => ⟨(Nat.le_trans (below_size (have z0_ := GE1228; Zk)) hk), Kd.freshB (g := gb1228) (o := .cells #[.slice A0_0 l0_0.length c0_0, .slice A0_1 l0_1.length c0_1, .slice A0_2 l0_2.length c0_2] 28 (0, 0)) (have z0_ := BK1228; Zs) k_ hk⟩)); (case aO => exact (by (with_reducible repeat (first | apply Kd.N_alloc | apply Kd.N_drewN | apply Kd.N_drew)); exact Kd.N_mono HO_3.out (fun _ hk => ⟨hk.1.1, hk.1.2⟩))); (case aS => exact (below_size (have z0_ := GE1228; Zk))); (case aL => have := LMc7.out; omega); intro v1236 w10 ho hb hg hat; rw [← Ny1235.out] at ho; replace BK1228 := am_ (blk_grown (g := gb1228) (o := .cells #[.slice A0_0 l0_0.length c0_0, .slice A0_1 l0_1.length c0_1, .slice A0_2 l0_2.length c0_2] 28 (0, 0)) (have z0_ := BK1228; Zs) hg (Kd.N_ne HO_3.out BK1228.out (by decide))); replace HO1234 := am_ (Kd.N_afterv (ok := (fun k_ => (w.heap.size ≤ k_) ∧ k_ ≠ gb1228)) (by (with_reducible repeat (first | apply Kd.N_alloc | apply Kd.N_drewN | apply Kd.N_drew)); exact Kd.N_mono HO1234.out (fun _ hk => ⟨⟨hk.1, hk.2.2⟩, hk.2.1⟩)) hg hat); replace HB := am_ (hb); replace HO1237 := am_ (ho); clear HO_3; clear ho hb hg hat))
     go_roundg k1
     case measure => have := HK1.out; omega
     case rel => exact ⟨(y1235), (wrap64 (x4_1 + 1)), Za, H', ⟨Zd⟩, ⟨(have z0_ := HO1237; Zau)⟩, ⟨(have z0_ := BK1228; Zs)⟩, ⟨(have z0_ := GE1228; Zk)⟩⟩
    ·rw [if_neg c7] at H
     exact absurd H (by simp)
   ·rw [if_neg c5] at H
    have c5b0 := decide_eq_false c5; clear c5; obtain rfl := Option.some.inj H; refine ci3 BK1228 ?_; intros
    go_wp2
    go_ret
    exact ⟨_, Zg, by (with_reducible repeat (first | apply Kd.N_alloc | apply Kd.N_drewN | apply Kd.N_drew)); exact Kd.N_mono HO_3.out (fun _ hk => hk.1), (have z0_ := GE1228; Zk)⟩
def spec_WindowsOf.f (k : Nat) (l0_0 : List (S104)) (l0_1 : List (S62)) (l0_2 : List (S39)) : Option ((List (List Int)) × Int) := (spec_IsShow.f k l0_0 l0_1 l0_2).bind fun t1263 => (if t1263 = true then ((spec_l09All.f k l0_0 l0_1 l0_2).bind fun t1264 => (some (t1264, 0))) else (some (([] : List (List Int)), 1)))
set_option maxHeartbeats 8000000 in
set_option maxRecDepth 100000 in
theorem spec_WindowsOf.calls (k : Nat) (A0_0 : Option Addr) (c0_0 : Nat) (l0_0 : List (S104)) (A0_1 : Option Addr) (c0_1 : Nat) (l0_1 : List (S62)) (A0_2 : Option Addr) (c0_2 : Nat) (l0_2 : List (S39)) (r1 : List (List Int)) (r2 : Int) (w : World) (hr0_0 : Kd.C k104 w A0_0 l0_0.length l0_0) (hc0_0 : l0_0.length ≤ c0_0) (hr0_1 : Kd.C k62 w A0_1 l0_1.length l0_1) (hc0_1 : l0_1.length ≤ c0_1) (hr0_2 : Kd.C k39 w A0_2 l0_2.length l0_2) (hc0_2 : l0_2.length ≤ c0_2) (h : spec_WindowsOf.f k l0_0 l0_1 l0_2 = some (r1, r2)) :
  Calls Try.prog 40 #[.agg #[.slice A0_0 l0_0.length c0_0, .slice A0_1 l0_1.length c0_1, .slice A0_2 l0_2.length c0_2]] w fun e w' => ∃ v0_ : Value, e = .returned (.tuple #[v0_, .int .i64 r2]) ∧ Kd.N (Kd.slice 2 (Kd.int .i64)) 33 w' w.heap.size (fun k_ => (w.heap.size ≤ k_)) v0_ r1 ∧ Below w.heap.size w w' := by
 have hu28 := Try.underlying28; have HR0_0 := am_ hr0_0; have HC0_0 := am_ hc0_0; clear hr0_0 hc0_0; have HR0_1 := am_ hr0_1; have HC0_1 := am_ hc0_1; clear hr0_1 hc0_1; have HR0_2 := am_ hr0_2; have HC0_2 := am_ hc0_2; clear hr0_2 hc0_2; have HB := am_ (Below.refl w.heap.size w); have H : ((spec_IsShow.f k l0_0 l0_1 l0_2).bind fun t1263 => (if t1263 = true then ((spec_l09All.f k l0_0 l0_1 l0_2).bind fun t1264 => (some (t1264, 0))) else (some (([] : List (List Int)), 1)))) = some (r1, r2) := h; clear h; replace H := Option.bind_eq_some_iff.mp H; obtain ⟨t1263, A20, H⟩ := H; have A2 := am_ A20; clear A20
 by_cases c3 : t1263 = true
 ·subst c3
  have H1 : ((spec_l09All.f k l0_0 l0_1 l0_2).bind fun t1264 => (some (t1264, 0))) = some (r1, r2) := by rw [if_pos rfl] at H; exact H
  clear H; have H := H1; clear H1; replace H := Option.bind_eq_some_iff.mp H; obtain ⟨t1264, A40, H⟩ := H; have A4 := am_ A40; clear A40; simp only [Option.some.injEq, Prod.mk.injEq] at H; obtain ⟨rfl, rfl⟩ := H
  go_enter Try.func40, Try.ntmps40
  go_wp2_with (first | ((with_reducible refine gate_dst (N := 1) rfl ?_); refine boxZ 1 #[.slice A0_0 l0_0.length c0_0, .slice A0_1 l0_1.length c0_1, .slice A0_2 l0_2.length c0_2] 28 ?_; intro gb1262 hg w5 hbox hb; replace BK1262 := am_ (hbox); replace GW1262 := am_ ((Zh : w.heap.size ≤ gb1262)); replace GE1262 := GW1262; replace HB := (bsZ Zf hb); clear hb hbox hg; refine ci3 BK1262 ?_; intros) | ((with_reducible refine gate_callee (f := 56) rfl ?_); refine goesL_ (some 5) rfl rfl Try.func56 Zi rfl #[.agg #[.slice A0_0 l0_0.length c0_0, .slice A0_1 l0_1.length c0_1, .slice A0_2 l0_2.length c0_2]] rfl Zj ?_; (with_reducible refine (spec_IsShow.calls k _ _ l0_0 _ _ l0_1 _ _ l0_2 true _ ?side1 ?side2 ?side3 ?side4 ?side5 ?side6 A2.out).mono ?_); (case side1 => exact (have z0_ := HR0_0; Zq)); (case side2 => exact HC0_0.out); (case side3 => exact (have z0_ := HR0_1; Zq)); (case side4 => exact HC0_1.out); (case side5 => exact (have z0_ := HR0_2; Zq)); (case side6 => exact HC0_2.out); rintro e w7 ⟨rfl, hb⟩; refine ⟨_, rfl, ?_⟩; replace BK1262 := (have z0_ := BK1262; bkZ hb); replace HB := (bsZ (have z0_ := GE1262; Zk) hb); (try clear hb); (try clear hb2); (try clear hk); (try clear hi); refine ci3 BK1262 ?_; intros) | ((with_reducible refine gate_callee (f := 78) rfl ?_); refine goesL_ (some 8) rfl rfl Try.func78 Zi rfl #[.agg #[.slice A0_0 l0_0.length c0_0, .slice A0_1 l0_1.length c0_1, .slice A0_2 l0_2.length c0_2]] rfl Zj ?_; (with_reducible refine (spec_l09All.calls k _ _ l0_0 _ _ l0_1 _ _ l0_2 t1264 _ ?side1 ?side2 ?side3 ?side4 ?side5 ?side6 A4.out).mono ?_); (case side1 => exact (have z0_ := HR0_0; Zq)); (case side2 => exact HC0_0.out); (case side3 => exact (have z0_ := HR0_1; Zq)); (case side4 => exact HC0_1.out); (case side5 => exact (have z0_ := HR0_2; Zq)); (case side6 => exact HC0_2.out); rintro e w9 ⟨v1265, rfl, ho0, hb⟩; refine ⟨_, rfl, ?_⟩; replace HO1266 := am_ (Kd.N_lower (Kd.N_mono (ok' := fun k_ => (w.heap.size ≤ k_) ∧ k_ ≠ gb1262) ho0 (fun k_ hk_ => ⟨(Nat.le_trans (below_size (have z0_ := GE1262; Zk)) hk_), (Kd.freshB (g := gb1262) (o := .cells #[.slice A0_0 l0_0.length c0_0, .slice A0_1 l0_1.length c0_1, .slice A0_2 l0_2.length c0_2] 28 (0, 0)) (have z0_ := BK1262; Zs) k_ hk_)⟩)) (below_size (have z0_ := GE1262; Zk))); replace BK1262 := (have z0_ := BK1262; bkZ hb); replace HB := (bsZ (have z0_ := GE1262; Zk) hb); (try clear hb); (try clear hb2); (try clear hk); (try clear hi); (try clear ho0)))
  go_ret2
  exact ⟨_, Zg, by (with_reducible repeat (first | apply Kd.N_alloc | apply Kd.N_drewN | apply Kd.N_drew)); exact Kd.N_mono HO1266.out (fun _ hk => hk.1), (have z0_ := GE1262; Zk)⟩
 ·replace c3 := Bool.eq_false_iff.mpr c3
  subst c3
  have H1 : (some (([] : List (List Int)), 1)) = some (r1, r2) := by rw [if_neg (show ¬ (false = true) by decide)] at H; exact H
  clear H; have H := H1; clear H1; simp only [Option.some.injEq, Prod.mk.injEq] at H; obtain ⟨rfl, rfl⟩ := H
  go_enter Try.func40, Try.ntmps40
  go_wp2_with (first | ((with_reducible refine gate_dst (N := 1) rfl ?_); refine boxZ 1 #[.slice A0_0 l0_0.length c0_0, .slice A0_1 l0_1.length c0_1, .slice A0_2 l0_2.length c0_2] 28 ?_; intro gb1262 hg w10 hbox hb; replace BK1262 := am_ (hbox); replace GW1262 := am_ ((Zh : w.heap.size ≤ gb1262)); replace GE1262 := GW1262; replace HB := (bsZ Zf hb); clear hb hbox hg; refine ci3 BK1262 ?_; intros) | ((with_reducible refine gate_callee (f := 56) rfl ?_); refine goesL_ (some 5) rfl rfl Try.func56 Zi rfl #[.agg #[.slice A0_0 l0_0.length c0_0, .slice A0_1 l0_1.length c0_1, .slice A0_2 l0_2.length c0_2]] rfl Zj ?_; (with_reducible refine (spec_IsShow.calls k _ _ l0_0 _ _ l0_1 _ _ l0_2 false _ ?side1 ?side2 ?side3 ?side4 ?side5 ?side6 A2.out).mono ?_); (case side1 => exact (have z0_ := HR0_0; Zq)); (case side2 => exact HC0_0.out); (case side3 => exact (have z0_ := HR0_1; Zq)); (case side4 => exact HC0_1.out); (case side5 => exact (have z0_ := HR0_2; Zq)); (case side6 => exact HC0_2.out); rintro e w12 ⟨rfl, hb⟩; refine ⟨_, rfl, ?_⟩; replace BK1262 := (have z0_ := BK1262; bkZ hb); replace HB := (bsZ (have z0_ := GE1262; Zk) hb); (try clear hb); (try clear hb2); (try clear hk); (try clear hi)))
  go_ret2
  exact ⟨_, Zg, Zad, (have z0_ := GE1262; Zk)⟩
def impl_BeatTime.f (k : Nat) (l0 : List (S104)) (a1 : Int) (a2 : Int) : Option (Int × Int) := (impl_IsScore.f k l0).bind fun t1407 => (if t1407 = true then ((impl_isBeat.f l0 a1 a2).bind fun t1408 => (if t1408 = true then ((impl_beatTime.f k l0 a1 a2).bind fun t1409 => (some (t1409, 0))) else (some (0, 2)))) else (some (0, 1)))
set_option maxHeartbeats 8000000 in
set_option maxRecDepth 100000 in
theorem impl_BeatTime.calls (k : Nat) (A0 : Option Addr) (c0 : Nat) (l0 : List (S104)) (a1 : Int) (a2 : Int) (r1 : Int) (r2 : Int) (w : World) (hr0 : Kd.C k104 w A0 l0.length l0) (hc0 : l0.length ≤ c0) (h : impl_BeatTime.f k l0 a1 a2 = some (r1, r2)) :
  Calls Try.prog 48 #[.slice A0 l0.length c0, .int .i64 a1, .int .i64 a2] w fun e w' => e = .returned (.tuple #[.int .i64 r1, .int .i64 r2]) ∧ Below w.heap.size w w' := by
 have HR0 := am_ hr0; have HC0 := am_ hc0; clear hr0 hc0; have HB := am_ (Below.refl w.heap.size w); have H : ((impl_IsScore.f k l0).bind fun t1407 => (if t1407 = true then ((impl_isBeat.f l0 a1 a2).bind fun t1408 => (if t1408 = true then ((impl_beatTime.f k l0 a1 a2).bind fun t1409 => (some (t1409, 0))) else (some (0, 2)))) else (some (0, 1)))) = some (r1, r2) := h; clear h; replace H := Option.bind_eq_some_iff.mp H; obtain ⟨t1407, A40, H⟩ := H; have A4 := am_ A40; clear A40
 by_cases c5 : t1407 = true
 ·subst c5
  have H1 : ((impl_isBeat.f l0 a1 a2).bind fun t1408 => (if t1408 = true then ((impl_beatTime.f k l0 a1 a2).bind fun t1409 => (some (t1409, 0))) else (some (0, 2)))) = some (r1, r2) := by rw [if_pos rfl] at H; exact H
  clear H; have H := H1; clear H1; replace H := Option.bind_eq_some_iff.mp H; obtain ⟨t1408, A60, H⟩ := H; have A6 := am_ A60; clear A60
  by_cases c7 : t1408 = true
  ·subst c7
   have H1 : ((impl_beatTime.f k l0 a1 a2).bind fun t1409 => (some (t1409, 0))) = some (r1, r2) := by rw [if_pos rfl] at H; exact H
   clear H; have H := H1; clear H1; replace H := Option.bind_eq_some_iff.mp H; obtain ⟨t1409, A80, H⟩ := H; have A8 := am_ A80; clear A80; simp only [Option.some.injEq, Prod.mk.injEq] at H; obtain ⟨rfl, rfl⟩ := H
   go_enter Try.func48, Try.ntmps48
   go_wp2_with (first | ((with_reducible refine gate_callee (f := 68) rfl ?_); refine goesL_ (some 9) rfl rfl Try.func68 Zi rfl #[.slice A0 l0.length c0] rfl Zj ?_; (with_reducible refine (impl_IsScore.calls k _ _ l0 true _ ?side1 ?side2 A4.out).mono ?_); (case side1 => repeat (first | exact HR0.out | (with_reducible refine Kd.C_alloc ?_ _) | (with_reducible refine Kd.C_drewN ?_ _) | (with_reducible refine Kd.C_drew ?_))); (case side2 => exact HC0.out); rintro e w9 ⟨rfl, hb⟩; refine ⟨_, rfl, ?_⟩; replace HB := (bsZ Zf hb); (try clear hb); (try clear hb2); (try clear hk); (try clear hi)) | ((with_reducible refine gate_callee (f := 82) rfl ?_); refine goesL_ (some 14) rfl rfl Try.func82 Zi rfl #[.slice A0 l0.length c0, .int .i64 a1, .int .i64 a2] rfl Zj ?_; (with_reducible refine (impl_isBeat.calls _ _ l0 a1 a2 true _ ?side1 ?side2 A6.out).mono ?_); (case side1 => exact (have z0_ := HR0; Zq)); (case side2 => exact HC0.out); rintro e w' ⟨rfl, ⟨nd, rfl⟩⟩; refine ⟨_, rfl, ?_⟩) | ((with_reducible refine gate_callee (f := 83) rfl ?_); refine goesL_ (some 19) rfl rfl Try.func83 Zi rfl #[.slice A0 l0.length c0, .int .i64 a1, .int .i64 a2] rfl Zj ?_; (with_reducible refine (impl_beatTime.calls k _ _ l0 a1 a2 t1409 _ ?side1 ?side2 A8.out).mono ?_); (case side1 => repeat (first | exact (Kd.C_below HR0.out Zf) | (with_reducible refine Kd.C_alloc ?_ _) | (with_reducible refine Kd.C_drewN ?_ _) | (with_reducible refine Kd.C_drew ?_))); (case side2 => exact HC0.out); rintro e w10 ⟨rfl, hb⟩; refine ⟨_, rfl, ?_⟩; replace HB := (bsZ Zf hb); (try clear hb); (try clear hb2); (try clear hk); (try clear hi)))
   go_ret2
   exact ⟨Zg, Zf⟩
  ·replace c7 := Bool.eq_false_iff.mpr c7
   subst c7
   have H1 : (some (0, 2)) = some (r1, r2) := by rw [if_neg (show ¬ (false = true) by decide)] at H; exact H
   clear H; have H := H1; clear H1; simp only [Option.some.injEq, Prod.mk.injEq] at H; obtain ⟨rfl, rfl⟩ := H
   go_enter Try.func48, Try.ntmps48
   go_wp2_with (first | ((with_reducible refine gate_callee (f := 68) rfl ?_); refine goesL_ (some 9) rfl rfl Try.func68 Zi rfl #[.slice A0 l0.length c0] rfl Zj ?_; (with_reducible refine (impl_IsScore.calls k _ _ l0 true _ ?side1 ?side2 A4.out).mono ?_); (case side1 => repeat (first | exact HR0.out | (with_reducible refine Kd.C_alloc ?_ _) | (with_reducible refine Kd.C_drewN ?_ _) | (with_reducible refine Kd.C_drew ?_))); (case side2 => exact HC0.out); rintro e w11 ⟨rfl, hb⟩; refine ⟨_, rfl, ?_⟩; replace HB := (bsZ Zf hb); (try clear hb); (try clear hb2); (try clear hk); (try clear hi)) | ((with_reducible refine gate_callee (f := 82) rfl ?_); refine goesL_ (some 14) rfl rfl Try.func82 Zi rfl #[.slice A0 l0.length c0, .int .i64 a1, .int .i64 a2] rfl Zj ?_; (with_reducible refine (impl_isBeat.calls _ _ l0 a1 a2 false _ ?side1 ?side2 A6.out).mono ?_); (case side1 => exact (have z0_ := HR0; Zq)); (case side2 => exact HC0.out); rintro e w' ⟨rfl, ⟨nd, rfl⟩⟩; refine ⟨_, rfl, ?_⟩))
   go_ret2
   exact ⟨Zg, Zf⟩
 ·replace c5 := Bool.eq_false_iff.mpr c5
  subst c5
  have H1 : (some (0, 1)) = some (r1, r2) := by rw [if_neg (show ¬ (false = true) by decide)] at H; exact H
  clear H; have H := H1; clear H1; simp only [Option.some.injEq, Prod.mk.injEq] at H; obtain ⟨rfl, rfl⟩ := H
  go_enter Try.func48, Try.ntmps48
  go_wp2_with (first | ((with_reducible refine gate_callee (f := 68) rfl ?_); refine goesL_ (some 9) rfl rfl Try.func68 Zi rfl #[.slice A0 l0.length c0] rfl Zj ?_; (with_reducible refine (impl_IsScore.calls k _ _ l0 false _ ?side1 ?side2 A4.out).mono ?_); (case side1 => repeat (first | exact HR0.out | (with_reducible refine Kd.C_alloc ?_ _) | (with_reducible refine Kd.C_drewN ?_ _) | (with_reducible refine Kd.C_drew ?_))); (case side2 => exact HC0.out); rintro e w12 ⟨rfl, hb⟩; refine ⟨_, rfl, ?_⟩; replace HB := (bsZ Zf hb); (try clear hb); (try clear hb2); (try clear hk); (try clear hi)))
  go_ret2
  exact ⟨Zg, Zf⟩
end Go.Proofs.Ythhijbdekboahaa.F
