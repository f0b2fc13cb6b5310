import Derived.Test.YthhijbdekboahaaJFnBursts4
import Derived.Below
import Derived.Deep.Draws
import Derived.Deep.AppendLies
import Derived.Maps.AppendAt
import Derived.OwnWalk
import Derived.Laws.BytesArg
import Derived.Laws.MakeOwn
import Derived.Laws.OwnMore
import Derived.Tactics
import Derived.Lib.ConvBytes
import Derived.Laws.Slices
import Derived.WalkKit
import Derived.KernelRfl
import Derived.RowKit3
import Derived.Deep.LoopGhost
import Derived.Deep.QuietTactic
import Derived.BigQuiet
import Derived.WideLaws
import Derived.Deep.DeepCutAuto
import Derived.Deep.CutBlock
import Derived.Deep.RegionHeld3
import Derived.Lib.AppendStr
import Derived.ArgAppend
import Derived.Laws.IdiomCopy
import Derived.RowKit
import Derived.OrdersHeld
import Derived.Laws.BitsLemmas
import Derived.Laws.StructEq
import Derived.Test.YthhijbdekboahaaProg
import Derived.Laws.Cover1
namespace Go.Proofs.Ythhijbdekboahaa.F
open Go.RowKit Go.Proofs.YthhijbdekboahaaW.PrintWords Go.Proofs.YthhijbdekboahaaW.PrintLast Go.Proofs.YthhijbdekboahaaW.PrintMore
attribute [local go_sem] max2_int min2_int max_two min_two max_three min_three max_four min_four
set_option linter.unusedVariables false
set_option linter.unusedSimpArgs false
mutual
def impl_windowsOf.l0 : Nat → List (List Int) → List (S39) → Int → Int → List (S104) → List (S62) → List (S39) → Option ((List (List Int)))
 | 0, _, _, _, _, _, _, _ => none
 | k + 1, x3, x9, x10, x11, x1203000, x1203001, x1203002 => if x11 < x10 then (if 0 ≤ x11 then (if x11 < (x9.length : Int) then ((impl_windowsOfCue.f k x1203000 x1203001 x1203002 ((rd_T39 x9 x11).f0) ((rd_T39 x9 x11).f1) ((rd_T39 x9 x11).f2) ((rd_T39 x9 x11).f3)).bind fun t1205 => (impl_windowsOf.l1 k x3 x11 x9 x10 x11 t1205 (t1205.length : Int) 0 x1203000 x1203001 x1203002)) else (none)) else (none)) else (some x3)
def impl_windowsOf.l1 : Nat → List (List Int) → Int → List (S39) → Int → Int → List (List Int) → Int → Int → List (S104) → List (S62) → List (S39) → Option ((List (List Int)))
 | 0, _, _, _, _, _, _, _, _, _, _, _ => none
 | k + 1, x3, x4, x9, x10, x11, x18, x19, x20, x1203000, x1203001, x1203002 => if x20 < x19 then (if 0 ≤ x20 then (if x20 < (x18.length : Int) then (if 0 < ((rd_L6 x18 x20).length : Int) then (if 1 < ((rd_L6 x18 x20).length : Int) then (if x3.length < 5864062014805 then (impl_windowsOf.l1 k (x3 ++ [(([rd (rd_L6 x18 x20) 0, rd (rd_L6 x18 x20) 1, x4] : List Int))]) x4 x9 x10 x11 x18 x19 (wrap64 (x20 + 1)) x1203000 x1203001 x1203002) else (none)) else (none)) else (none)) else (none)) else (none)) else (impl_windowsOf.l0 k x3 x9 x10 (wrap64 (x11 + 1)) x1203000 x1203001 x1203002)
end
def impl_windowsOf.f (k : Nat) (l0_0 : List (S104)) (l0_1 : List (S62)) (l0_2 : List (S39)) : Option ((List (List Int))) := impl_windowsOf.l0 k ([] : List (List Int)) l0_2 (l0_2.length : Int) 0 l0_0 l0_1 l0_2
def impl_windowsOf.T8 : Bool × List (List Nat × List Nat) := (true, [([], []), ([], []), ([1], [1]), ([2], [2]), ([], []), ([4], [4]), ([5], [5]), ([], []), ([3, 6, 7], [3, 6, 7]), ([8], [8]), ([0, 9], [0, 9]), ([10, 10, 0, 1, 2, 3, 4, 5, 6, 7, 8, 9, 10], [0, 10])])
def impl_windowsOf.B8 : List Nat := [0, 0, 2, 6, 0, 16, 48, 0, 254, 510, 1023, 2047]
theorem impl_windowsOf.tab8 : rtab .any (opsOf Try.f77 8) = impl_windowsOf.T8 := by kernel_rfl
theorem impl_windowsOf.bits8 : waitsOk impl_windowsOf.T8.2 impl_windowsOf.B8 = true := by kernel_rfl
set_option maxHeartbeats 8000000 in
set_option maxRecDepth 100000 in
theorem impl_windowsOf.calls (k : Nat) (A0_0 : Option Addr) (c0_0 : Nat) (l0_0 : List (S104)) (A0_1 : Option Addr) (c0_1 : Nat) (l0_1 : List (S62)) (A0_2 : Option Addr) (c0_2 : Nat) (l0_2 : List (S39)) (r : List (List Int)) (w : World) (hr0_0 : Kd.C k104 w A0_0 l0_0.length l0_0) (hc0_0 : l0_0.length ≤ c0_0) (hr0_1 : Kd.C k62 w A0_1 l0_1.length l0_1) (hc0_1 : l0_1.length ≤ c0_1) (hr0_2 : Kd.C k39 w A0_2 l0_2.length l0_2) (hc0_2 : l0_2.length ≤ c0_2) (h : impl_windowsOf.f k l0_0 l0_1 l0_2 = some r) :
  Calls Try.prog 77 #[.agg #[.slice A0_0 l0_0.length c0_0, .slice A0_1 l0_1.length c0_1, .slice A0_2 l0_2.length c0_2]] w fun e w' => ∃ v0_ : Value, e = .returned (v0_) ∧ Kd.S (Kd.slice 2 (Kd.int .i64)) 33 w' w.heap.size (fun _ => True) v0_ r ∧ Below w.heap.size w w' := by
 have hu28 := Try.underlying28; have hu39 := Try.underlying39; have HR0_0 := am_ hr0_0; have HC0_0 := am_ hc0_0; clear hr0_0 hc0_0; have HR0_1 := am_ hr0_1; have HC0_1 := am_ hc0_1; clear hr0_1 hc0_1; have HR0_2 := am_ hr0_2; have HC0_2 := am_ hc0_2; clear hr0_2 hc0_2; have HB := am_ (Below.refl w.heap.size w); have H : (impl_windowsOf.l0 k ([] : List (List Int)) l0_2 (l0_2.length : Int) 0 l0_0 l0_1 l0_2) = some r := h; clear h; have H' := am_ H; clear H
 go_enter Try.func77, Try.ntmps77
 go_wp2_with (first | ((with_reducible refine gate_dst (N := 1) rfl ?_); refine boxZ 1 #[.slice A0_0 l0_0.length c0_0, .slice A0_1 l0_1.length c0_1, .slice A0_2 l0_2.length c0_2] 28 ?_; intro gb1202 hg w2 hbox hb; replace BK1202 := am_ (hbox); replace GW1202 := am_ ((Zr : w.heap.size ≤ gb1202)); replace GE1202 := GW1202; replace HB := (bsZ Zf hb); clear hb hbox hg; refine ci3 BK1202 ?_; intros))
 go_loopg [3, 11] k (fun kq v3 v11 w' => ∃ (x3_1 : List (List Int)) (x11_1 : Int), v11 = .int .i64 x11_1 ∧ Aside0 (impl_windowsOf.l0 kq x3_1 l0_2 (l0_2.length : Int) x11_1 l0_0 l0_1 l0_2 = some r) ∧ Aside0 (kq ≤ k) ∧ Aside0 (Kd.S (Kd.slice 2 (Kd.int .i64)) 33 w' w.heap.size (fun _ => True) v3 x3_1) ∧ Aside0 (w'.heap[gb1202]? = some (.cells #[(.slice A0_0 l0_0.length c0_0), (.slice A0_1 l0_1.length c0_1), (.slice A0_2 l0_2.length c0_2)] 28 (0, 0))) ∧ Aside0 (Below w.heap.size w w'))
 case atStart => exact ⟨(([] : List (List Int))), (0), Za, H', ⟨Nat.le_refl _⟩, ⟨Zco⟩, ⟨(Zh BK1202)⟩, ⟨(Zi GE1202)⟩⟩
 case round =>
  clear H'
  try clear p2
  obtain ⟨x3_1, x11_1, rfl, HA, HK1, HO_3, BK1202, HB⟩ := hrel
  cases gk with
  | zero => exact absurd HA.out (by simp [impl_windowsOf.l0])
  | succ k1 =>
   have H := HA.out; clear HA; simp only [impl_windowsOf.l0] at H
   by_cases c4 : x11_1 < (l0_2.length : Int)
   ·rw [if_pos c4] at H
    have c4b0 := decide_eq_true c4; clear c4
    by_cases c5 : 0 ≤ x11_1
    ·rw [if_pos c5] at H
     have c5b0 := decide_eq_true c5; clear c5
     by_cases c6 : x11_1 < (l0_2.length : Int)
     ·rw [if_pos c6] at H
      have c6b0 := decide_eq_true c6; clear c6; replace H := Option.bind_eq_some_iff.mp H; obtain ⟨t1205, A70, H⟩ := H; have A7 := am_ A70; clear A70; have H' := am_ H; clear H; have p1203 : 0 ≤ (x11_1 : Int) := of_decide_eq_true Zc; have q1203 : x11_1 < (l0_2.length : Int) := of_decide_eq_true Zc; obtain ⟨ad1203, e1203, hx1203_0, hx1203_1, hx1203_2, hx1203_3⟩ := at_T39 HR0_2.out x11_1 p1203 q1203
      cases e1203
      replace hx1203_0 := cbH HB hx1203_0; replace hx1203_1 := cbH HB hx1203_1; replace hx1203_2 := cbH HB hx1203_2; replace hx1203_3 := cbH HB hx1203_3; replace p1203 := eq_true p1203; replace q1203 := eq_true q1203
      go_wp2_with (first | ((with_reducible refine gate_dst (N := 5) rfl ?_); refine boxZ 5 #[.int .i64 0, .int .i64 0, .string (⟨#[]⟩ : ByteArray), .int .i64 0] 39 ?_; intro gb1204 hg w8 hbox hb; replace HO_3 := am_ (Kd.S_below (Zcp HO_3) hb); replace BK1204 := am_ (hbox); replace GW1204 := am_ (((Zt GE1202) : w.heap.size ≤ gb1204)); replace GE1204 := GW1204; replace HB := (bsZ (Zi GE1202) hb); replace NB1202_1204 := am_ ((by rw [hg]; exact Nat.ne_of_lt (blk_lt (g := gb1202) (b0Z BK1202)) : gb1202 ≠ gb1204)); replace NB1204_1202 := am_ ((by rw [hg]; exact Nat.ne_of_gt (blk_lt (g := gb1202) (b0Z BK1202)) : gb1204 ≠ gb1202)); replace BK1202 := (bkZ BK1202 hb); clear hb hbox hg; have hnb9 := NB1204_1202.out; have hnc9 := NB1202_1204.out; refine ci4 BK1204 ?_; intros; refine ci3 BK1202 ?_; intros) | ((with_reducible refine gate_callee (f := 75) rfl ?_); refine gZ 18 Try.func75 #[.agg #[.slice A0_0 l0_0.length c0_0, .slice A0_1 l0_1.length c0_1, .slice (some ad1203) l0_2.length c0_2], .agg #[.int .i64 ((rd_T39 l0_2 x11_1).f0), .int .i64 ((rd_T39 l0_2 x11_1).f1), .string ((rd_T39 l0_2 x11_1).f2), .int .i64 ((rd_T39 l0_2 x11_1).f3)]] ?_; (with_reducible refine (impl_windowsOfCue.calls k1 _ _ l0_0 _ _ l0_1 _ _ l0_2 ((rd_T39 l0_2 x11_1).f0) ((rd_T39 l0_2 x11_1).f1) ((rd_T39 l0_2 x11_1).f2) ((rd_T39 l0_2 x11_1).f3) t1205 _ ?_ ?_ ?_ ?_ ?_ ?_ A7.out).mono ?_); exact Kd.C_below HR0_0.out (Zw GE1202 GE1204); exact HC0_0.out; exact Kd.C_below HR0_1.out (Zw GE1202 GE1204); exact HC0_1.out; exact Kd.C_below HR0_2.out (Zw GE1202 GE1204); exact HC0_2.out; rintro e w12 ⟨v1206, rfl, ho0, hb⟩; refine ⟨_, rfl, ?_⟩; replace HO1207 := am_ (Kd.S_lower (Kd.S_new' ho0 (Kd.S_lt (Zcq HO_3 BK1204))) (below_size (Zw GE1202 GE1204))); replace HO_3 := am_ (Kd.S_elder' (Zcq HO_3 BK1204) (Kd.S_base ho0) hb); replace BK1202 := am_ (blk_below (g := gb1202) (bfZ BK1202 NB1202_1204) hb); replace BK1204 := am_ (blk_below (g := gb1204) (o := .cells #[.int .i64 ((rd_T39 l0_2 x11_1).f0), .int .i64 ((rd_T39 l0_2 x11_1).f1), .string ((rd_T39 l0_2 x11_1).f2), .int .i64 ((rd_T39 l0_2 x11_1).f3)] 39 (0, 0)) (bpZ BK1204) hb); replace HB := (bsZ (Zw GE1202 GE1204) hb); clear hb ho0; obtain ⟨Ao13, co13, eo13⟩ := Kd.S_slice HO1207.out; subst eo13))
      go_loopg [3, 20] k1 (fun kq v3 v20 w' => ∃ (x3_2 : List (List Int)) (x20_2 : Int), v20 = .int .i64 x20_2 ∧ Aside0 (impl_windowsOf.l1 kq x3_2 x11_1 l0_2 (l0_2.length : Int) x11_1 t1205 (t1205.length : Int) x20_2 l0_0 l0_1 l0_2 = some r) ∧ Aside0 (kq ≤ k1) ∧ Aside0 (Kd.S (Kd.slice 2 (Kd.int .i64)) 33 w' w.heap.size (fun k_ => some k_ ≠ ((.slice Ao13 t1205.length co13) : Value).ownBlock) v3 x3_2) ∧ Aside0 (Kd.S (Kd.slice 2 (Kd.int .i64)) 33 w' w.heap.size (fun k_ => some k_ ≠ (v3 : Value).ownBlock) (.slice Ao13 t1205.length co13) t1205) ∧ Aside0 (w'.heap[gb1202]? = some (.cells #[(.slice A0_0 l0_0.length c0_0), (.slice A0_1 l0_1.length c0_1), (.slice (some ad1203) l0_2.length c0_2)] 28 (0, 0))) ∧ Aside0 (w'.heap[gb1204]? = some (.cells #[.int .i64 ((rd_T39 l0_2 x11_1).f0), .int .i64 ((rd_T39 l0_2 x11_1).f1), .string ((rd_T39 l0_2 x11_1).f2), .int .i64 ((rd_T39 l0_2 x11_1).f3)] 39 (0, 0))) ∧ Aside0 (Below w.heap.size w w'))
      case atStart => exact ⟨(x3_1), (0), Za, H', ⟨Nat.le_refl _⟩, ⟨(Zcr HO_3)⟩, ⟨(Zcr HO1207)⟩, ⟨(Zh BK1202)⟩, ⟨(Zh BK1204)⟩, ⟨(Zw GE1202 GE1204)⟩⟩
      case round =>
       clear H'
       try clear p1
       try clear q1
       try clear hx1
       try clear p2
       try clear c4
       try clear c4b0
       try clear c5
       try clear c5b0
       try clear c6
       try clear c6b0
       try clear c7
       try clear c9
       try clear p12
       try clear q12
       try clear hx12
       try clear hx1203_0
       try clear hx1203_1
       try clear hx1203_2
       try clear hx1203_3
       try clear p1203
       try clear p2
       try clear q1203
       obtain ⟨x3_2, x20_2, rfl, HA, HK2, HO_3, HO_18, BK1202, BK1204, HB⟩ := hrel
       cases gk with
       | zero => exact absurd HA.out (by simp [impl_windowsOf.l1])
       | succ k2 =>
        have H := HA.out; clear HA; simp only [impl_windowsOf.l1] at H
        by_cases c14 : x20_2 < (t1205.length : Int)
        ·rw [if_pos c14] at H
         have c14b0 := decide_eq_true c14; clear c14
         by_cases c15 : 0 ≤ x20_2
         ·rw [if_pos c15] at H
          have c15b0 := decide_eq_true c15; clear c15
          by_cases c16 : x20_2 < (t1205.length : Int)
          ·rw [if_pos c16] at H
           have c16b0 := decide_eq_true c16; clear c16
           by_cases c17 : 0 < ((rd_L6 t1205 x20_2).length : Int)
           ·rw [if_pos c17] at H
            have c17b0 := decide_eq_true c17; have c17b1 : decide (0 < (rd_L6 t1205 x20_2).length) = true := decide_eq_true (by omega); clear c17
            by_cases c18 : 1 < ((rd_L6 t1205 x20_2).length : Int)
            ·rw [if_pos c18] at H
             have c18b0 := decide_eq_true c18; have c18b1 : decide (1 < (rd_L6 t1205 x20_2).length) = true := decide_eq_true (by omega); clear c18; obtain ⟨y1211, hy1211⟩ : ∃ y_ : List Int, y_ = (([rd (rd_L6 t1205 x20_2) 0, rd (rd_L6 t1205 x20_2) 1, x11_1] : List Int)) := ⟨_, rfl⟩
             (first | (rw [← hy1211] at H; with_reducible replace H := bindZ H) | rw [← hy1211] at H | skip)
             have Ny1211 := am_ hy1211; clear hy1211
             by_cases c19 : x3_2.length < 5864062014805
             ·rw [if_pos c19] at H
              have LMc19 := am_ c19; clear c19; obtain ⟨y1214, hy1214⟩ : ∃ y_ : List (List Int), y_ = (x3_2 ++ [y1211]) := ⟨_, rfl⟩
              (first | (rw [← hy1214] at H; with_reducible replace H := bindZ H) | rw [← hy1214] at H | skip)
              have Ny1214 := am_ hy1214; clear hy1214; have H' := am_ H; clear H; have p1208 : 0 ≤ (x20_2 : Int) := of_decide_eq_true Zc; have q1208 : x20_2 < (t1205.length : Int) := of_decide_eq_true Zc; obtain ⟨ad1208, A1208_0, c1208_0, e1208, hx1208_0, hl1208_0, hi1208_0⟩ := at_L6 (Kd.S_reads' HO_18.out).2.2 x20_2 p1208 q1208
              cases e1208
              obtain ⟨ce1208, hce1208, hMe1208, hcc1208⟩ := Kd.S_get HO_18.out [] x20_2 p1208 (by first | exact q1208 | exact of_decide_eq_true Zc | (have e_ := (Kd.S_reads' HO_18.out).1; omega)); obtain ⟨ve1208_0, rfl, ge1208_0⟩ := hMe1208; have hv1208_0 := hcc1208 0 _ rfl; rw [Nat.add_zero, show ((Kd.slice 2 (Kd.int .i64))).sz = 1 from rfl, Nat.mul_one] at hv1208_0; replace hv1208_0 := Option.some.inj (hv1208_0.symm.trans hx1208_0); rw [hv1208_0] at ge1208_0; have HL1208_0 := am_ (show Kd.R (Kd.int .i64) 2 _ _ _ _ (rd_L6 t1205 x20_2) from ge1208_0); clear hv1208_0 ge1208_0; clear hcc1208 hce1208; have HR1208_0 := am_ hi1208_0; have HC1208_0 := am_ hl1208_0; clear hi1208_0 hl1208_0; replace p1208 := eq_true p1208; replace q1208 := eq_true q1208
              try go_wp2
              replace HO_3 := am_ (Kd.S_drew HO_3.out); replace HO_18 := am_ (Kd.S_drew HO_18.out); replace HL1208_0 := am_ (Kd.R_drew HL1208_0.out); replace BK1202 := am_ (blk_drew BK1202.out); replace BK1204 := am_ (blk_drew BK1204.out); replace HR1208_0 := am_ (Kd.C_drew HR1208_0.out); replace HB := am_ (below_drew1 HB.out); have p1209 : 0 ≤ (0 : Int) := (by omega); have q1209 : 0 < ((rd_L6 t1205 x20_2).length : Int) := of_decide_eq_true Zc; obtain ⟨ad1209, e1209, hx1209_0⟩ := Kd.at_int (Zcs HR1208_0) 0 p1209 q1209
              cases e1209
              have qi1209 : (0 < (rd_L6 t1205 x20_2).length) = True := eq_true (by omega)
              (try rw [show ((0 : Int)).toNat = 0 from rfl] at hx1209_0)
              (try rw [Addr.add_zero'] at hx1209_0)
              replace p1209 := eq_true p1209; replace q1209 := eq_true q1209; have p1210 : 0 ≤ (1 : Int) := (by omega); have q1210 : 1 < ((rd_L6 t1205 x20_2).length : Int) := of_decide_eq_true Zc; obtain ⟨ad1210, e1210, hx1210_0⟩ := Kd.at_int (Zcs HR1208_0) 1 p1210 q1210; obtain rfl : ad1209 = ad1210 := (by injection e1210)
              (try simp only [show (1 : Int).toNat = 1 from rfl, Nat.reduceMul, Nat.reduceEqDiff, Go.Addr.add, ↓reduceIte] at hx1210_0)
              have qi1210 : (1 < (rd_L6 t1205 x20_2).length) = True := eq_true (by omega)
              (try rw [show ((1 : Int)).toNat = 1 from rfl] at hx1210_0)
              replace p1210 := eq_true p1210; replace q1210 := eq_true q1210; refine start_ (n := 12) (S := fun w' => w'.cell? ad1209 = some (.int .i64 (rd (rd_L6 t1205 x20_2) 0)) ∧ w'.cell? ⟨ad1209.block, ad1209.off + 1, none⟩ = some (.int .i64 (rd (rd_L6 t1205 x20_2) 1))) (ds := [9, 10]) (bT 12 0) Zk rfl rfl ⟨hx1209_0, hx1210_0⟩ (fun hHeld => ?_); refine with_tabW impl_windowsOf.tab8 impl_windowsOf.bits8 (fun HT_ HW_ => ?_); generalize wr.drew = w20 at HO_3 HO_18 HL1208_0 BK1202 BK1204 HR1208_0 HB hx1209_0 hx1210_0 hHeld ⊢; refine pureZ HT_ 0 (some 24) (bT 12 1) ?_; refine pureZ HT_ 1 (some 25) (bT 12 2) ?_; refine pureZ HT_ 2 (some 26) (bT 12 3) ?_; refine pureZ HT_ 4 (some 28) (bB 12 23) ?_; refine pureZ HT_ 5 (some 29) (bB 12 55) ?_; refine pureZ HT_ 7 (some 31) (bB 12 183) ?_; refine takeZ2 HT_ HW_ 3 (some 27) (bB 12 191) hHeld ?_; refine takeZ2 HT_ HW_ 6 (some 30) (bT 12 8) hHeld ?_; refine one_ (i := 8) (N := some 32) (bT 12 9) rfl rfl (one_of HT_.out Zk) (by decide) (fun K hK => ?_); refine Kd.R_lit_step (Kd.int .i64) _ 2 ?hg (N := 32) ?hd (xs := ([rd (rd_L6 t1205 x20_2) 0, rd (rd_L6 t1205 x20_2) 1, x11_1] : List Int)) (inner := [.int .i64 (rd (rd_L6 t1205 x20_2) 0), .int .i64 (rd (rd_L6 t1205 x20_2) 1), .int .i64 x11_1]) (ok := fun _ => True) (okp := fun _ => True) ?hr ?hp (fun _ hk => hk) trivial (Below.refl _ _) (Nat.le_refl _) (by simp) ?_; (case hd => rfl); (case hg => rfl); (case hr => first | (go_simp; done) | (go_simp; rfl)); (case hp => exact (Reps.one (show Kd.M (Kd.int .i64) _ _ _ (rd (rd_L6 t1205 x20_2) 0) [.int .i64 (rd (rd_L6 t1205 x20_2) 0)] from rfl) (Reps.one (show Kd.M (Kd.int .i64) _ _ _ (rd (rd_L6 t1205 x20_2) 1) [.int .i64 (rd (rd_L6 t1205 x20_2) 1)] from rfl) (Reps.one (show Kd.M (Kd.int .i64) _ _ _ x11_1 [.int .i64 x11_1] from rfl) (Reps.none _ _))))); intro v1212 w21 ho22 hb hg_ hnew_; have HS0_ := (hb.cell (World.block_lt_of_cell? _ _ (hHeld.1))).trans (hHeld.1); have HS1_ := (hb.cell (World.block_lt_of_cell? _ _ (hHeld.2))).trans (hHeld.2); clear hg_ hnew_
              (first | rw [← Ny1211.out] at ho22 | (simp only [Int.reduceToNat] at ho22; rw [← Ny1211.out] at ho22))
              replace HO_3 := am_ (Kd.S_elder' (Zcp HO_3) (Kd.R_base ho22) hb); replace HO_18 := am_ (Kd.S_elder' (Zcp HO_18) (Kd.R_base ho22) hb); replace HO1213 := am_ (Kd.R_lower (Kd.R_new' ho22 (Kd.R_lt (Zaa HL1208_0))) (below_size (Zw GE1202 GE1204))); replace HL1208_0 := am_ (Kd.R_elder' (Zaa HL1208_0) (Kd.R_base ho22) hb); replace BK1202 := (bkZ BK1202 hb); replace BK1204 := (bkZ BK1204 hb); replace HR1208_0 := am_ (Kd.C_below (Zcs HR1208_0) hb); replace HB := (bsZ (Zw GE1202 GE1204) hb); clear hb ho22; obtain ⟨Ao24, co24, eo24⟩ := Kd.R_slice HO1213.out
              (first | subst eo24 | (injection eo24 with f1_ f2_ f3_; have f4_ := f1_.symm; have f5_ := f3_.symm; clear f1_ f2_ f3_; subst f4_; subst f5_))
              refine hK.out _ _ ⟨HS0_, HS1_⟩ (fun hHeld => ?_); clear hK K; refine normZ 32 ?_; refine last_ (i := 9) (N := some 33) (bT 12 10) rfl rfl (one_of HT_.out Zk) (by decide) (fun K hK => ?_); refine value_ (w1 := ?_) (v := ?_) (by rfl) rfl ?_ ?_; rotate_left 2
              ·go_simp
               constructor
               ·rfl
               ·rfl
              refine hK.out _ _ ?_; clear hK K; refine normZ 33 ?_; refine last_ (i := 10) (N := some 34) (bT 12 11) rfl rfl (one_of HT_.out Zk) (by decide) (fun K hK => ?_); refine Kd.S_append_step (Kd.slice 2 (Kd.int .i64)) (w0 := w) w.heap.size (by rfl) (.tmp 24) (.tmp 33) 51 33 (.slice none 0 0) 24 rfl Try.underlying51 info33 rfl (by decide) (by omega) u3 x3_2 y1211 [.slice Ao24 y1211.length co24] (fun k_ => some k_ ≠ (.slice (some ad1208) t1205.length co13 : Value).ownBlock) (fun k_ => some k_ = (.slice Ao24 y1211.length co24 : Value).ownBlock) rfl rfl ?aP (fun k_ hk_ => ((Kd.R_mono (ok' := fun k_ => ((fun k_ => some k_ ≠ (.slice (some ad1208) t1205.length co13 : Value).ownBlock)) k_ ∧ some k_ ≠ (u3 : Value).ownBlock) (Kd.R_apart' (Kd.R_apart' (HO1213.out) (Kd.S_typed HO_18.out) (by decide)) (Kd.S_typed HO_3.out) (by decide)) (fun k_ hk => ⟨hk.1.2, hk.2⟩))).1 k_ hk_.symm) ?aF ?aO ?aB ?aS ?aL ?_
              (case aP => exact Kd.M_row (Kd.R_mono (Kd.R_tight rfl (Kd.R_mono (ok' := fun k_ => ((fun k_ => some k_ ≠ (.slice (some ad1208) t1205.length co13 : Value).ownBlock)) k_ ∧ some k_ ≠ (u3 : Value).ownBlock) (Kd.R_apart' (Kd.R_apart' (HO1213.out) (Kd.S_typed HO_18.out) (by decide)) (Kd.S_typed HO_3.out) (by decide)) (fun k_ hk => ⟨hk.1.2, hk.2⟩))) (fun _ h_ => h_)))
              (case aB => exact (Zw GE1202 GE1204))
              (case aF => exact (fun k_ hk => Kd.fresh' (Kd.S_lt (Zcp HO_18)) k_ hk))
              (case aO => exact (by (with_reducible repeat (first | apply Kd.S_alloc | apply Kd.S_drewN | apply Kd.S_drew)); exact Kd.S_mono HO_3.out (fun k_ hk => ⟨hk.1, fun e_ => hk.2 e_⟩)))
              (case aS => exact (below_size (Zw GE1202 GE1204)))
              (case aL => have := LMc19.out; omega)
              intro v1215 w23 ho hb hg hat; rw [← Ny1214.out] at ho; replace HO_18 := am_ (Kd.S_after (ok := (fun k_ => some k_ ≠ (.slice Ao24 y1211.length co24 : Value).ownBlock)) (by (with_reducible repeat (first | apply Kd.S_alloc | apply Kd.S_drewN | apply Kd.S_drew)); exact Kd.S_mono HO_18.out (fun _ hk => ⟨hk.2, hk.1⟩)) hg hat); replace BK1202 := am_ (blk_grown (g := gb1202) (b0Z BK1202) hg (Kd.S_ne HO_3.out BK1202.out (by decide))); replace BK1204 := am_ (blk_grown (g := gb1204) (b0Z BK1204) hg (Kd.S_ne HO_3.out BK1204.out (by decide))); replace HL1208_0 := am_ (Kd.R_after (ok := (fun k_ => some k_ ≠ (.slice (some ad1208) t1205.length co13 : Value).ownBlock ∧ some k_ ≠ (.slice Ao24 y1211.length co24 : Value).ownBlock)) (by (with_reducible repeat (first | apply Kd.R_alloc | apply Kd.R_drewN | apply Kd.R_drew)); exact Kd.R_mono HL1208_0.out (fun _ hk => ⟨⟨hk.1.2, hk.2⟩, hk.1.1⟩)) hg hat); replace HB := am_ (hb); replace HO1216 := am_ (ho); clear HO_3 HO1213; clear ho hb hg hat; refine hK.out _ _ ?_; clear hK K; refine normZ 34 ?_; refine pureZ HT_ 11 (some 3) (bT 12 12) ?_; refine done_ (done_of HT_.out Zk) ?_
              try go_wp2
              go_roundg k2
              case measure => have := HK1.out; have := HK2.out; omega
              case rel => exact ⟨(y1214), (wrap64 (x20_2 + 1)), Za, H', ⟨Zce⟩, ⟨(Zcp HO1216)⟩, ⟨(Zcr HO_18)⟩, ⟨(Zh BK1202)⟩, ⟨(Zh BK1204)⟩, ⟨(Zw GE1202 GE1204)⟩⟩
             ·rw [if_neg c19] at H
              exact absurd H (by simp)
            ·rw [if_neg c18] at H
             exact absurd H (by simp)
           ·rw [if_neg c17] at H
            exact absurd H (by simp)
          ·rw [if_neg c16] at H
           exact absurd H (by simp)
         ·rw [if_neg c15] at H
          exact absurd H (by simp)
        ·rw [if_neg c14] at H
         have c14b0 := decide_eq_false c14; clear c14; have H' := am_ H; clear H
         go_wp2
         go_roundg k2
         case measure => have := HK1.out; have := HK2.out; omega
         case rel => exact ⟨(x3_2), (wrap64 (x11_1 + 1)), Za, H', ⟨Zce⟩, ⟨by (with_reducible repeat (first | apply Kd.S_alloc | apply Kd.S_drewN | apply Kd.S_drew)); exact Kd.S_mono HO_3.out (fun _ hk => trivial)⟩, ⟨(Zh BK1202)⟩, ⟨(Zw GE1202 GE1204)⟩⟩
     ·rw [if_neg c6] at H
      exact absurd H (by simp)
    ·rw [if_neg c5] at H
     exact absurd H (by simp)
   ·rw [if_neg c4] at H
    have c4b0 := decide_eq_false c4; clear c4; obtain rfl := Option.some.inj H
    go_wp2
    go_ret
    exact ⟨_, Zl, (Zcp HO_3), (Zi GE1202)⟩
mutual
def impl_MostAtOnce.l0 : Nat → List (List Int) → Int → Int → List (List Int) → Int → Int → Option (Int × Int × Int)
 | 0, _, _, _, _, _, _ => none
 | k + 1, x5, x6, x7, x19, x20, x21 => if x21 < x20 then (if 0 ≤ x21 then (if x21 < (x19.length : Int) then (if 0 < ((rd_L6 x19 x21).length : Int) then (impl_MostAtOnce.l1 k x5 x6 x7 (rd (rd_L6 x19 x21) 0) 0 x19 x20 x21 x5 (x5.length : Int) 0) else (none)) else (none)) else (none)) else (some (x6, x7, 0))
def impl_MostAtOnce.l1 : Nat → List (List Int) → Int → Int → Int → Int → List (List Int) → Int → Int → List (List Int) → Int → Int → Option (Int × Int × Int)
 | 0, _, _, _, _, _, _, _, _, _, _, _ => none
 | k + 1, x5, x6, x7, x10, x11, x19, x20, x21, x28, x29, x30 => if x30 < x29 then (if 0 ≤ x30 then (if x30 < (x28.length : Int) then (if 0 < ((rd_L6 x28 x30).length : Int) then (if 1 < ((rd_L6 x28 x30).length : Int) then ((impl_within.f x10 (rd (rd_L6 x28 x30) 0) (rd (rd_L6 x28 x30) 1)).bind fun t1227 => (if t1227 = true then (impl_MostAtOnce.l1 k x5 x6 x7 x10 (wrap64 (x11 + 1)) x19 x20 x21 x28 x29 (wrap64 (x30 + 1))) else (impl_MostAtOnce.l1 k x5 x6 x7 x10 x11 x19 x20 x21 x28 x29 (wrap64 (x30 + 1))))) else (none)) else (none)) else (none)) else (none)) else (if x11 > x7 then (impl_MostAtOnce.l0 k x5 x10 x11 x19 x20 (wrap64 (x21 + 1))) else (if x11 = x7 then (if x10 < x6 then (impl_MostAtOnce.l0 k x5 x10 x11 x19 x20 (wrap64 (x21 + 1))) else (impl_MostAtOnce.l0 k x5 x6 x7 x19 x20 (wrap64 (x21 + 1)))) else (impl_MostAtOnce.l0 k x5 x6 x7 x19 x20 (wrap64 (x21 + 1)))))
end
def impl_MostAtOnce.f (k : Nat) (l0_0 : List (S104)) (l0_1 : List (S62)) (l0_2 : List (S39)) : Option (Int × Int × Int) := (impl_IsShow.f k l0_0 l0_1 l0_2).bind fun t1218 => (if t1218 = true then ((impl_windowsOf.f k l0_0 l0_1 l0_2).bind fun t1219 => (impl_MostAtOnce.l0 k t1219 0 0 t1219 (t1219.length : Int) 0)) else (some (0, 0, 1)))
set_option maxHeartbeats 8000000 in
set_option maxRecDepth 100000 in
theorem impl_MostAtOnce.calls (k : Nat) (A0_0 : Option Addr) (c0_0 : Nat) (l0_0 : List (S104)) (A0_1 : Option Addr) (c0_1 : Nat) (l0_1 : List (S62)) (A0_2 : Option Addr) (c0_2 : Nat) (l0_2 : List (S39)) (r1 : Int) (r2 : Int) (r3 : Int) (w : World) (hr0_0 : Kd.C k104 w A0_0 l0_0.length l0_0) (hc0_0 : l0_0.length ≤ c0_0) (hr0_1 : Kd.C k62 w A0_1 l0_1.length l0_1) (hc0_1 : l0_1.length ≤ c0_1) (hr0_2 : Kd.C k39 w A0_2 l0_2.length l0_2) (hc0_2 : l0_2.length ≤ c0_2) (h : impl_MostAtOnce.f k l0_0 l0_1 l0_2 = some (r1, r2, r3)) :
  Calls Try.prog 37 #[.agg #[.slice A0_0 l0_0.length c0_0, .slice A0_1 l0_1.length c0_1, .slice A0_2 l0_2.length c0_2]] w fun e w' => e = .returned (.tuple #[.int .i64 r1, .int .i64 r2, .int .i64 r3]) ∧ Below w.heap.size w w' := by
 have hu28 := Try.underlying28; have HR0_0 := am_ hr0_0; have HC0_0 := am_ hc0_0; clear hr0_0 hc0_0; have HR0_1 := am_ hr0_1; have HC0_1 := am_ hc0_1; clear hr0_1 hc0_1; have HR0_2 := am_ hr0_2; have HC0_2 := am_ hc0_2; clear hr0_2 hc0_2; have HB := am_ (Below.refl w.heap.size w); have H : ((impl_IsShow.f k l0_0 l0_1 l0_2).bind fun t1218 => (if t1218 = true then ((impl_windowsOf.f k l0_0 l0_1 l0_2).bind fun t1219 => (impl_MostAtOnce.l0 k t1219 0 0 t1219 (t1219.length : Int) 0)) else (some (0, 0, 1)))) = some (r1, r2, r3) := h; clear h; replace H := Option.bind_eq_some_iff.mp H; obtain ⟨t1218, A20, H⟩ := H; have A2 := am_ A20; clear A20
 by_cases c3 : t1218 = true
 ·subst c3
  rw [if_pos rfl] at H; replace H := Option.bind_eq_some_iff.mp H; obtain ⟨t1219, A40, H⟩ := H; have A4 := am_ A40; clear A40; have H' := am_ H; clear H
  go_enter Try.func37, Try.ntmps37
  go_wp2_with (first | ((with_reducible refine gate_dst (N := 1) rfl ?_); refine boxZ 1 #[.slice A0_0 l0_0.length c0_0, .slice A0_1 l0_1.length c0_1, .slice A0_2 l0_2.length c0_2] 28 ?_; intro gb1217 hg w5 hbox hb; replace BK1217 := am_ (hbox); replace GW1217 := am_ ((Zr : w.heap.size ≤ gb1217)); replace GE1217 := GW1217; replace HB := (bsZ Zf hb); clear hb hbox hg; obtain ⟨hcz6_0, hcz6_1, hcz6_2, hfz6_0, hfz6_1, hfz6_2⟩ := cz3 BK1217) | (go_at_call 25; (with_reducible refine (impl_IsShow.calls k _ _ l0_0 _ _ l0_1 _ _ l0_2 true _ ?_ ?_ ?_ ?_ ?_ ?_ A2.out).mono ?_); exact (Zu HR0_0); exact HC0_0.out; exact (Zu HR0_1); exact HC0_1.out; exact (Zu HR0_2); exact HC0_2.out; rintro e w7 ⟨rfl, hb⟩; replace BK1217 := (bkZ BK1217 hb); replace HB := (bsZ (Zi GE1217) hb); clear hb; obtain ⟨hcz8_0, hcz8_1, hcz8_2, hfz8_0, hfz8_1, hfz8_2⟩ := cz3 BK1217) | (go_at_call 77; (with_reducible refine (impl_windowsOf.calls k _ _ l0_0 _ _ l0_1 _ _ l0_2 t1219 _ ?_ ?_ ?_ ?_ ?_ ?_ A4.out).mono ?_); exact (Zu HR0_0); exact HC0_0.out; exact (Zu HR0_1); exact HC0_1.out; exact (Zu HR0_2); exact HC0_2.out; rintro e w9 ⟨v1220, rfl, ho0, hb⟩; replace HO1221 := am_ (Kd.S_lower ho0 (below_size (Zi GE1217))); replace BK1217 := (bkZ BK1217 hb); replace HB := (bsZ (Zi GE1217) hb); clear hb ho0; obtain ⟨Ao10, co10, eo10⟩ := Kd.S_slice HO1221.out; subst eo10))
  repeat (go_quiet (first | ((with_reducible refine gate_dst (N := 1) rfl ?_); refine boxZ 1 #[.slice A0_0 l0_0.length c0_0, .slice A0_1 l0_1.length c0_1, .slice A0_2 l0_2.length c0_2] 28 ?_; intro gb1217 hg w5 hbox hb; replace BK1217 := am_ (hbox); replace GW1217 := am_ ((Zr : w.heap.size ≤ gb1217)); replace GE1217 := GW1217; replace HB := (bsZ Zf hb); clear hb hbox hg; obtain ⟨hcz6_0, hcz6_1, hcz6_2, hfz6_0, hfz6_1, hfz6_2⟩ := cz3 BK1217) | (go_at_call 25; (with_reducible refine (impl_IsShow.calls k _ _ l0_0 _ _ l0_1 _ _ l0_2 true _ ?_ ?_ ?_ ?_ ?_ ?_ A2.out).mono ?_); exact (Zu HR0_0); exact HC0_0.out; exact (Zu HR0_1); exact HC0_1.out; exact (Zu HR0_2); exact HC0_2.out; rintro e w7 ⟨rfl, hb⟩; replace BK1217 := (bkZ BK1217 hb); replace HB := (bsZ (Zi GE1217) hb); clear hb; obtain ⟨hcz8_0, hcz8_1, hcz8_2, hfz8_0, hfz8_1, hfz8_2⟩ := cz3 BK1217) | (go_at_call 77; (with_reducible refine (impl_windowsOf.calls k _ _ l0_0 _ _ l0_1 _ _ l0_2 t1219 _ ?_ ?_ ?_ ?_ ?_ ?_ A4.out).mono ?_); exact (Zu HR0_0); exact HC0_0.out; exact (Zu HR0_1); exact HC0_1.out; exact (Zu HR0_2); exact HC0_2.out; rintro e w9 ⟨v1220, rfl, ho0, hb⟩; replace HO1221 := am_ (Kd.S_lower ho0 (below_size (Zi GE1217))); replace BK1217 := (bkZ BK1217 hb); replace HB := (bsZ (Zi GE1217) hb); clear hb ho0; obtain ⟨Ao10, co10, eo10⟩ := Kd.S_slice HO1221.out; subst eo10)); try go_wp2_with (first | ((with_reducible refine gate_dst (N := 1) rfl ?_); refine boxZ 1 #[.slice A0_0 l0_0.length c0_0, .slice A0_1 l0_1.length c0_1, .slice A0_2 l0_2.length c0_2] 28 ?_; intro gb1217 hg w5 hbox hb; replace BK1217 := am_ (hbox); replace GW1217 := am_ ((Zr : w.heap.size ≤ gb1217)); replace GE1217 := GW1217; replace HB := (bsZ Zf hb); clear hb hbox hg; obtain ⟨hcz6_0, hcz6_1, hcz6_2, hfz6_0, hfz6_1, hfz6_2⟩ := cz3 BK1217) | (go_at_call 25; (with_reducible refine (impl_IsShow.calls k _ _ l0_0 _ _ l0_1 _ _ l0_2 true _ ?_ ?_ ?_ ?_ ?_ ?_ A2.out).mono ?_); exact (Zu HR0_0); exact HC0_0.out; exact (Zu HR0_1); exact HC0_1.out; exact (Zu HR0_2); exact HC0_2.out; rintro e w7 ⟨rfl, hb⟩; replace BK1217 := (bkZ BK1217 hb); replace HB := (bsZ (Zi GE1217) hb); clear hb; obtain ⟨hcz8_0, hcz8_1, hcz8_2, hfz8_0, hfz8_1, hfz8_2⟩ := cz3 BK1217) | (go_at_call 77; (with_reducible refine (impl_windowsOf.calls k _ _ l0_0 _ _ l0_1 _ _ l0_2 t1219 _ ?_ ?_ ?_ ?_ ?_ ?_ A4.out).mono ?_); exact (Zu HR0_0); exact HC0_0.out; exact (Zu HR0_1); exact HC0_1.out; exact (Zu HR0_2); exact HC0_2.out; rintro e w9 ⟨v1220, rfl, ho0, hb⟩; replace HO1221 := am_ (Kd.S_lower ho0 (below_size (Zi GE1217))); replace BK1217 := (bkZ BK1217 hb); replace HB := (bsZ (Zi GE1217) hb); clear hb ho0; obtain ⟨Ao10, co10, eo10⟩ := Kd.S_slice HO1221.out; subst eo10)))
  go_loopg [6, 7, 21] k (fun kq v6 v7 v21 w' => ∃ (x6_1 : Int) (x7_1 : Int) (x21_1 : Int), v6 = .int .i64 x6_1 ∧ v7 = .int .i64 x7_1 ∧ v21 = .int .i64 x21_1 ∧ Aside0 (impl_MostAtOnce.l0 kq t1219 x6_1 x7_1 t1219 (t1219.length : Int) x21_1 = some (r1, r2, r3)) ∧ Aside0 (kq ≤ k) ∧ Aside0 (Kd.S (Kd.slice 2 (Kd.int .i64)) 33 w' w.heap.size (fun _ => True) (.slice Ao10 t1219.length co10) t1219) ∧ Aside0 (Kd.S (Kd.slice 2 (Kd.int .i64)) 33 w' w.heap.size (fun _ => True) (.slice Ao10 t1219.length co10) t1219) ∧ Aside0 (w'.heap[gb1217]? = some (.cells #[(.slice A0_0 l0_0.length c0_0), (.slice A0_1 l0_1.length c0_1), (.slice A0_2 l0_2.length c0_2)] 28 (0, 0))) ∧ Aside0 (Below w.heap.size w w'))
  case atStart => exact ⟨(0), (0), (0), Za, Za, Za, H', ⟨Nat.le_refl _⟩, ⟨(Zcp HO1221)⟩, ⟨(Zcp HO1221)⟩, ⟨(Zh BK1217)⟩, ⟨(Zi GE1217)⟩⟩
  case round =>
   clear H'
   try clear p2
   try clear c3
   obtain ⟨x6_1, x7_1, x21_1, rfl, rfl, rfl, HA, HK1, HO_5, HO_19, BK1217, HB⟩ := hrel
   cases gk with
   | zero => exact absurd HA.out (by simp [impl_MostAtOnce.l0])
   | succ k1 =>
    have H := HA.out; clear HA; simp only [impl_MostAtOnce.l0] at H
    by_cases c11 : x21_1 < (t1219.length : Int)
    ·rw [if_pos c11] at H
     have c11b0 := decide_eq_true c11; clear c11
     by_cases c12 : 0 ≤ x21_1
     ·rw [if_pos c12] at H
      have c12b0 := decide_eq_true c12; clear c12
      by_cases c13 : x21_1 < (t1219.length : Int)
      ·rw [if_pos c13] at H
       have c13b0 := decide_eq_true c13; clear c13
       by_cases c14 : 0 < ((rd_L6 t1219 x21_1).length : Int)
       ·rw [if_pos c14] at H
        have c14b0 := decide_eq_true c14; have c14b1 : decide (0 < (rd_L6 t1219 x21_1).length) = true := decide_eq_true (by omega); clear c14; have H' := am_ H; clear H; have p1222 : 0 ≤ (x21_1 : Int) := of_decide_eq_true Zc; have q1222 : x21_1 < (t1219.length : Int) := of_decide_eq_true Zc; obtain ⟨ad1222, A1222_0, c1222_0, e1222, hx1222_0, hl1222_0, hi1222_0⟩ := at_L6 (Kd.S_reads' HO_19.out).2.2 x21_1 p1222 q1222
        cases e1222
        obtain ⟨ce1222, hce1222, hMe1222, hcc1222⟩ := Kd.S_get HO_19.out [] x21_1 p1222 (by first | exact q1222 | exact of_decide_eq_true Zc | (have e_ := (Kd.S_reads' HO_19.out).1; omega)); obtain ⟨ve1222_0, rfl, ge1222_0⟩ := hMe1222; have hv1222_0 := hcc1222 0 _ rfl; rw [Nat.add_zero, show ((Kd.slice 2 (Kd.int .i64))).sz = 1 from rfl, Nat.mul_one] at hv1222_0; replace hv1222_0 := Option.some.inj (hv1222_0.symm.trans hx1222_0); rw [hv1222_0] at ge1222_0; have HL1222_0 := am_ (show Kd.R (Kd.int .i64) 2 _ _ _ _ (rd_L6 t1219 x21_1) from ge1222_0); clear hv1222_0 ge1222_0; clear hcc1222 hce1222; have HR1222_0 := am_ hi1222_0; have HC1222_0 := am_ hl1222_0; clear hi1222_0 hl1222_0; replace p1222 := eq_true p1222; replace q1222 := eq_true q1222; have p1223 : 0 ≤ (0 : Int) := (by omega); have q1223 : 0 < ((rd_L6 t1219 x21_1).length : Int) := of_decide_eq_true Zc; obtain ⟨ad1223, e1223, hx1223_0⟩ := Kd.at_int (Zcs HR1222_0) 0 p1223 q1223
        cases e1223
        have qi1223 : (0 < (rd_L6 t1219 x21_1).length) = True := eq_true (by omega)
        (try rw [show ((0 : Int)).toNat = 0 from rfl] at hx1223_0)
        (try rw [Addr.add_zero'] at hx1223_0)
        replace p1223 := eq_true p1223; replace q1223 := eq_true q1223
        go_wp2
        repeat (go_quiet (fail); try go_wp2)
        go_loopg [11, 30] k1 (fun kq v11 v30 w' => ∃ (x11_2 : Int) (x30_2 : Int), v11 = .int .i64 x11_2 ∧ v30 = .int .i64 x30_2 ∧ Aside0 (impl_MostAtOnce.l1 kq t1219 x6_1 x7_1 (rd (rd_L6 t1219 x21_1) 0) x11_2 t1219 (t1219.length : Int) x21_1 t1219 (t1219.length : Int) x30_2 = some (r1, r2, r3)) ∧ Aside0 (kq ≤ k1) ∧ Aside0 (Kd.S (Kd.slice 2 (Kd.int .i64)) 33 w' w.heap.size (fun _ => True) (.slice (some ad1222) t1219.length co10) t1219) ∧ Aside0 (Kd.S (Kd.slice 2 (Kd.int .i64)) 33 w' w.heap.size (fun _ => True) (.slice (some ad1222) t1219.length co10) t1219) ∧ Aside0 (Kd.S (Kd.slice 2 (Kd.int .i64)) 33 w' w.heap.size (fun _ => True) (.slice (some ad1222) t1219.length co10) t1219) ∧ Aside0 (w'.heap[gb1217]? = some (.cells #[(.slice A0_0 l0_0.length c0_0), (.slice A0_1 l0_1.length c0_1), (.slice A0_2 l0_2.length c0_2)] 28 (0, 0))) ∧ Aside0 (Kd.C (Kd.int .i64) w' (some ad1223) (rd_L6 t1219 x21_1).length (rd_L6 t1219 x21_1)) ∧ Aside0 (Below w.heap.size w w'))
        case atStart => exact ⟨(0), (0), Za, Za, H', ⟨Nat.le_refl _⟩, ⟨(Zcp HO_5)⟩, ⟨(Zcp HO_19)⟩, ⟨(Zcp HO_5)⟩, ⟨(Zh BK1217)⟩, ⟨(Zcs HR1222_0)⟩, ⟨(Zi GE1217)⟩⟩
        case round =>
         clear H'
         try clear c1
         try clear p1
         try clear q1
         try clear hx1
         try clear qi1
         try clear p2
         try clear c3
         try clear c11
         try clear c11b0
         try clear c12
         try clear c12b0
         try clear p12
         try clear q12
         try clear hx12
         try clear qi12
         try clear c13
         try clear c13b0
         try clear c14
         try clear c14b0
         try clear c14b1
         try clear hx1222_0
         try clear hx1223_0
         try clear p1222
         try clear p1223
         try clear p2
         try clear q1222
         try clear q1223
         obtain ⟨x11_2, x30_2, rfl, rfl, HA, HK2, HO_5, HO_19, HO_28, BK1217, HR1222_0, HB⟩ := hrel
         cases gk with
         | zero => exact absurd HA.out (by simp [impl_MostAtOnce.l1])
         | succ k2 =>
          have H := HA.out; clear HA; simp only [impl_MostAtOnce.l1] at H
          by_cases c15 : x30_2 < (t1219.length : Int)
          ·rw [if_pos c15] at H
           have c15b0 := decide_eq_true c15; clear c15
           by_cases c16 : 0 ≤ x30_2
           ·rw [if_pos c16] at H
            have c16b0 := decide_eq_true c16; clear c16
            by_cases c17 : x30_2 < (t1219.length : Int)
            ·rw [if_pos c17] at H
             have c17b0 := decide_eq_true c17; clear c17
             by_cases c18 : 0 < ((rd_L6 t1219 x30_2).length : Int)
             ·rw [if_pos c18] at H
              have c18b0 := decide_eq_true c18; have c18b1 : decide (0 < (rd_L6 t1219 x30_2).length) = true := decide_eq_true (by omega); clear c18
              by_cases c19 : 1 < ((rd_L6 t1219 x30_2).length : Int)
              ·rw [if_pos c19] at H
               have c19b0 := decide_eq_true c19; have c19b1 : decide (1 < (rd_L6 t1219 x30_2).length) = true := decide_eq_true (by omega); clear c19; replace H := Option.bind_eq_some_iff.mp H; obtain ⟨t1227, A200, H⟩ := H; have A20 := am_ A200; clear A200
               by_cases c21 : t1227 = true
               ·subst c21
                rw [if_pos rfl] at H; have H' := am_ H; clear H; have p1224 : 0 ≤ (x30_2 : Int) := of_decide_eq_true Zc; have q1224 : x30_2 < (t1219.length : Int) := of_decide_eq_true Zc; obtain ⟨ad1224, A1224_0, c1224_0, e1224, hx1224_0, hl1224_0, hi1224_0⟩ := at_L6 (Kd.S_reads' HO_28.out).2.2 x30_2 p1224 q1224; obtain rfl : ad1222 = ad1224 := (by injection e1224); obtain ⟨ce1224, hce1224, hMe1224, hcc1224⟩ := Kd.S_get HO_28.out [] x30_2 p1224 (by first | exact q1224 | exact of_decide_eq_true Zc | (have e_ := (Kd.S_reads' HO_28.out).1; omega)); obtain ⟨ve1224_0, rfl, ge1224_0⟩ := hMe1224; have hv1224_0 := hcc1224 0 _ rfl; rw [Nat.add_zero, show ((Kd.slice 2 (Kd.int .i64))).sz = 1 from rfl, Nat.mul_one] at hv1224_0; replace hv1224_0 := Option.some.inj (hv1224_0.symm.trans hx1224_0); rw [hv1224_0] at ge1224_0; have HL1224_0 := am_ (show Kd.R (Kd.int .i64) 2 _ _ _ _ (rd_L6 t1219 x30_2) from ge1224_0); clear hv1224_0 ge1224_0; clear hcc1224 hce1224; have HR1224_0 := am_ hi1224_0; have HC1224_0 := am_ hl1224_0; clear hi1224_0 hl1224_0; replace p1224 := eq_true p1224; replace q1224 := eq_true q1224; have p1225 : 0 ≤ (0 : Int) := (by omega); have q1225 : 0 < ((rd_L6 t1219 x30_2).length : Int) := of_decide_eq_true Zc; obtain ⟨ad1225, e1225, hx1225_0⟩ := Kd.at_int (Zcs HR1224_0) 0 p1225 q1225
                cases e1225
                have qi1225 : (0 < (rd_L6 t1219 x30_2).length) = True := eq_true (by omega)
                (try rw [show ((0 : Int)).toNat = 0 from rfl] at hx1225_0)
                (try rw [Addr.add_zero'] at hx1225_0)
                replace p1225 := eq_true p1225; replace q1225 := eq_true q1225; have p1226 : 0 ≤ (1 : Int) := (by omega); have q1226 : 1 < ((rd_L6 t1219 x30_2).length : Int) := of_decide_eq_true Zc; obtain ⟨ad1226, e1226, hx1226_0⟩ := Kd.at_int (Zcs HR1224_0) 1 p1226 q1226; obtain rfl : ad1225 = ad1226 := (by injection e1226)
                (try simp only [show (1 : Int).toNat = 1 from rfl, Nat.reduceMul, Nat.reduceEqDiff, Go.Addr.add, ↓reduceIte] at hx1226_0)
                have qi1226 : (1 < (rd_L6 t1219 x30_2).length) = True := eq_true (by omega)
                (try rw [show ((1 : Int)).toNat = 1 from rfl] at hx1226_0)
                replace p1226 := eq_true p1226; replace q1226 := eq_true q1226
                go_wp2_with (first | (go_at_call 53; (with_reducible refine (impl_within.calls (rd (rd_L6 t1219 x21_1) 0) (rd (rd_L6 t1219 x30_2) 0) (rd (rd_L6 t1219 x30_2) 1) true _ A20.out).mono ?_); rintro e w' ⟨rfl, ⟨nd, rfl⟩⟩; (try first | exact ⟨rfl, _, World.drewN_drewN _ _ _⟩ | exact ⟨rfl, _, Eq.trans (World.drewN_drewN _ _ _) (congrArg (World.drewN _) (Nat.add_assoc _ _ _))⟩)))
                repeat (go_quiet (first | (go_at_call 53; (with_reducible refine (impl_within.calls (rd (rd_L6 t1219 x21_1) 0) (rd (rd_L6 t1219 x30_2) 0) (rd (rd_L6 t1219 x30_2) 1) true _ A20.out).mono ?_); rintro e w' ⟨rfl, ⟨nd, rfl⟩⟩; (try first | exact ⟨rfl, _, World.drewN_drewN _ _ _⟩ | exact ⟨rfl, _, Eq.trans (World.drewN_drewN _ _ _) (congrArg (World.drewN _) (Nat.add_assoc _ _ _))⟩))); try go_wp2_with (first | (go_at_call 53; (with_reducible refine (impl_within.calls (rd (rd_L6 t1219 x21_1) 0) (rd (rd_L6 t1219 x30_2) 0) (rd (rd_L6 t1219 x30_2) 1) true _ A20.out).mono ?_); rintro e w' ⟨rfl, ⟨nd, rfl⟩⟩; (try first | exact ⟨rfl, _, World.drewN_drewN _ _ _⟩ | exact ⟨rfl, _, Eq.trans (World.drewN_drewN _ _ _) (congrArg (World.drewN _) (Nat.add_assoc _ _ _))⟩))))
                go_roundg k2
                case measure => have := HK1.out; have := HK2.out; omega
                case rel => exact ⟨(wrap64 (x11_2 + 1)), (wrap64 (x30_2 + 1)), Za, Za, H', ⟨Zce⟩, ⟨(Zcp HO_5)⟩, ⟨(Zcp HO_19)⟩, ⟨(Zcp HO_28)⟩, ⟨(Zh BK1217)⟩, ⟨(Zcs HR1222_0)⟩, ⟨(Zi GE1217)⟩⟩
               ·replace c21 := Bool.eq_false_iff.mpr c21
                subst c21; rw [if_neg (show ¬ (false = true) by decide)] at H; have H' := am_ H; clear H; have p1224 : 0 ≤ (x30_2 : Int) := of_decide_eq_true Zc; have q1224 : x30_2 < (t1219.length : Int) := of_decide_eq_true Zc; obtain ⟨ad1224, A1224_0, c1224_0, e1224, hx1224_0, hl1224_0, hi1224_0⟩ := at_L6 (Kd.S_reads' HO_28.out).2.2 x30_2 p1224 q1224; obtain rfl : ad1222 = ad1224 := (by injection e1224); obtain ⟨ce1224, hce1224, hMe1224, hcc1224⟩ := Kd.S_get HO_28.out [] x30_2 p1224 (by first | exact q1224 | exact of_decide_eq_true Zc | (have e_ := (Kd.S_reads' HO_28.out).1; omega)); obtain ⟨ve1224_0, rfl, ge1224_0⟩ := hMe1224; have hv1224_0 := hcc1224 0 _ rfl; rw [Nat.add_zero, show ((Kd.slice 2 (Kd.int .i64))).sz = 1 from rfl, Nat.mul_one] at hv1224_0; replace hv1224_0 := Option.some.inj (hv1224_0.symm.trans hx1224_0); rw [hv1224_0] at ge1224_0; have HL1224_0 := am_ (show Kd.R (Kd.int .i64) 2 _ _ _ _ (rd_L6 t1219 x30_2) from ge1224_0); clear hv1224_0 ge1224_0; clear hcc1224 hce1224; have HR1224_0 := am_ hi1224_0; have HC1224_0 := am_ hl1224_0; clear hi1224_0 hl1224_0; replace p1224 := eq_true p1224; replace q1224 := eq_true q1224; have p1225 : 0 ≤ (0 : Int) := (by omega); have q1225 : 0 < ((rd_L6 t1219 x30_2).length : Int) := of_decide_eq_true Zc; obtain ⟨ad1225, e1225, hx1225_0⟩ := Kd.at_int (Zcs HR1224_0) 0 p1225 q1225
                cases e1225
                have qi1225 : (0 < (rd_L6 t1219 x30_2).length) = True := eq_true (by omega)
                (try rw [show ((0 : Int)).toNat = 0 from rfl] at hx1225_0)
                (try rw [Addr.add_zero'] at hx1225_0)
                replace p1225 := eq_true p1225; replace q1225 := eq_true q1225; have p1226 : 0 ≤ (1 : Int) := (by omega); have q1226 : 1 < ((rd_L6 t1219 x30_2).length : Int) := of_decide_eq_true Zc; obtain ⟨ad1226, e1226, hx1226_0⟩ := Kd.at_int (Zcs HR1224_0) 1 p1226 q1226; obtain rfl : ad1225 = ad1226 := (by injection e1226)
                (try simp only [show (1 : Int).toNat = 1 from rfl, Nat.reduceMul, Nat.reduceEqDiff, Go.Addr.add, ↓reduceIte] at hx1226_0)
                have qi1226 : (1 < (rd_L6 t1219 x30_2).length) = True := eq_true (by omega)
                (try rw [show ((1 : Int)).toNat = 1 from rfl] at hx1226_0)
                replace p1226 := eq_true p1226; replace q1226 := eq_true q1226
                go_wp2_with (first | (go_at_call 53; (with_reducible refine (impl_within.calls (rd (rd_L6 t1219 x21_1) 0) (rd (rd_L6 t1219 x30_2) 0) (rd (rd_L6 t1219 x30_2) 1) false _ A20.out).mono ?_); rintro e w' ⟨rfl, ⟨nd, rfl⟩⟩; (try first | exact ⟨rfl, _, World.drewN_drewN _ _ _⟩ | exact ⟨rfl, _, Eq.trans (World.drewN_drewN _ _ _) (congrArg (World.drewN _) (Nat.add_assoc _ _ _))⟩)))
                repeat (go_quiet (first | (go_at_call 53; (with_reducible refine (impl_within.calls (rd (rd_L6 t1219 x21_1) 0) (rd (rd_L6 t1219 x30_2) 0) (rd (rd_L6 t1219 x30_2) 1) false _ A20.out).mono ?_); rintro e w' ⟨rfl, ⟨nd, rfl⟩⟩; (try first | exact ⟨rfl, _, World.drewN_drewN _ _ _⟩ | exact ⟨rfl, _, Eq.trans (World.drewN_drewN _ _ _) (congrArg (World.drewN _) (Nat.add_assoc _ _ _))⟩))); try go_wp2_with (first | (go_at_call 53; (with_reducible refine (impl_within.calls (rd (rd_L6 t1219 x21_1) 0) (rd (rd_L6 t1219 x30_2) 0) (rd (rd_L6 t1219 x30_2) 1) false _ A20.out).mono ?_); rintro e w' ⟨rfl, ⟨nd, rfl⟩⟩; (try first | exact ⟨rfl, _, World.drewN_drewN _ _ _⟩ | exact ⟨rfl, _, Eq.trans (World.drewN_drewN _ _ _) (congrArg (World.drewN _) (Nat.add_assoc _ _ _))⟩))))
                go_roundg k2
                case measure => have := HK1.out; have := HK2.out; omega
                case rel => exact ⟨(x11_2), (wrap64 (x30_2 + 1)), Za, Za, H', ⟨Zce⟩, ⟨(Zcp HO_5)⟩, ⟨(Zcp HO_19)⟩, ⟨(Zcp HO_28)⟩, ⟨(Zh BK1217)⟩, ⟨(Zcs HR1222_0)⟩, ⟨(Zi GE1217)⟩⟩
              ·rw [if_neg c19] at H
               exact absurd H (by simp)
             ·rw [if_neg c18] at H
              exact absurd H (by simp)
            ·rw [if_neg c17] at H
             exact absurd H (by simp)
           ·rw [if_neg c16] at H
            exact absurd H (by simp)
          ·rw [if_neg c15] at H
           have c15b0 := decide_eq_false c15; clear c15
           by_cases c22 : x11_2 > x7_1
           ·rw [if_pos c22] at H
            have c22b0 : decide (x7_1 < x11_2) = true := decide_eq_true c22; clear c22; have H' := am_ H; clear H
            go_wp2
            repeat (go_quiet (fail); try go_wp2)
            go_roundg k2
            case measure => have := HK1.out; have := HK2.out; omega
            case rel => exact ⟨((rd (rd_L6 t1219 x21_1) 0)), (x11_2), (wrap64 (x21_1 + 1)), Za, Za, Za, H', ⟨Zce⟩, ⟨(Zcp HO_5)⟩, ⟨(Zcp HO_19)⟩, ⟨(Zh BK1217)⟩, ⟨(Zi GE1217)⟩⟩
           ·rw [if_neg c22] at H
            have c22b0 : decide (x7_1 < x11_2) = false := decide_eq_false c22; clear c22
            by_cases c23 : x11_2 = x7_1
            ·rw [if_pos c23] at H
             have c23b0 := beq_iff_eq.mpr c23; have c23b1 := bne_eq_false_iff_eq.mpr c23; clear c23
             by_cases c24 : (rd (rd_L6 t1219 x21_1) 0) < x6_1
             ·rw [if_pos c24] at H
              have c24b0 := decide_eq_true c24; clear c24; have H' := am_ H; clear H
              go_wp2
              repeat (go_quiet (fail); try go_wp2)
              go_roundg k2
              case measure => have := HK1.out; have := HK2.out; omega
              case rel => exact ⟨((rd (rd_L6 t1219 x21_1) 0)), (x11_2), (wrap64 (x21_1 + 1)), Za, Za, Za, H', ⟨Zce⟩, ⟨(Zcp HO_5)⟩, ⟨(Zcp HO_19)⟩, ⟨(Zh BK1217)⟩, ⟨(Zi GE1217)⟩⟩
             ·rw [if_neg c24] at H
              have c24b0 := decide_eq_false c24; clear c24; have H' := am_ H; clear H
              go_wp2
              repeat (go_quiet (fail); try go_wp2)
              go_roundg k2
              case measure => have := HK1.out; have := HK2.out; omega
              case rel => exact ⟨(x6_1), (x7_1), (wrap64 (x21_1 + 1)), Za, Za, Za, H', ⟨Zce⟩, ⟨(Zcp HO_5)⟩, ⟨(Zcp HO_19)⟩, ⟨(Zh BK1217)⟩, ⟨(Zi GE1217)⟩⟩
            ·rw [if_neg c23] at H
             have c23b0 := beq_eq_false_iff_ne.mpr c23; have c23b1 := bne_iff_ne.mpr c23; have H' := am_ H; clear H
             go_wp2
             repeat (go_quiet (fail); try go_wp2)
             go_roundg k2
             case measure => have := HK1.out; have := HK2.out; omega
             case rel => exact ⟨(x6_1), (x7_1), (wrap64 (x21_1 + 1)), Za, Za, Za, H', ⟨Zce⟩, ⟨(Zcp HO_5)⟩, ⟨(Zcp HO_19)⟩, ⟨(Zh BK1217)⟩, ⟨(Zi GE1217)⟩⟩
       ·rw [if_neg c14] at H
        exact absurd H (by simp)
      ·rw [if_neg c13] at H
       exact absurd H (by simp)
     ·rw [if_neg c12] at H
      exact absurd H (by simp)
    ·rw [if_neg c11] at H
     have c11b0 := decide_eq_false c11; clear c11; simp only [Option.some.injEq, Prod.mk.injEq] at H; obtain ⟨rfl, rfl, rfl⟩ := H
     go_wp2
     repeat (go_quiet (fail); try go_wp2)
     go_ret3
     exact ⟨Zl, (Zi GE1217)⟩
 ·replace c3 := Bool.eq_false_iff.mpr c3
  subst c3; rw [if_neg (show ¬ (false = true) by decide)] at H; simp only [Option.some.injEq, Prod.mk.injEq] at H; obtain ⟨rfl, rfl, rfl⟩ := H
  go_enter Try.func37, Try.ntmps37
  go_wp2_with (first | ((with_reducible refine gate_dst (N := 1) rfl ?_); refine boxZ 1 #[.slice A0_0 l0_0.length c0_0, .slice A0_1 l0_1.length c0_1, .slice A0_2 l0_2.length c0_2] 28 ?_; intro gb1217 hg w25 hbox hb; replace BK1217 := am_ (hbox); replace GW1217 := am_ ((Zr : w.heap.size ≤ gb1217)); replace GE1217 := GW1217; replace HB := (bsZ Zf hb); clear hb hbox hg; obtain ⟨hcz26_0, hcz26_1, hcz26_2, hfz26_0, hfz26_1, hfz26_2⟩ := cz3 BK1217) | (go_at_call 25; (with_reducible refine (impl_IsShow.calls k _ _ l0_0 _ _ l0_1 _ _ l0_2 false _ ?_ ?_ ?_ ?_ ?_ ?_ A2.out).mono ?_); exact (Zu HR0_0); exact HC0_0.out; exact (Zu HR0_1); exact HC0_1.out; exact (Zu HR0_2); exact HC0_2.out; rintro e w27 ⟨rfl, hb⟩; replace BK1217 := (bkZ BK1217 hb); replace HB := (bsZ (Zi GE1217) hb); clear hb))
  repeat (go_quiet (first | ((with_reducible refine gate_dst (N := 1) rfl ?_); refine boxZ 1 #[.slice A0_0 l0_0.length c0_0, .slice A0_1 l0_1.length c0_1, .slice A0_2 l0_2.length c0_2] 28 ?_; intro gb1217 hg w25 hbox hb; replace BK1217 := am_ (hbox); replace GW1217 := am_ ((Zr : w.heap.size ≤ gb1217)); replace GE1217 := GW1217; replace HB := (bsZ Zf hb); clear hb hbox hg; obtain ⟨hcz26_0, hcz26_1, hcz26_2, hfz26_0, hfz26_1, hfz26_2⟩ := cz3 BK1217) | (go_at_call 25; (with_reducible refine (impl_IsShow.calls k _ _ l0_0 _ _ l0_1 _ _ l0_2 false _ ?_ ?_ ?_ ?_ ?_ ?_ A2.out).mono ?_); exact (Zu HR0_0); exact HC0_0.out; exact (Zu HR0_1); exact HC0_1.out; exact (Zu HR0_2); exact HC0_2.out; rintro e w27 ⟨rfl, hb⟩; replace BK1217 := (bkZ BK1217 hb); replace HB := (bsZ (Zi GE1217) hb); clear hb)); try go_wp2_with (first | ((with_reducible refine gate_dst (N := 1) rfl ?_); refine boxZ 1 #[.slice A0_0 l0_0.length c0_0, .slice A0_1 l0_1.length c0_1, .slice A0_2 l0_2.length c0_2] 28 ?_; intro gb1217 hg w25 hbox hb; replace BK1217 := am_ (hbox); replace GW1217 := am_ ((Zr : w.heap.size ≤ gb1217)); replace GE1217 := GW1217; replace HB := (bsZ Zf hb); clear hb hbox hg; obtain ⟨hcz26_0, hcz26_1, hcz26_2, hfz26_0, hfz26_1, hfz26_2⟩ := cz3 BK1217) | (go_at_call 25; (with_reducible refine (impl_IsShow.calls k _ _ l0_0 _ _ l0_1 _ _ l0_2 false _ ?_ ?_ ?_ ?_ ?_ ?_ A2.out).mono ?_); exact (Zu HR0_0); exact HC0_0.out; exact (Zu HR0_1); exact HC0_1.out; exact (Zu HR0_2); exact HC0_2.out; rintro e w27 ⟨rfl, hb⟩; replace BK1217 := (bkZ BK1217 hb); replace HB := (bsZ (Zi GE1217) hb); clear hb)))
  go_ret3
  exact ⟨Zl, (Zi GE1217)⟩
def spec_l03Window.f (a0_0 : ByteArray) (a0_1 : Int) (a0_2 : Int) (a0_3 : Int) (a0_4 : Int) (a0_5 : Int) (a0_6 : Int) (a0_7 : Int) (a0_8 : Int) (a1 : Int) (a2 : Int) : Option (List Int) := some (([wrap64 ((wrap64 ((wrap64 (a1 + a0_3)) + (wrap64 (a2 * a0_6)))) - a0_4), wrap64 ((wrap64 ((wrap64 (a1 + a0_3)) + (wrap64 (a2 * a0_6)))) + a0_4)] : List Int))
set_option maxHeartbeats 8000000 in
set_option maxRecDepth 100000 in
theorem spec_l03Window.calls (a0_0 : ByteArray) (a0_1 : Int) (a0_2 : Int) (a0_3 : Int) (a0_4 : Int) (a0_5 : Int) (a0_6 : Int) (a0_7 : Int) (a0_8 : Int) (a1 : Int) (a2 : Int) (r : List Int) (w : World) (h : spec_l03Window.f a0_0 a0_1 a0_2 a0_3 a0_4 a0_5 a0_6 a0_7 a0_8 a1 a2 = some r) :
  Calls Try.prog 93 #[.agg #[.string a0_0, .int .i64 a0_1, .int .i64 a0_2, .int .i64 a0_3, .int .i64 a0_4, .int .i64 a0_5, .int .i64 a0_6, .int .i64 a0_7, .int .i64 a0_8], .int .i64 a1, .int .i64 a2] w fun e w' => ∃ v0_ : Value, e = .returned (v0_) ∧ Kd.R (Kd.int .i64) 2 w' w.heap.size (fun _ => True) v0_ r ∧ Below w.heap.size w w' := by
 have hu62 := Try.underlying62; have HB := am_ (Below.refl w.heap.size w); have H : (some (([wrap64 ((wrap64 ((wrap64 (a1 + a0_3)) + (wrap64 (a2 * a0_6)))) - a0_4), wrap64 ((wrap64 ((wrap64 (a1 + a0_3)) + (wrap64 (a2 * a0_6)))) + a0_4)] : List Int))) = some r := h; clear h; obtain ⟨y1049, hy1049⟩ : ∃ y_ : List Int, y_ = (([wrap64 ((wrap64 ((wrap64 (a1 + a0_3)) + (wrap64 (a2 * a0_6)))) - a0_4), wrap64 ((wrap64 ((wrap64 (a1 + a0_3)) + (wrap64 (a2 * a0_6)))) + a0_4)] : List Int)) := ⟨_, rfl⟩
 (first | (rw [← hy1049] at H; with_reducible replace H := bindZ H) | rw [← hy1049] at H | skip)
 have Ny1049 := am_ hy1049; clear hy1049; obtain rfl := Option.some.inj H
 go_enter Try.func93, Try.ntmps93
 go_wp2_with (first | ((with_reducible refine gate_dst (N := 3) rfl ?_); refine boxZ 3 #[.string a0_0, .int .i64 a0_1, .int .i64 a0_2, .int .i64 a0_3, .int .i64 a0_4, .int .i64 a0_5, .int .i64 a0_6, .int .i64 a0_7, .int .i64 a0_8] 62 ?_; intro gb1048 hg w4 hbox hb; replace BK1048 := am_ (hbox); replace GW1048 := am_ ((Zr : w.heap.size ≤ gb1048)); replace GE1048 := GW1048; replace HB := (bsZ Zf hb); clear hb hbox hg; refine ci9 BK1048 ?_; intros) | ((with_reducible refine gate_dst (N := 25) rfl ?_); refine Kd.R_lit (Kd.int .i64) _ 2 ?hg (N := 25) ?hd (xs := ([wrap64 ((wrap64 ((wrap64 (a1 + a0_3)) + (wrap64 (a2 * a0_6)))) - a0_4), wrap64 ((wrap64 ((wrap64 (a1 + a0_3)) + (wrap64 (a2 * a0_6)))) + a0_4)] : List Int)) (inner := [.int .i64 (wrap64 ((wrap64 ((wrap64 (a1 + a0_3)) + (wrap64 (a2 * a0_6)))) - a0_4)), .int .i64 (wrap64 ((wrap64 ((wrap64 (a1 + a0_3)) + (wrap64 (a2 * a0_6)))) + a0_4))]) (ok := fun _ => True) (okp := fun _ => True) ?hr ?hp (fun _ hk => hk) trivial (Below.refl _ _) (Nat.le_refl _) (by simp) ?_; (case hd => rfl); (case hg => rfl); (case hr => first | (go_simp; done) | (go_simp; rfl)); (case hp => exact (Reps.one (show Kd.M (Kd.int .i64) _ _ _ (wrap64 ((wrap64 ((wrap64 (a1 + a0_3)) + (wrap64 (a2 * a0_6)))) - a0_4)) [.int .i64 (wrap64 ((wrap64 ((wrap64 (a1 + a0_3)) + (wrap64 (a2 * a0_6)))) - a0_4))] from rfl) (Reps.one (show Kd.M (Kd.int .i64) _ _ _ (wrap64 ((wrap64 ((wrap64 (a1 + a0_3)) + (wrap64 (a2 * a0_6)))) + a0_4)) [.int .i64 (wrap64 ((wrap64 ((wrap64 (a1 + a0_3)) + (wrap64 (a2 * a0_6)))) + a0_4))] from rfl) (Reps.none _ _)))); intro v1050 w6 ho7 hb hg_ hnew_; clear hg_ hnew_; (first | rw [← Ny1049.out] at ho7 | (simp only [Int.reduceToNat] at ho7; rw [← Ny1049.out] at ho7)); replace HO1051 := am_ (Kd.R_lower ho7 (below_size (Zi GE1048))); replace BK1048 := (bkZ BK1048 hb); replace HB := (bsZ (Zi GE1048) hb); clear hb ho7))
 go_ret
 exact ⟨_, Zl, (Zaa HO1051), (Zi GE1048)⟩
def spec_l09Cue.l0 : Nat → Int → List (List Int) → Int → List (S104) → List (S62) → List (S39) → Int → Int → ByteArray → Int → ByteArray → Int → Int → Int → Int → Int → Int → Int → Int → Option ((List (List Int)))
 | 0, _, _, _, _, _, _, _, _, _, _, _, _, _, _, _, _, _, _, _ => none
 | k + 1, x1, x7, x8, x1053000, x1053001, x1053002, x1055000, x1055001, x1055002, x1055003, x1058000, x1058001, x1058002, x1058003, x1058004, x1058005, x1058006, x1058007, x1058008 => if x8 < x1058005 then ((spec_l08Time.f k x1053000 x1053001 x1053002 x1055000 x1055001 x1055002 x1055003).bind fun t1061 => ((spec_l03Window.f x1058000 x1058001 x1058002 x1058003 x1058004 x1058005 x1058006 x1058007 x1058008 t1061 x8).bind fun t1062 => (if 0 < (t1062.length : Int) then (if 1 < (t1062.length : Int) then (if x7.length < 5864062014805 then (spec_l09Cue.l0 k x1 (x7 ++ [(([rd t1062 0, rd t1062 1, x1] : List Int))]) (wrap64 (x8 + 1)) x1053000 x1053001 x1053002 x1055000 x1055001 x1055002 x1055003 x1058000 x1058001 x1058002 x1058003 x1058004 x1058005 x1058006 x1058007 x1058008) else (none)) else (none)) else (none)))) else (some x7)
def spec_l09Cue.f (k : Nat) (l0_0 : List (S104)) (l0_1 : List (S62)) (l0_2 : List (S39)) (a1 : Int) : Option ((List (List Int))) := if 0 ≤ a1 then (if a1 < (l0_2.length : Int) then ((spec_l03Find.f k l0_1 ((rd_T39 l0_2 a1).f2)).bind fun t1055 => (if 0 ≤ t1055 then (if t1055 < (l0_1.length : Int) then (spec_l09Cue.l0 k a1 (([] : List (List Int))) 0 l0_0 l0_1 l0_2 ((rd_T39 l0_2 a1).f0) ((rd_T39 l0_2 a1).f1) ((rd_T39 l0_2 a1).f2) ((rd_T39 l0_2 a1).f3) ((rd_T62 l0_1 t1055).f0) ((rd_T62 l0_1 t1055).f1) ((rd_T62 l0_1 t1055).f2) ((rd_T62 l0_1 t1055).f3) ((rd_T62 l0_1 t1055).f4) ((rd_T62 l0_1 t1055).f5) ((rd_T62 l0_1 t1055).f6) ((rd_T62 l0_1 t1055).f7) ((rd_T62 l0_1 t1055).f8)) else (none)) else (none))) else (none)) else (none)
def spec_l09Cue.T2 : Bool × List (List Nat × List Nat) := (true, [([], []), ([0], [0]), ([], []), ([2], [2]), ([], []), ([4], [4]), ([3, 5], [3, 5]), ([1, 6], [1, 6]), ([7], [7]), ([], []), ([9, 8, 6, 0, 1, 2, 3, 4, 5, 6, 7, 8, 9], [8, 9])])
def spec_l09Cue.B2 : List Nat := [0, 1, 0, 4, 0, 16, 60, 127, 255, 0, 1023]
theorem spec_l09Cue.tab2 : rtab .any (opsOf Try.f76 2) = spec_l09Cue.T2 := by kernel_rfl
theorem spec_l09Cue.bits2 : waitsOk spec_l09Cue.T2.2 spec_l09Cue.B2 = true := by kernel_rfl
def spec_l09Cue.T8 : Bool × List (List Nat × List Nat) := (true, [([], []), ([], []), ([1], [1]), ([2], [2]), ([], []), ([4], [4]), ([5], [5]), ([], []), ([3, 6, 7], [3, 6, 7]), ([8], [8]), ([0, 9], [0, 9]), ([10, 10, 0, 1, 2, 3, 4, 5, 6, 7, 8, 9, 10], [0, 10])])
def spec_l09Cue.B8 : List Nat := [0, 0, 2, 6, 0, 16, 48, 0, 254, 510, 1023, 2047]
theorem spec_l09Cue.tab8 : rtab .any (opsOf Try.f76 8) = spec_l09Cue.T8 := by kernel_rfl
theorem spec_l09Cue.bits8 : waitsOk spec_l09Cue.T8.2 spec_l09Cue.B8 = true := by kernel_rfl
set_option maxHeartbeats 8000000 in
set_option maxRecDepth 100000 in
theorem spec_l09Cue.calls (k : Nat) (A0_0 : Option Addr) (c0_0 : Nat) (l0_0 : List (S104)) (A0_1 : Option Addr) (c0_1 : Nat) (l0_1 : List (S62)) (A0_2 : Option Addr) (c0_2 : Nat) (l0_2 : List (S39)) (a1 : Int) (r : List (List Int)) (w : World) (hr0_0 : Kd.C k104 w A0_0 l0_0.length l0_0) (hc0_0 : l0_0.length ≤ c0_0) (hr0_1 : Kd.C k62 w A0_1 l0_1.length l0_1) (hc0_1 : l0_1.length ≤ c0_1) (hr0_2 : Kd.C k39 w A0_2 l0_2.length l0_2) (hc0_2 : l0_2.length ≤ c0_2) (h : spec_l09Cue.f k l0_0 l0_1 l0_2 a1 = some r) :
  Calls Try.prog 76 #[.agg #[.slice A0_0 l0_0.length c0_0, .slice A0_1 l0_1.length c0_1, .slice A0_2 l0_2.length c0_2], .int .i64 a1] w fun e w' => ∃ v0_ : Value, e = .returned (v0_) ∧ Kd.S (Kd.slice 2 (Kd.int .i64)) 33 w' w.heap.size (fun _ => True) v0_ r ∧ Below w.heap.size w w' := by
 have hu28 := Try.underlying28; have hu39 := Try.underlying39; have hu62 := Try.underlying62; have HR0_0 := am_ hr0_0; have HC0_0 := am_ hc0_0; clear hr0_0 hc0_0; have HR0_1 := am_ hr0_1; have HC0_1 := am_ hc0_1; clear hr0_1 hc0_1; have HR0_2 := am_ hr0_2; have HC0_2 := am_ hc0_2; clear hr0_2 hc0_2; have HB := am_ (Below.refl w.heap.size w); have H : (if 0 ≤ a1 then (if a1 < (l0_2.length : Int) then ((spec_l03Find.f k l0_1 ((rd_T39 l0_2 a1).f2)).bind fun t1055 => (if 0 ≤ t1055 then (if t1055 < (l0_1.length : Int) then (spec_l09Cue.l0 k a1 (([] : List (List Int))) 0 l0_0 l0_1 l0_2 ((rd_T39 l0_2 a1).f0) ((rd_T39 l0_2 a1).f1) ((rd_T39 l0_2 a1).f2) ((rd_T39 l0_2 a1).f3) ((rd_T62 l0_1 t1055).f0) ((rd_T62 l0_1 t1055).f1) ((rd_T62 l0_1 t1055).f2) ((rd_T62 l0_1 t1055).f3) ((rd_T62 l0_1 t1055).f4) ((rd_T62 l0_1 t1055).f5) ((rd_T62 l0_1 t1055).f6) ((rd_T62 l0_1 t1055).f7) ((rd_T62 l0_1 t1055).f8)) else (none)) else (none))) else (none)) else (none)) = some r := h; clear h
 by_cases c3 : 0 ≤ a1
 ·rw [if_pos c3] at H
  have c3b0 := decide_eq_true c3; clear c3
  by_cases c4 : a1 < (l0_2.length : Int)
  ·rw [if_pos c4] at H
   have c4b0 := decide_eq_true c4; clear c4; replace H := Option.bind_eq_some_iff.mp H; obtain ⟨t1055, A50, H⟩ := H; have A5 := am_ A50; clear A50
   by_cases c6 : 0 ≤ t1055
   ·rw [if_pos c6] at H
    have c6b0 := decide_eq_true c6; clear c6
    by_cases c7 : t1055 < (l0_1.length : Int)
    ·rw [if_pos c7] at H
     have c7b0 := decide_eq_true c7; clear c7; obtain ⟨y1058, hy1058⟩ : ∃ y_ : List (List Int), y_ = (([] : List (List Int))) := ⟨_, rfl⟩
     replace H : (spec_l09Cue.l0 k a1 y1058 0 l0_0 l0_1 l0_2 ((rd_T39 l0_2 a1).f0) ((rd_T39 l0_2 a1).f1) ((rd_T39 l0_2 a1).f2) ((rd_T39 l0_2 a1).f3) ((rd_T62 l0_1 t1055).f0) ((rd_T62 l0_1 t1055).f1) ((rd_T62 l0_1 t1055).f2) ((rd_T62 l0_1 t1055).f3) ((rd_T62 l0_1 t1055).f4) ((rd_T62 l0_1 t1055).f5) ((rd_T62 l0_1 t1055).f6) ((rd_T62 l0_1 t1055).f7) ((rd_T62 l0_1 t1055).f8)) = some r := by (try rw [hy1058]); first | with_reducible exact H | with_reducible exact (Option.bind_some _ _).symm.trans H | exact H
     have Ny1058 := am_ hy1058; clear hy1058; have H' := am_ H; clear H
     go_enter Try.func76, Try.ntmps76
     try go_wp2_with (first | ((with_reducible refine gate_dst (N := 2) rfl ?_); refine boxZ 2 #[.slice A0_0 l0_0.length c0_0, .slice A0_1 l0_1.length c0_1, .slice A0_2 l0_2.length c0_2] 28 ?_; intro gb1052 hg w8 hbox hb; replace BK1052 := am_ (hbox); replace GW1052 := am_ ((Zr : w.heap.size ≤ gb1052)); replace GE1052 := GW1052; replace HB := (bsZ Zf hb); clear hb hbox hg; refine ci3 BK1052 ?_; intros; have p1053 : 0 ≤ (a1 : Int) := of_decide_eq_true Zc; have q1053 : a1 < (l0_2.length : Int) := of_decide_eq_true Zc; obtain ⟨ad1053, e1053, hx1053_0, hx1053_1, hx1053_2, hx1053_3⟩ := at_T39 HR0_2.out a1 p1053 q1053; cases e1053; replace hx1053_0 := cbH HB hx1053_0; replace hx1053_1 := cbH HB hx1053_1; replace hx1053_2 := cbH HB hx1053_2; replace hx1053_3 := cbH HB hx1053_3; replace p1053 := eq_true p1053; replace q1053 := eq_true q1053) | ((with_reducible refine gate_dst (N := 5) rfl ?_); refine boxZ 5 #[.int .i64 0, .int .i64 0, .string (⟨#[]⟩ : ByteArray), .int .i64 0] 39 ?_; intro gb1054 hg w10 hbox hb; replace BK1054 := am_ (hbox); replace GW1054 := am_ (((Zt GE1052) : w.heap.size ≤ gb1054)); replace GE1054 := GW1054; replace HB := (bsZ (Zi GE1052) hb); replace NB1052_1054 := am_ ((by rw [hg]; exact Nat.ne_of_lt (blk_lt (g := gb1052) (b0Z BK1052)) : gb1052 ≠ gb1054)); replace NB1054_1052 := am_ ((by rw [hg]; exact Nat.ne_of_gt (blk_lt (g := gb1052) (b0Z BK1052)) : gb1054 ≠ gb1052)); replace BK1052 := (bkZ BK1052 hb); clear hb hbox hg; have hnb11 := NB1054_1052.out; have hnc11 := NB1052_1054.out; refine ci4 BK1054 ?_; intros))
     have n0_ : Aside0 (((((w10.setCell ⟨gb1054, 0, none⟩ (.int .i64 ((rd_T39 l0_2 a1).f0))).setCell ⟨gb1054, 1, none⟩ (.int .i64 ((rd_T39 l0_2 a1).f1))).setCell ⟨gb1054, 2, none⟩ (.string ((rd_T39 l0_2 a1).f2))).setCell ⟨gb1054, 3, none⟩ (.int .i64 ((rd_T39 l0_2 a1).f3))).heap[gb1052]? = some (.cells #[.slice A0_0 l0_0.length c0_0, .slice A0_1 l0_1.length c0_1, .slice (some ad1053) l0_2.length c0_2] 28 (0, 0))) := ⟨by refine blk_far ?_ NB1052_1054.out _; refine blk_far ?_ NB1052_1054.out _; refine blk_far ?_ NB1052_1054.out _; refine blk_far ?_ NB1052_1054.out _; exact BK1052.out⟩; have n1_ : Aside0 (((((w10.setCell ⟨gb1054, 0, none⟩ (.int .i64 ((rd_T39 l0_2 a1).f0))).setCell ⟨gb1054, 1, none⟩ (.int .i64 ((rd_T39 l0_2 a1).f1))).setCell ⟨gb1054, 2, none⟩ (.string ((rd_T39 l0_2 a1).f2))).setCell ⟨gb1054, 3, none⟩ (.int .i64 ((rd_T39 l0_2 a1).f3))).heap[gb1054]? = some (.cells #[.int .i64 ((rd_T39 l0_2 a1).f0), .int .i64 ((rd_T39 l0_2 a1).f1), .string ((rd_T39 l0_2 a1).f2), .int .i64 ((rd_T39 l0_2 a1).f3)] 39 (0, 0))) := ⟨by refine blk_put (cs := #[.int .i64 ((rd_T39 l0_2 a1).f0), .int .i64 ((rd_T39 l0_2 a1).f1), .string ((rd_T39 l0_2 a1).f2), .int .i64 0]) ?_ 3 _ rfl; refine blk_put (cs := #[.int .i64 ((rd_T39 l0_2 a1).f0), .int .i64 ((rd_T39 l0_2 a1).f1), .string (⟨#[]⟩ : ByteArray), .int .i64 0]) ?_ 2 _ rfl; refine blk_put (cs := #[.int .i64 ((rd_T39 l0_2 a1).f0), .int .i64 0, .string (⟨#[]⟩ : ByteArray), .int .i64 0]) ?_ 1 _ rfl; refine blk_put (cs := #[.int .i64 0, .int .i64 0, .string (⟨#[]⟩ : ByteArray), .int .i64 0]) ?_ 0 _ rfl; exact BK1054.out⟩; have n2_ : Aside0 (Below w.heap.size w ((((w10.setCell ⟨gb1054, 0, none⟩ (.int .i64 ((rd_T39 l0_2 a1).f0))).setCell ⟨gb1054, 1, none⟩ (.int .i64 ((rd_T39 l0_2 a1).f1))).setCell ⟨gb1054, 2, none⟩ (.string ((rd_T39 l0_2 a1).f2))).setCell ⟨gb1054, 3, none⟩ (.int .i64 ((rd_T39 l0_2 a1).f3)))) := ⟨(Zw GE1052 GE1054)⟩
     (try clear BK1052)
     (try clear BK1054)
     (try clear HB)
     generalize ((((w10.setCell ⟨gb1054, 0, none⟩ (.int .i64 ((rd_T39 l0_2 a1).f0))).setCell ⟨gb1054, 1, none⟩ (.int .i64 ((rd_T39 l0_2 a1).f1))).setCell ⟨gb1054, 2, none⟩ (.string ((rd_T39 l0_2 a1).f2))).setCell ⟨gb1054, 3, none⟩ (.int .i64 ((rd_T39 l0_2 a1).f3))) = w13 at n0_ n1_ n2_ ⊢; have BK1052 := n0_; have BK1054 := n1_; have HB := n2_; clear n0_ n1_ n2_; replace BK1052 := am_ (blk_drew BK1052.out); replace BK1054 := am_ (blk_drew BK1054.out); replace HB := am_ (below_drew1 HB.out); have p1056 : 0 ≤ (t1055 : Int) := of_decide_eq_true Zc; have q1056 : t1055 < (l0_1.length : Int) := of_decide_eq_true Zc; obtain ⟨ad1056, e1056, hx1056_0, hx1056_1, hx1056_2, hx1056_3, hx1056_4, hx1056_5, hx1056_6, hx1056_7, hx1056_8⟩ := at_T62 HR0_1.out t1055 p1056 q1056; have hw1056_8 := hx1056_8; have hw1056_7 := hx1056_7; have hw1056_6 := hx1056_6; have hw1056_5 := hx1056_5; have hw1056_4 := hx1056_4; have hw1056_3 := hx1056_3; have hw1056_2 := hx1056_2; have hw1056_1 := hx1056_1; have hw1056_0 := hx1056_0
     cases e1056
     replace hx1056_0 := cbH HB hx1056_0; replace hx1056_1 := cbH HB hx1056_1; replace hx1056_2 := cbH HB hx1056_2; replace hx1056_3 := cbH HB hx1056_3; replace hx1056_4 := cbH HB hx1056_4; replace hx1056_5 := cbH HB hx1056_5; replace hx1056_6 := cbH HB hx1056_6; replace hx1056_7 := cbH HB hx1056_7; replace hx1056_8 := cbH HB hx1056_8; replace p1056 := eq_true p1056; replace q1056 := eq_true q1056; refine start_ (n := 11) (S := fun w' => w'.cell? ⟨gb1052, 0, none⟩ = some (.slice A0_0 l0_0.length c0_0) ∧ w'.cell? ⟨gb1052, 1, none⟩ = some (.slice (some ad1056) l0_1.length c0_1) ∧ w'.cell? ⟨gb1052, 2, none⟩ = some (.slice (some ad1053) l0_2.length c0_2) ∧ w'.cell? ⟨gb1054, 0, none⟩ = some (.int .i64 ((rd_T39 l0_2 a1).f0)) ∧ w'.cell? ⟨gb1054, 1, none⟩ = some (.int .i64 ((rd_T39 l0_2 a1).f1)) ∧ w'.cell? ⟨gb1054, 2, none⟩ = some (.string ((rd_T39 l0_2 a1).f2)) ∧ w'.cell? ⟨gb1054, 3, none⟩ = some (.int .i64 ((rd_T39 l0_2 a1).f3)) ∧ w'.cell? (ad1056.add ((t1055).toNat * 9)) = some (.string ((rd_T62 l0_1 t1055).f0)) ∧ w'.cell? ⟨(ad1056.add ((t1055).toNat * 9)).block, (ad1056.add ((t1055).toNat * 9)).off + 1, none⟩ = some (.int .i64 ((rd_T62 l0_1 t1055).f1)) ∧ w'.cell? ⟨(ad1056.add ((t1055).toNat * 9)).block, (ad1056.add ((t1055).toNat * 9)).off + 2, none⟩ = some (.int .i64 ((rd_T62 l0_1 t1055).f2)) ∧ w'.cell? ⟨(ad1056.add ((t1055).toNat * 9)).block, (ad1056.add ((t1055).toNat * 9)).off + 3, none⟩ = some (.int .i64 ((rd_T62 l0_1 t1055).f3)) ∧ w'.cell? ⟨(ad1056.add ((t1055).toNat * 9)).block, (ad1056.add ((t1055).toNat * 9)).off + 4, none⟩ = some (.int .i64 ((rd_T62 l0_1 t1055).f4)) ∧ w'.cell? ⟨(ad1056.add ((t1055).toNat * 9)).block, (ad1056.add ((t1055).toNat * 9)).off + 5, none⟩ = some (.int .i64 ((rd_T62 l0_1 t1055).f5)) ∧ w'.cell? ⟨(ad1056.add ((t1055).toNat * 9)).block, (ad1056.add ((t1055).toNat * 9)).off + 6, none⟩ = some (.int .i64 ((rd_T62 l0_1 t1055).f6)) ∧ w'.cell? ⟨(ad1056.add ((t1055).toNat * 9)).block, (ad1056.add ((t1055).toNat * 9)).off + 7, none⟩ = some (.int .i64 ((rd_T62 l0_1 t1055).f7)) ∧ w'.cell? ⟨(ad1056.add ((t1055).toNat * 9)).block, (ad1056.add ((t1055).toNat * 9)).off + 8, none⟩ = some (.int .i64 ((rd_T62 l0_1 t1055).f8))) (ds := []) (bT 11 0) Zk rfl rfl ⟨(blk_cell BK1052.out 0).trans rfl, (blk_cell BK1052.out 1).trans rfl, (blk_cell BK1052.out 2).trans rfl, (blk_cell BK1054.out 0).trans rfl, (blk_cell BK1054.out 1).trans rfl, (blk_cell BK1054.out 2).trans rfl, (blk_cell BK1054.out 3).trans rfl, (cbH HB hw1056_0 :), (cbH HB hw1056_1 :), (cbH HB hw1056_2 :), (cbH HB hw1056_3 :), (cbH HB hw1056_4 :), (cbH HB hw1056_5 :), (cbH HB hw1056_6 :), (cbH HB hw1056_7 :), (cbH HB hw1056_8 :)⟩ (fun hHeld => ?_); refine with_tabW spec_l09Cue.tab2 spec_l09Cue.bits2 (fun HT_ HW_ => ?_); generalize w13.drew = w14 at BK1052 BK1054 HB hx1056_0 hx1056_1 hx1056_2 hx1056_3 hx1056_4 hx1056_5 hx1056_6 hx1056_7 hx1056_8 hHeld ⊢; refine pureZ HT_ 0 (some 15) (bT 11 1) ?_; refine pureZ HT_ 2 (some 17) (bB 11 5) ?_; refine pureZ HT_ 4 (some 19) (bB 11 21) ?_; refine takeZ16 HT_ HW_ 1 (some 16) (bB 11 23) hHeld ?_
     refine takeZ16 HT_ HW_ 3 (some 18) (bT 11 5) hHeld ?_; refine takeZ16 HT_ HW_ 5 (some 20) (bT 11 6) hHeld ?_; refine join_ (σ := Nat) 1 (bT 11 10) (fun s_ => [(21, .int .i64 t1055), (6, .pointer (some ⟨s_, 0, none⟩)), (22, .pointer (some (ad1056.add ((t1055).toNat * 9)))), (23, .agg #[.string ((rd_T62 l0_1 t1055).f0), .int .i64 ((rd_T62 l0_1 t1055).f1), .int .i64 ((rd_T62 l0_1 t1055).f2), .int .i64 ((rd_T62 l0_1 t1055).f3), .int .i64 ((rd_T62 l0_1 t1055).f4), .int .i64 ((rd_T62 l0_1 t1055).f5), .int .i64 ((rd_T62 l0_1 t1055).f6), .int .i64 ((rd_T62 l0_1 t1055).f7), .int .i64 ((rd_T62 l0_1 t1055).f8)])]) (fun s_ w' => (w'.cell? ⟨gb1052, 0, none⟩ = some (.slice A0_0 l0_0.length c0_0) ∧ w'.cell? ⟨gb1052, 1, none⟩ = some (.slice (some ad1056) l0_1.length c0_1) ∧ w'.cell? ⟨gb1052, 2, none⟩ = some (.slice (some ad1053) l0_2.length c0_2) ∧ w'.cell? ⟨gb1054, 0, none⟩ = some (.int .i64 ((rd_T39 l0_2 a1).f0)) ∧ w'.cell? ⟨gb1054, 1, none⟩ = some (.int .i64 ((rd_T39 l0_2 a1).f1)) ∧ w'.cell? ⟨gb1054, 2, none⟩ = some (.string ((rd_T39 l0_2 a1).f2)) ∧ w'.cell? ⟨gb1054, 3, none⟩ = some (.int .i64 ((rd_T39 l0_2 a1).f3)) ∧ w'.cell? (ad1056.add ((t1055).toNat * 9)) = some (.string ((rd_T62 l0_1 t1055).f0)) ∧ w'.cell? ⟨(ad1056.add ((t1055).toNat * 9)).block, (ad1056.add ((t1055).toNat * 9)).off + 1, none⟩ = some (.int .i64 ((rd_T62 l0_1 t1055).f1)) ∧ w'.cell? ⟨(ad1056.add ((t1055).toNat * 9)).block, (ad1056.add ((t1055).toNat * 9)).off + 2, none⟩ = some (.int .i64 ((rd_T62 l0_1 t1055).f2)) ∧ w'.cell? ⟨(ad1056.add ((t1055).toNat * 9)).block, (ad1056.add ((t1055).toNat * 9)).off + 3, none⟩ = some (.int .i64 ((rd_T62 l0_1 t1055).f3)) ∧ w'.cell? ⟨(ad1056.add ((t1055).toNat * 9)).block, (ad1056.add ((t1055).toNat * 9)).off + 4, none⟩ = some (.int .i64 ((rd_T62 l0_1 t1055).f4)) ∧ w'.cell? ⟨(ad1056.add ((t1055).toNat * 9)).block, (ad1056.add ((t1055).toNat * 9)).off + 5, none⟩ = some (.int .i64 ((rd_T62 l0_1 t1055).f5)) ∧ w'.cell? ⟨(ad1056.add ((t1055).toNat * 9)).block, (ad1056.add ((t1055).toNat * 9)).off + 6, none⟩ = some (.int .i64 ((rd_T62 l0_1 t1055).f6)) ∧ w'.cell? ⟨(ad1056.add ((t1055).toNat * 9)).block, (ad1056.add ((t1055).toNat * 9)).off + 7, none⟩ = some (.int .i64 ((rd_T62 l0_1 t1055).f7)) ∧ w'.cell? ⟨(ad1056.add ((t1055).toNat * 9)).block, (ad1056.add ((t1055).toNat * 9)).off + 8, none⟩ = some (.int .i64 ((rd_T62 l0_1 t1055).f8))) ∧ (w'.heap[gb1052]? = some (.cells #[.slice A0_0 l0_0.length c0_0, .slice (some ad1056) l0_1.length c0_1, .slice (some ad1053) l0_2.length c0_2] 28 (0, 0))) ∧ (w'.heap[gb1054]? = some (.cells #[.int .i64 ((rd_T39 l0_2 a1).f0), .int .i64 ((rd_T39 l0_2 a1).f1), .string ((rd_T39 l0_2 a1).f2), .int .i64 ((rd_T39 l0_2 a1).f3)] 39 (0, 0))) ∧ (w'.heap[s_]? = some (.cells #[.string (⟨#[]⟩ : ByteArray), .int .i64 0, .int .i64 0, .int .i64 0, .int .i64 0, .int .i64 0, .int .i64 0, .int .i64 0, .int .i64 0] 62 (0, 0))) ∧ (w.heap.size ≤ s_) ∧ (w.heap.size ≤ s_) ∧ (gb1052 ≠ s_) ∧ (s_ ≠ gb1052) ∧ (gb1054 ≠ s_) ∧ (s_ ≠ gb1054) ∧ (Below w.heap.size w w')) ?_ ?_
     rotate_left
     ·intro hCont
      refine two_ (i := 6) (j := 9) (Ni := some 21) (Nj := some 6) (bT 11 7) (bB 11 575) rfl rfl rfl rfl (two_of HT_.out Zk) (by decide) (by decide) (fun K hK => ?_) (fun K hK => ?_)
      ·skip
       refine goes_ Try.func64 Zk rfl #[.slice (some ad1056) l0_1.length c0_1, .string ((rd_T39 l0_2 a1).f2)] (by rfl) rfl rfl Zs ?_
       with_reducible refine (spec_l03Find.calls k _ _ l0_1 ((rd_T39 l0_2 a1).f2) t1055 _ ?side1 ?side2 A5.out).mono ?_
       (case side1 => exact (Zu HR0_1))
       (case side2 => exact HC0_1.out)
       rintro e w' ⟨rfl, ⟨nd, rfl⟩⟩; refine ⟨_, rfl, ?_⟩; refine hK.out _ _ (Zcm BK1052 BK1054 hw1056_0 hw1056_1 hw1056_2 hw1056_3 hw1056_4 hw1056_5 hw1056_6 hw1056_7 hw1056_8) (fun hHeld => ?_); clear hK K; refine normZ 21 ?_; refine pureZ HT_ 7 (some 22) (bT 11 8) ?_; refine takeZ16 HT_ HW_ 8 (some 23) (bT 11 9) hHeld ?_; refine one_ (i := 9) (N := some 6) (bT 11 10) rfl rfl (one_of HT_.out Zk) (by decide) (fun K hK => ?_); refine box_step ?hg (N := 6) ?hd (cs := #[.string (⟨#[]⟩ : ByteArray), .int .i64 0, .int .i64 0, .int .i64 0, .int .i64 0, .int .i64 0, .int .i64 0, .int .i64 0, .int .i64 0]) (t := 62) ?hr ?_; (case hd => rfl); (case hg => rfl); (case hr => first | (go_simp; done) | (go_simp; rfl)); intro gb1057 hg w15 hbox hb; replace BK1057 := am_ (hbox); replace GW1057 := am_ (((Zae GE1052 GE1054) : w.heap.size ≤ gb1057)); replace GE1057 := GW1057; replace HB := (bsZ (Zw GE1052 GE1054) hb); replace NB1052_1057 := am_ ((by rw [hg]; exact Nat.ne_of_lt (blk_lt (g := gb1052) (b0Z BK1052)) : gb1052 ≠ gb1057)); replace NB1057_1052 := am_ ((by rw [hg]; exact Nat.ne_of_gt (blk_lt (g := gb1052) (b0Z BK1052)) : gb1057 ≠ gb1052)); replace BK1052 := (bkZ BK1052 hb); replace NB1054_1057 := am_ ((by rw [hg]; exact Nat.ne_of_lt (blk_lt (g := gb1054) (b0Z BK1054)) : gb1054 ≠ gb1057)); replace NB1057_1054 := am_ ((by rw [hg]; exact Nat.ne_of_gt (blk_lt (g := gb1054) (b0Z BK1054)) : gb1057 ≠ gb1054)); replace BK1054 := (bkZ BK1054 hb); clear hb hbox hg; refine hK.out _ _ (Zcm BK1052 BK1054 hw1056_0 hw1056_1 hw1056_2 hw1056_3 hw1056_4 hw1056_5 hw1056_6 hw1056_7 hw1056_8) (fun hHeld => ?_); clear hK K; refine normZ 6 ?_; exact norm_ Zbt (hCont (gb1057) _ ⟨hHeld, (b0Z BK1052), (b0Z BK1054), (b0Z BK1057), GW1057.out, GE1057.out, NB1052_1057.out, NB1057_1052.out, NB1054_1057.out, NB1057_1054.out, (Zah GE1052 GE1054 GE1057)⟩)
      ·skip
       refine box_step ?hg (N := 6) ?hd (cs := #[.string (⟨#[]⟩ : ByteArray), .int .i64 0, .int .i64 0, .int .i64 0, .int .i64 0, .int .i64 0, .int .i64 0, .int .i64 0, .int .i64 0]) (t := 62) ?hr ?_; (case hd => rfl); (case hg => rfl); (case hr => first | (go_simp; done) | (go_simp; rfl)); intro gb1057 hg w15 hbox hb; replace BK1057 := am_ (hbox); replace GW1057 := am_ (((Zae GE1052 GE1054) : w.heap.size ≤ gb1057)); replace GE1057 := GW1057; replace HB := (bsZ (Zw GE1052 GE1054) hb); replace NB1052_1057 := am_ ((by rw [hg]; exact Nat.ne_of_lt (blk_lt (g := gb1052) (b0Z BK1052)) : gb1052 ≠ gb1057)); replace NB1057_1052 := am_ ((by rw [hg]; exact Nat.ne_of_gt (blk_lt (g := gb1052) (b0Z BK1052)) : gb1057 ≠ gb1052)); replace BK1052 := (bkZ BK1052 hb); replace NB1054_1057 := am_ ((by rw [hg]; exact Nat.ne_of_lt (blk_lt (g := gb1054) (b0Z BK1054)) : gb1054 ≠ gb1057)); replace NB1057_1054 := am_ ((by rw [hg]; exact Nat.ne_of_gt (blk_lt (g := gb1054) (b0Z BK1054)) : gb1057 ≠ gb1054)); replace BK1054 := (bkZ BK1054 hb); clear hb hbox hg; refine hK.out _ _ (Zcm BK1052 BK1054 hw1056_0 hw1056_1 hw1056_2 hw1056_3 hw1056_4 hw1056_5 hw1056_6 hw1056_7 hw1056_8) (fun hHeld => ?_); clear hK K; refine normZ 6 ?_; refine one_ (i := 6) (N := some 21) (bB 11 639) rfl rfl (one_of HT_.out Zk) (by decide) (fun K hK => ?_); refine goes_ Try.func64 Zk rfl #[.slice (some ad1056) l0_1.length c0_1, .string ((rd_T39 l0_2 a1).f2)] (by rfl) rfl rfl Zs ?_
       with_reducible refine (spec_l03Find.calls k _ _ l0_1 ((rd_T39 l0_2 a1).f2) t1055 _ ?side1 ?side2 A5.out).mono ?_
       (case side1 => exact (Zu HR0_1))
       (case side2 => exact HC0_1.out)
       rintro e w' ⟨rfl, ⟨nd, rfl⟩⟩; refine ⟨_, rfl, ?_⟩; refine hK.out _ _ (Zcm BK1052 BK1054 hw1056_0 hw1056_1 hw1056_2 hw1056_3 hw1056_4 hw1056_5 hw1056_6 hw1056_7 hw1056_8) (fun hHeld => ?_); clear hK K; refine normZ 21 ?_; refine pureZ HT_ 7 (some 22) (bB 11 767) ?_; refine takeZ16 HT_ HW_ 8 (some 23) (bT 11 10) hHeld ?_; exact norm_ Zbt (hCont (gb1057) _ ⟨hHeld, (b0Z BK1052), (b0Z BK1054), (b0Z BK1057), GW1057.out, GE1057.out, NB1052_1057.out, NB1057_1052.out, NB1054_1057.out, NB1057_1054.out, (Zah GE1052 GE1054 GE1057)⟩)
     rintro gb1057 w16 ⟨hS_, h0_, h1_, h2_, h3_, h4_, h5_, h6_, h7_, h8_, h9_⟩
     (try dsimp only at hS_ h0_ h1_ h2_ h3_ h4_ h5_ h6_ h7_ h8_ h9_)
     replace BK1052 := am_ h0_; replace BK1054 := am_ h1_; replace BK1057 := am_ h2_; replace GW1057 := am_ h3_; replace GE1057 := am_ h4_; replace NB1052_1057 := am_ h5_; replace NB1057_1052 := am_ h6_; replace NB1054_1057 := am_ h7_; replace NB1057_1054 := am_ h8_; replace HB := am_ h9_; clear h0_ h1_ h2_ h3_ h4_ h5_ h6_ h7_ h8_ h9_; have hHeld := hS_; refine normP ?_; refine one_ (i := 10) (N := none) (bT 11 11) rfl rfl (one_of HT_.out Zk) (by decide) (fun K hK => ?_); have hs17 : w16.cell? ⟨gb1057, 0, none⟩ = some (.string (⟨#[]⟩ : ByteArray)) := (blk_cell BK1057.out 0).trans rfl; have hfs17 := blk_frozen BK1057.out 0; have hns17_0 := NB1052_1057.out; have hns17_1 := NB1054_1057.out; have hms17_0 := NB1057_1052.out; have hms17_1 := NB1057_1054.out; have hs18 : w16.cell? ⟨gb1057, 1, none⟩ = some (.int .i64 0) := (blk_cell BK1057.out 1).trans rfl; have hfs18 := blk_frozen BK1057.out 1; have hns18_0 := NB1052_1057.out; have hns18_1 := NB1054_1057.out; have hms18_0 := NB1057_1052.out; have hms18_1 := NB1057_1054.out; have hs19 : w16.cell? ⟨gb1057, 2, none⟩ = some (.int .i64 0) := (blk_cell BK1057.out 2).trans rfl; have hfs19 := blk_frozen BK1057.out 2; have hns19_0 := NB1052_1057.out; have hns19_1 := NB1054_1057.out; have hms19_0 := NB1057_1052.out; have hms19_1 := NB1057_1054.out; have hs20 : w16.cell? ⟨gb1057, 3, none⟩ = some (.int .i64 0) := (blk_cell BK1057.out 3).trans rfl; have hfs20 := blk_frozen BK1057.out 3; have hns20_0 := NB1052_1057.out; have hns20_1 := NB1054_1057.out; have hms20_0 := NB1057_1052.out; have hms20_1 := NB1057_1054.out; have hs21 : w16.cell? ⟨gb1057, 4, none⟩ = some (.int .i64 0) := (blk_cell BK1057.out 4).trans rfl; have hfs21 := blk_frozen BK1057.out 4; have hns21_0 := NB1052_1057.out; have hns21_1 := NB1054_1057.out; have hms21_0 := NB1057_1052.out; have hms21_1 := NB1057_1054.out; have hs22 : w16.cell? ⟨gb1057, 5, none⟩ = some (.int .i64 0) := (blk_cell BK1057.out 5).trans rfl; have hfs22 := blk_frozen BK1057.out 5; have hns22_0 := NB1052_1057.out; have hns22_1 := NB1054_1057.out; have hms22_0 := NB1057_1052.out; have hms22_1 := NB1057_1054.out; have hs23 : w16.cell? ⟨gb1057, 6, none⟩ = some (.int .i64 0) := (blk_cell BK1057.out 6).trans rfl; have hfs23 := blk_frozen BK1057.out 6; have hns23_0 := NB1052_1057.out; have hns23_1 := NB1054_1057.out; have hms23_0 := NB1057_1052.out; have hms23_1 := NB1057_1054.out; have hs24 : w16.cell? ⟨gb1057, 7, none⟩ = some (.int .i64 0) := (blk_cell BK1057.out 7).trans rfl; have hfs24 := blk_frozen BK1057.out 7; have hns24_0 := NB1052_1057.out; have hns24_1 := NB1054_1057.out; have hms24_0 := NB1057_1052.out; have hms24_1 := NB1057_1054.out; have hs25 : w16.cell? ⟨gb1057, 8, none⟩ = some (.int .i64 0) := (blk_cell BK1057.out 8).trans rfl; have hfs25 := blk_frozen BK1057.out 8; have hns25_0 := NB1052_1057.out; have hns25_1 := NB1054_1057.out; have hms25_0 := NB1057_1052.out; have hms25_1 := NB1057_1054.out; refine skip_ (w1 := ?_) (by rfl) rfl ?_ ?_
     rotate_left
     ·go_simp
      rfl
     refine hK.out _ _ ⟨(cg1 (hHeld.1) NB1052_1057), (cg1 (hHeld.2.1) NB1052_1057), (cg1 (hHeld.2.2.1) NB1052_1057), (cg1 (hHeld.2.2.2.1) NB1054_1057), (cg1 (hHeld.2.2.2.2.1) NB1054_1057), (cg1 (hHeld.2.2.2.2.2.1) NB1054_1057), (cg1 (hHeld.2.2.2.2.2.2.1) NB1054_1057), (cfZ gb1057 (hHeld.2.2.2.2.2.2.2.1) (Zcn hw1056_0 GW1057)), (cfZ gb1057 (hHeld.2.2.2.2.2.2.2.2.1) (Zcn hw1056_1 GW1057)), (cfZ gb1057 (hHeld.2.2.2.2.2.2.2.2.2.1) (Zcn hw1056_2 GW1057)), (cfZ gb1057 (hHeld.2.2.2.2.2.2.2.2.2.2.1) (Zcn hw1056_3 GW1057)), (cfZ gb1057 (hHeld.2.2.2.2.2.2.2.2.2.2.2.1) (Zcn hw1056_4 GW1057)), (cfZ gb1057 (hHeld.2.2.2.2.2.2.2.2.2.2.2.2.1) (Zcn hw1056_5 GW1057)), (cfZ gb1057 (hHeld.2.2.2.2.2.2.2.2.2.2.2.2.2.1) (Zcn hw1056_6 GW1057)), (cfZ gb1057 (hHeld.2.2.2.2.2.2.2.2.2.2.2.2.2.2.1) (Zcn hw1056_7 GW1057)), (cfZ gb1057 (hHeld.2.2.2.2.2.2.2.2.2.2.2.2.2.2.2) (Zcn hw1056_8 GW1057))⟩ (fun hHeld => ?_); clear hK K; refine done_ (done_of HT_.out Zk) ?_
     try go_wp2_with (first | ((with_reducible refine gate_dst (N := 24) rfl ?_); refine Kd.S_lit (Kd.slice 2 (Kd.int .i64)) _ 33 ?hg (N := 24) ?hd (xs := ([] : List (List Int))) (inner := []) (ok := fun _ => True) (okp := fun _ => True) ?hr ?hp (fun _ hk => hk) trivial (Below.refl _ _) (Nat.le_refl _) (by simp) ?_; (case hd => rfl); (case hg => rfl); (case hr => first | (go_simp; done) | (go_simp; rfl)); (case hp => exact (Reps.none _ _)); intro v1059 w26 ho27 hb hg_ hnew_; clear hg_ hnew_; (first | rw [← Ny1058.out] at ho27 | (simp only [Int.reduceToNat] at ho27; rw [← Ny1058.out] at ho27)); replace HO1060 := am_ (Kd.S_lower ho27 (below_size (Zah GE1052 GE1054 GE1057))); replace BK1052 := am_ (blk_below (g := gb1052) (bfZ BK1052 NB1052_1057) hb); replace BK1054 := am_ (blk_below (g := gb1054) (bfZ BK1054 NB1054_1057) hb); replace BK1057 := am_ (blk_below (g := gb1057) (o := .cells #[.string ((rd_T62 l0_1 t1055).f0), .int .i64 ((rd_T62 l0_1 t1055).f1), .int .i64 ((rd_T62 l0_1 t1055).f2), .int .i64 ((rd_T62 l0_1 t1055).f3), .int .i64 ((rd_T62 l0_1 t1055).f4), .int .i64 ((rd_T62 l0_1 t1055).f5), .int .i64 ((rd_T62 l0_1 t1055).f6), .int .i64 ((rd_T62 l0_1 t1055).f7), .int .i64 ((rd_T62 l0_1 t1055).f8)] 62 (0, 0)) (bpZ BK1057) hb); replace HB := (bsZ (Zah GE1052 GE1054 GE1057) hb); clear hb ho27))
     go_loopg [7, 8] k (fun kq v7 v8 w' => ∃ (x7_1 : List (List Int)) (x8_1 : Int), v8 = .int .i64 x8_1 ∧ Aside0 (spec_l09Cue.l0 kq a1 x7_1 x8_1 l0_0 l0_1 l0_2 ((rd_T39 l0_2 a1).f0) ((rd_T39 l0_2 a1).f1) ((rd_T39 l0_2 a1).f2) ((rd_T39 l0_2 a1).f3) ((rd_T62 l0_1 t1055).f0) ((rd_T62 l0_1 t1055).f1) ((rd_T62 l0_1 t1055).f2) ((rd_T62 l0_1 t1055).f3) ((rd_T62 l0_1 t1055).f4) ((rd_T62 l0_1 t1055).f5) ((rd_T62 l0_1 t1055).f6) ((rd_T62 l0_1 t1055).f7) ((rd_T62 l0_1 t1055).f8) = some r) ∧ Aside0 (kq ≤ k) ∧ Aside0 (Kd.S (Kd.slice 2 (Kd.int .i64)) 33 w' w.heap.size (fun _ => True) v7 x7_1) ∧ Aside0 (w'.heap[gb1052]? = some (.cells #[(.slice A0_0 l0_0.length c0_0), (.slice (some ad1056) l0_1.length c0_1), (.slice (some ad1053) l0_2.length c0_2)] 28 (0, 0))) ∧ Aside0 (w'.heap[gb1054]? = some (.cells #[.int .i64 ((rd_T39 l0_2 a1).f0), .int .i64 ((rd_T39 l0_2 a1).f1), .string ((rd_T39 l0_2 a1).f2), .int .i64 ((rd_T39 l0_2 a1).f3)] 39 (0, 0))) ∧ Aside0 (w'.heap[gb1057]? = some (.cells #[.string ((rd_T62 l0_1 t1055).f0), .int .i64 ((rd_T62 l0_1 t1055).f1), .int .i64 ((rd_T62 l0_1 t1055).f2), .int .i64 ((rd_T62 l0_1 t1055).f3), .int .i64 ((rd_T62 l0_1 t1055).f4), .int .i64 ((rd_T62 l0_1 t1055).f5), .int .i64 ((rd_T62 l0_1 t1055).f6), .int .i64 ((rd_T62 l0_1 t1055).f7), .int .i64 ((rd_T62 l0_1 t1055).f8)] 62 (0, 0))) ∧ Aside0 (Below w.heap.size w w'))
     case atStart => exact ⟨(y1058), (0), Za, H', ⟨Nat.le_refl _⟩, ⟨(Zcp HO1060)⟩, ⟨(Zh BK1052)⟩, ⟨(Zh BK1054)⟩, ⟨(Zh BK1057)⟩, ⟨(Zah GE1052 GE1054 GE1057)⟩⟩
     case round =>
      clear H'
      try clear c1
      try clear p1
      try clear q1
      try clear hx1
      try clear p2
      try clear c3
      try clear c3b0
      try clear c4
      try clear c4b0
      try clear c6
      try clear c6b0
      try clear c7
      try clear c7b0
      try clear p10
      try clear q10
      try clear hx10
      try clear c11
      try clear hx1053_0
      try clear hx1053_1
      try clear hx1053_2
      try clear hx1053_3
      try clear hx1056_0
      try clear hx1056_1
      try clear hx1056_2
      try clear hx1056_3
      try clear hx1056_4
      try clear hx1056_5
      try clear hx1056_6
      try clear hx1056_7
      try clear hx1056_8
      try clear p1053
      try clear p1056
      try clear q1053
      try clear q1056
      obtain ⟨x7_1, x8_1, rfl, HA, HK1, HO_7, BK1052, BK1054, BK1057, HB⟩ := hrel
      cases gk with
      | zero => exact absurd HA.out (by simp [spec_l09Cue.l0])
      | succ k1 =>
       have H := HA.out; clear HA; simp only [spec_l09Cue.l0] at H
       by_cases c28 : x8_1 < ((rd_T62 l0_1 t1055).f5)
       ·rw [if_pos c28] at H
        have c28b0 := decide_eq_true c28; clear c28; replace H := Option.bind_eq_some_iff.mp H; obtain ⟨t1061, A290, H⟩ := H; have A29 := am_ A290; clear A290; replace H := Option.bind_eq_some_iff.mp H; obtain ⟨t1062, A300, H⟩ := H; have A30 := am_ A300; clear A300
        by_cases c31 : 0 < (t1062.length : Int)
        ·rw [if_pos c31] at H
         have c31b0 := decide_eq_true c31; have c31b1 : decide (0 < t1062.length) = true := decide_eq_true (by omega); clear c31
         by_cases c32 : 1 < (t1062.length : Int)
         ·rw [if_pos c32] at H
          have c32b0 := decide_eq_true c32; have c32b1 : decide (1 < t1062.length) = true := decide_eq_true (by omega); clear c32; obtain ⟨y1067, hy1067⟩ : ∃ y_ : List Int, y_ = (([rd t1062 0, rd t1062 1, a1] : List Int)) := ⟨_, rfl⟩
          (first | (rw [← hy1067] at H; with_reducible replace H := bindZ H) | rw [← hy1067] at H | skip)
          have Ny1067 := am_ hy1067; clear hy1067
          by_cases c33 : x7_1.length < 5864062014805
          ·rw [if_pos c33] at H
           have LMc33 := am_ c33; clear c33; obtain ⟨y1070, hy1070⟩ : ∃ y_ : List (List Int), y_ = (x7_1 ++ [y1067]) := ⟨_, rfl⟩
           (first | (rw [← hy1070] at H; with_reducible replace H := bindZ H) | rw [← hy1070] at H | skip)
           have Ny1070 := am_ hy1070; clear hy1070; have H' := am_ H; clear H; have hnb34 := NB1057_1052.out; have hnc34 := NB1052_1057.out; have hnb35 := NB1057_1054.out; have hnc35 := NB1054_1057.out; refine ci9 BK1057 ?_; intros
           try go_wp2
           replace HO_7 := am_ (Kd.S_drew HO_7.out); replace BK1052 := am_ (blk_drew BK1052.out); replace BK1054 := am_ (blk_drew BK1054.out); replace BK1057 := am_ (blk_drew BK1057.out); replace HB := am_ (below_drew1 HB.out); refine start_ (n := 7) (S := fun w' => w'.cell? ⟨gb1057, 0, none⟩ = some (.string ((rd_T62 l0_1 t1055).f0)) ∧ w'.cell? ⟨gb1057, 1, none⟩ = some (.int .i64 ((rd_T62 l0_1 t1055).f1)) ∧ w'.cell? ⟨gb1057, 2, none⟩ = some (.int .i64 ((rd_T62 l0_1 t1055).f2)) ∧ w'.cell? ⟨gb1057, 3, none⟩ = some (.int .i64 ((rd_T62 l0_1 t1055).f3)) ∧ w'.cell? ⟨gb1057, 4, none⟩ = some (.int .i64 ((rd_T62 l0_1 t1055).f4)) ∧ w'.cell? ⟨gb1057, 5, none⟩ = some (.int .i64 ((rd_T62 l0_1 t1055).f5)) ∧ w'.cell? ⟨gb1057, 6, none⟩ = some (.int .i64 ((rd_T62 l0_1 t1055).f6)) ∧ w'.cell? ⟨gb1057, 7, none⟩ = some (.int .i64 ((rd_T62 l0_1 t1055).f7)) ∧ w'.cell? ⟨gb1057, 8, none⟩ = some (.int .i64 ((rd_T62 l0_1 t1055).f8)) ∧ w'.cell? ⟨gb1052, 0, none⟩ = some (.slice A0_0 l0_0.length c0_0) ∧ w'.cell? ⟨gb1052, 1, none⟩ = some (.slice (some ad1056) l0_1.length c0_1) ∧ w'.cell? ⟨gb1052, 2, none⟩ = some (.slice (some ad1053) l0_2.length c0_2) ∧ w'.cell? ⟨gb1054, 0, none⟩ = some (.int .i64 ((rd_T39 l0_2 a1).f0)) ∧ w'.cell? ⟨gb1054, 1, none⟩ = some (.int .i64 ((rd_T39 l0_2 a1).f1)) ∧ w'.cell? ⟨gb1054, 2, none⟩ = some (.string ((rd_T39 l0_2 a1).f2)) ∧ w'.cell? ⟨gb1054, 3, none⟩ = some (.int .i64 ((rd_T39 l0_2 a1).f3))) (ds := []) (bT 7 0) Zk rfl rfl ⟨(blk_cell BK1057.out 0).trans rfl, (blk_cell BK1057.out 1).trans rfl, (blk_cell BK1057.out 2).trans rfl, (blk_cell BK1057.out 3).trans rfl, (blk_cell BK1057.out 4).trans rfl, (blk_cell BK1057.out 5).trans rfl, (blk_cell BK1057.out 6).trans rfl, (blk_cell BK1057.out 7).trans rfl, (blk_cell BK1057.out 8).trans rfl, (blk_cell BK1052.out 0).trans rfl, (blk_cell BK1052.out 1).trans rfl, (blk_cell BK1052.out 2).trans rfl, (blk_cell BK1054.out 0).trans rfl, (blk_cell BK1054.out 1).trans rfl, (blk_cell BK1054.out 2).trans rfl, (blk_cell BK1054.out 3).trans rfl⟩ (fun hHeld => ?_); generalize wr.drew = w37 at HO_7 BK1052 BK1054 BK1057 HB hHeld ⊢; refine pure_ (i := 4) (N := some 35) (v := ?_) (a' := ?_) (bB 7 16) rfl rfl Zk (fun _ _ _ h => h) (Or.inl ⟨by rfl, ?_⟩) ?_ ?_; rotate_left
           ·intro w'
            go_simp
            with_reducible rfl
           rotate_left
           ·exact Zput
           refine take_ (i := 0) (N := some 31) (v := ?_) (a' := ?_) (bB 7 17) rfl rfl Zk (fun _ _ _ h => h) (Or.inl ⟨by rfl, ?_⟩) hHeld ?_ ?_; rotate_left
           ·rintro w' ⟨s0, s1, s2, s3, s4, s5, s6, s7, s8, s9, s10, s11, s12, s13, s14, s15⟩
            go_simp
            with_reducible rfl
           rotate_left
           ·exact Zput
           refine take_ (i := 1) (N := some 32) (v := ?_) (a' := ?_) (bB 7 19) rfl rfl Zk (fun _ _ _ h => h) (Or.inl ⟨by rfl, ?_⟩) hHeld ?_ ?_; rotate_left
           ·rintro w' ⟨s0, s1, s2, s3, s4, s5, s6, s7, s8, s9, s10, s11, s12, s13, s14, s15⟩
            go_simp
            with_reducible rfl
           rotate_left
           ·exact Zput
           refine take_ (i := 2) (N := some 33) (v := ?_) (a' := ?_) (bB 7 23) rfl rfl Zk (fun _ _ _ h => h) (Or.inl ⟨by rfl, ?_⟩) hHeld ?_ ?_; rotate_left
           ·rintro w' ⟨s0, s1, s2, s3, s4, s5, s6, s7, s8, s9, s10, s11, s12, s13, s14, s15⟩
            go_simp
            with_reducible rfl
           rotate_left
           ·exact Zput
           refine one_ (i := 3) (N := some 34) (bT 7 5) rfl rfl Zk (by decide) (fun K hK => ?_); refine goes_ Try.func90 Zk rfl #[.agg #[.slice A0_0 l0_0.length c0_0, .slice (some ad1056) l0_1.length c0_1, .slice (some ad1053) l0_2.length c0_2], .agg #[.int .i64 ((rd_T39 l0_2 a1).f0), .int .i64 ((rd_T39 l0_2 a1).f1), .string ((rd_T39 l0_2 a1).f2), .int .i64 ((rd_T39 l0_2 a1).f3)]] (by rfl) rfl rfl Zs ?_
           with_reducible refine (spec_l08Time.calls k1 _ _ l0_0 _ _ l0_1 _ _ l0_2 ((rd_T39 l0_2 a1).f0) ((rd_T39 l0_2 a1).f1) ((rd_T39 l0_2 a1).f2) ((rd_T39 l0_2 a1).f3) t1061 _ ?side1 ?side2 ?side3 ?side4 ?side5 ?side6 A29.out).mono ?_
           (case side1 => exact (Zu HR0_0))
           (case side2 => exact HC0_0.out)
           (case side3 => exact (Zu HR0_1))
           (case side4 => exact HC0_1.out)
           (case side5 => exact (Zu HR0_2))
           (case side6 => exact HC0_2.out)
           rintro e w38 ⟨rfl, hb⟩; refine ⟨_, rfl, ?_⟩; replace HO_7 := am_ (Kd.S_below (Zcp HO_7) hb); replace BK1052 := (bkZ BK1052 hb); replace BK1054 := (bkZ BK1054 hb); replace BK1057 := (bkZ BK1057 hb); replace HB := (bsZ (Zah GE1052 GE1054 GE1057) hb)
           (try clear hb)
           (try clear hb2)
           (try clear hk)
           (try clear hi)
           refine hK.out _ _ (Zct BK1057 BK1052 BK1054) (fun hHeld => ?_); clear hK K; refine normZ 34 ?_; refine one_ (i := 5) (N := some 36) (bT 7 6) rfl rfl Zk (by decide) (fun K hK => ?_); refine goes_ Try.func93 Zk rfl #[.agg #[.string ((rd_T62 l0_1 t1055).f0), .int .i64 ((rd_T62 l0_1 t1055).f1), .int .i64 ((rd_T62 l0_1 t1055).f2), .int .i64 ((rd_T62 l0_1 t1055).f3), .int .i64 ((rd_T62 l0_1 t1055).f4), .int .i64 ((rd_T62 l0_1 t1055).f5), .int .i64 ((rd_T62 l0_1 t1055).f6), .int .i64 ((rd_T62 l0_1 t1055).f7), .int .i64 ((rd_T62 l0_1 t1055).f8)], .int .i64 t1061, .int .i64 x8_1] (by rfl) rfl rfl Zs ?_
           with_reducible refine (spec_l03Window.calls ((rd_T62 l0_1 t1055).f0) ((rd_T62 l0_1 t1055).f1) ((rd_T62 l0_1 t1055).f2) ((rd_T62 l0_1 t1055).f3) ((rd_T62 l0_1 t1055).f4) ((rd_T62 l0_1 t1055).f5) ((rd_T62 l0_1 t1055).f6) ((rd_T62 l0_1 t1055).f7) ((rd_T62 l0_1 t1055).f8) t1061 x8_1 t1062 _ A30.out).mono ?_
           rintro e w39 ⟨v1063, rfl, ho0, hb⟩; refine ⟨_, rfl, ?_⟩; replace HO_7 := am_ (Kd.S_elder' (Zcp HO_7) (Kd.R_base ho0) hb); replace HO1064 := am_ (Kd.R_lower ho0 (below_size (Zah GE1052 GE1054 GE1057))); replace BK1052 := (bkZ BK1052 hb); replace BK1054 := (bkZ BK1054 hb); replace BK1057 := (bkZ BK1057 hb); replace HB := (bsZ (Zah GE1052 GE1054 GE1057) hb)
           (try clear hb)
           (try clear hb2)
           (try clear hk)
           (try clear hi)
           (try clear ho0)
           refine hK.out _ _ (Zct BK1057 BK1052 BK1054) (fun hHeld => ?_); clear hK K; refine normZ 36 ?_; refine pure_ (i := 6) (N := some 9) (v := ?_) (a' := ?_) (bT 7 7) rfl rfl Zk (fun _ _ _ h => h) (Or.inl ⟨by rfl, ?_⟩) ?_ ?_; rotate_left
           ·intro w'
            go_simp
            with_reducible rfl
           rotate_left
           ·exact Zput
           refine done_ Zk ?_
           try go_wp2
           replace HO_7 := am_ (Kd.S_drew HO_7.out); replace HO1064 := am_ (Kd.R_drew HO1064.out); replace BK1052 := am_ (blk_drew BK1052.out); replace BK1054 := am_ (blk_drew BK1054.out); replace BK1057 := am_ (blk_drew BK1057.out); replace HB := am_ (below_drew1 HB.out); obtain ⟨Ao41, co41, eo41⟩ := Kd.R_slice HO1064.out
           (first | subst eo41 | (injection eo41 with f1_ f2_ f3_; have f4_ := f1_.symm; have f5_ := f3_.symm; clear f1_ f2_ f3_; subst f4_; subst f5_))
           have p1065 : 0 ≤ (0 : Int) := (by omega); have q1065 : 0 < (t1062.length : Int) := of_decide_eq_true Zc; obtain ⟨ad1065, e1065, hx1065_0⟩ := Kd.at_int (Kd.R_reads' HO1064.out).2.2 0 p1065 q1065
           cases e1065
           have qi1065 : (0 < t1062.length) = True := eq_true (by omega)
           (try rw [show ((0 : Int)).toNat = 0 from rfl] at hx1065_0)
           (try rw [Addr.add_zero'] at hx1065_0)
           replace p1065 := eq_true p1065; replace q1065 := eq_true q1065; have p1066 : 0 ≤ (1 : Int) := (by omega); have q1066 : 1 < (t1062.length : Int) := of_decide_eq_true Zc; obtain ⟨ad1066, e1066, hx1066_0⟩ := Kd.at_int (Kd.R_reads' HO1064.out).2.2 1 p1066 q1066; obtain rfl : ad1065 = ad1066 := (by injection e1066)
           (try simp only [show (1 : Int).toNat = 1 from rfl, Nat.reduceMul, Nat.reduceEqDiff, Go.Addr.add, ↓reduceIte] at hx1066_0)
           have qi1066 : (1 < t1062.length) = True := eq_true (by omega)
           (try rw [show ((1 : Int)).toNat = 1 from rfl] at hx1066_0)
           replace p1066 := eq_true p1066; replace q1066 := eq_true q1066; refine start_ (n := 12) (S := fun w' => w'.cell? ad1065 = some (.int .i64 (rd t1062 0)) ∧ w'.cell? ⟨ad1065.block, ad1065.off + 1, none⟩ = some (.int .i64 (rd t1062 1))) (ds := [9, 10]) (bT 12 0) Zk rfl rfl ⟨hx1065_0, hx1066_0⟩ (fun hHeld => ?_); refine with_tabW spec_l09Cue.tab8 spec_l09Cue.bits8 (fun HT_ HW_ => ?_); generalize w39.drew = w40 at HO_7 HO1064 BK1052 BK1054 BK1057 HB hx1065_0 hx1066_0 hHeld ⊢; refine pureZ HT_ 0 (some 37) (bT 12 1) ?_; refine pureZ HT_ 1 (some 38) (bT 12 2) ?_; refine pureZ HT_ 2 (some 39) (bT 12 3) ?_; refine pureZ HT_ 4 (some 41) (bB 12 23) ?_; refine pureZ HT_ 5 (some 42) (bB 12 55) ?_; refine pureZ HT_ 7 (some 44) (bB 12 183) ?_; refine takeZ2 HT_ HW_ 3 (some 40) (bB 12 191) hHeld ?_; refine takeZ2 HT_ HW_ 6 (some 43) (bT 12 8) hHeld ?_; refine one_ (i := 8) (N := some 45) (bT 12 9) rfl rfl (one_of HT_.out Zk) (by decide) (fun K hK => ?_); refine Kd.R_lit_step (Kd.int .i64) _ 2 ?hg (N := 45) ?hd (xs := ([rd t1062 0, rd t1062 1, a1] : List Int)) (inner := [.int .i64 (rd t1062 0), .int .i64 (rd t1062 1), .int .i64 a1]) (ok := fun _ => True) (okp := fun _ => True) ?hr ?hp (fun _ hk => hk) trivial (Below.refl _ _) (Nat.le_refl _) (by simp) ?_; (case hd => rfl); (case hg => rfl); (case hr => first | (go_simp; done) | (go_simp; rfl)); (case hp => exact (Reps.one (show Kd.M (Kd.int .i64) _ _ _ (rd t1062 0) [.int .i64 (rd t1062 0)] from rfl) (Reps.one (show Kd.M (Kd.int .i64) _ _ _ (rd t1062 1) [.int .i64 (rd t1062 1)] from rfl) (Reps.one (show Kd.M (Kd.int .i64) _ _ _ a1 [.int .i64 a1] from rfl) (Reps.none _ _))))); intro v1068 w42 ho43 hb hg_ hnew_; have HS0_ := (hb.cell (World.block_lt_of_cell? _ _ (hHeld.1))).trans (hHeld.1); have HS1_ := (hb.cell (World.block_lt_of_cell? _ _ (hHeld.2))).trans (hHeld.2); clear hg_ hnew_
           (first | rw [← Ny1067.out] at ho43 | (simp only [Int.reduceToNat] at ho43; rw [← Ny1067.out] at ho43))
           replace HO_7 := am_ (Kd.S_elder' (Zcp HO_7) (Kd.R_base ho43) hb); replace HO1069 := am_ (Kd.R_lower (Kd.R_new' ho43 (Kd.R_lt (Zaa HO1064))) (below_size (Zah GE1052 GE1054 GE1057))); replace HO1064 := am_ (Kd.R_elder' (Zaa HO1064) (Kd.R_base ho43) hb); replace BK1052 := (bkZ BK1052 hb); replace BK1054 := (bkZ BK1054 hb); replace BK1057 := (bkZ BK1057 hb); replace HB := (bsZ (Zah GE1052 GE1054 GE1057) hb); clear hb ho43; obtain ⟨Ao45, co45, eo45⟩ := Kd.R_slice HO1069.out
           (first | subst eo45 | (injection eo45 with f1_ f2_ f3_; have f4_ := f1_.symm; have f5_ := f3_.symm; clear f1_ f2_ f3_; subst f4_; subst f5_))
           refine hK.out _ _ ⟨HS0_, HS1_⟩ (fun hHeld => ?_); clear hK K; refine normZ 45 ?_; refine last_ (i := 9) (N := some 46) (bT 12 10) rfl rfl (one_of HT_.out Zk) (by decide) (fun K hK => ?_); refine value_ (w1 := ?_) (v := ?_) (by rfl) rfl ?_ ?_; rotate_left 2
           ·go_simp
            constructor
            ·rfl
            ·rfl
           refine hK.out _ _ ?_; clear hK K; refine normZ 46 ?_; refine last_ (i := 10) (N := some 47) (bT 12 11) rfl rfl (one_of HT_.out Zk) (by decide) (fun K hK => ?_); refine Kd.S_append_step (Kd.slice 2 (Kd.int .i64)) (w0 := w) w.heap.size (by rfl) (.tmp 37) (.tmp 46) 51 33 (.slice none 0 0) 24 rfl Try.underlying51 info33 rfl (by decide) (by omega) u7 x7_1 y1067 [.slice Ao45 y1067.length co45] (fun k_ => some k_ ≠ (.slice (some ad1065) t1062.length co41 : Value).ownBlock) (fun k_ => some k_ = (.slice Ao45 y1067.length co45 : Value).ownBlock) rfl rfl ?aP (fun k_ hk_ => ((Kd.R_mono (ok' := fun k_ => ((fun k_ => some k_ ≠ (.slice (some ad1065) t1062.length co41 : Value).ownBlock)) k_ ∧ some k_ ≠ (u7 : Value).ownBlock) (Kd.R_apart' (HO1069.out) (Kd.S_typed HO_7.out) (by decide)) (fun k_ hk => ⟨hk.1.2, hk.2⟩))).1 k_ hk_.symm) ?aF ?aO ?aB ?aS ?aL ?_
           (case aP => exact Kd.M_row (Kd.R_mono (Kd.R_tight rfl (Kd.R_mono (ok' := fun k_ => ((fun k_ => some k_ ≠ (.slice (some ad1065) t1062.length co41 : Value).ownBlock)) k_ ∧ some k_ ≠ (u7 : Value).ownBlock) (Kd.R_apart' (HO1069.out) (Kd.S_typed HO_7.out) (by decide)) (fun k_ hk => ⟨hk.1.2, hk.2⟩))) (fun _ h_ => h_)))
           (case aB => exact (Zah GE1052 GE1054 GE1057))
           (case aF => exact (fun k_ hk => Kd.fresh' (Kd.R_lt (Zaa HO1064)) k_ hk))
           (case aO => exact (by (with_reducible repeat (first | apply Kd.S_alloc | apply Kd.S_drewN | apply Kd.S_drew)); exact Kd.S_mono HO_7.out (fun k_ hk => ⟨hk.1.2, fun e_ => hk.2 e_⟩)))
           (case aS => exact (below_size (Zah GE1052 GE1054 GE1057)))
           (case aL => have := LMc33.out; omega)
           intro v1071 w44 ho hb hg hat; rw [← Ny1070.out] at ho; replace BK1052 := am_ (blk_grown (g := gb1052) (b0Z BK1052) hg (Kd.S_ne HO_7.out BK1052.out (by decide))); replace BK1054 := am_ (blk_grown (g := gb1054) (b0Z BK1054) hg (Kd.S_ne HO_7.out BK1054.out (by decide))); replace BK1057 := am_ (blk_grown (g := gb1057) (b0Z BK1057) hg (Kd.S_ne HO_7.out BK1057.out (by decide))); replace HO1064 := am_ (Kd.R_over' (Zaa HO1064) (Kd.S_typed (Zcp HO_7)) (by decide) hg); replace HB := am_ (hb); replace HO1072 := am_ (ho); clear HO_7 HO1069; clear ho hb hg hat; refine hK.out _ _ ?_; clear hK K; refine normZ 47 ?_; refine pureZ HT_ 11 (some 7) (bT 12 12) ?_; refine done_ (done_of HT_.out Zk) ?_
           try go_wp2
           go_roundg k1
           case measure => have := HK1.out; omega
           case rel => exact ⟨(y1070), (wrap64 (x8_1 + 1)), Za, H', ⟨Zd⟩, ⟨by (with_reducible repeat (first | apply Kd.S_alloc | apply Kd.S_drewN | apply Kd.S_drew)); exact Kd.S_mono HO1072.out (fun _ hk => trivial)⟩, ⟨(Zh BK1052)⟩, ⟨(Zh BK1054)⟩, ⟨(Zh BK1057)⟩, ⟨(Zah GE1052 GE1054 GE1057)⟩⟩
          ·rw [if_neg c33] at H
           exact absurd H (by simp)
         ·rw [if_neg c32] at H
          exact absurd H (by simp)
        ·rw [if_neg c31] at H
         exact absurd H (by simp)
       ·rw [if_neg c28] at H
        have c28b0 := decide_eq_false c28; clear c28; obtain rfl := Option.some.inj H; have hnb46 := NB1057_1052.out; have hnc46 := NB1052_1057.out; have hnb47 := NB1057_1054.out; have hnc47 := NB1054_1057.out; refine ci9 BK1057 ?_; intros
        go_wp2
        go_ret
        exact ⟨_, Zl, (Zcp HO_7), (Zah GE1052 GE1054 GE1057)⟩
    ·rw [if_neg c7] at H
     exact absurd H (by simp)
   ·rw [if_neg c6] at H
    exact absurd H (by simp)
  ·rw [if_neg c4] at H
   exact absurd H (by simp)
 ·rw [if_neg c3] at H
  exact absurd H (by simp)
def spec_l09All.l0 : Nat → List (List Int) → Int → List (S104) → List (S62) → List (S39) → Option ((List (List Int)))
 | 0, _, _, _, _, _ => none
 | k + 1, x3, x4, x1229000, x1229001, x1229002 => if x4 < (x1229002.length : Int) then ((spec_l09Cue.f k x1229000 x1229001 x1229002 x4).bind fun t1232 => (if x3.length + t1232.length < 5864062014805 then (spec_l09All.l0 k (x3 ++ t1232) (wrap64 (x4 + 1)) x1229000 x1229001 x1229002) else (none))) else (some x3)
def spec_l09All.f (k : Nat) (l0_0 : List (S104)) (l0_1 : List (S62)) (l0_2 : List (S39)) : Option ((List (List Int))) := spec_l09All.l0 k (([] : List (List Int))) 0 l0_0 l0_1 l0_2
set_option maxHeartbeats 8000000 in
set_option maxRecDepth 100000 in
theorem spec_l09All.calls (k : Nat) (A0_0 : Option Addr) (c0_0 : Nat) (l0_0 : List (S104)) (A0_1 : Option Addr) (c0_1 : Nat) (l0_1 : List (S62)) (A0_2 : Option Addr) (c0_2 : Nat) (l0_2 : List (S39)) (r : List (List Int)) (w : World) (hr0_0 : Kd.C k104 w A0_0 l0_0.length l0_0) (hc0_0 : l0_0.length ≤ c0_0) (hr0_1 : Kd.C k62 w A0_1 l0_1.length l0_1) (hc0_1 : l0_1.length ≤ c0_1) (hr0_2 : Kd.C k39 w A0_2 l0_2.length l0_2) (hc0_2 : l0_2.length ≤ c0_2) (h : spec_l09All.f k l0_0 l0_1 l0_2 = some r) :
  Calls Try.prog 78 #[.agg #[.slice A0_0 l0_0.length c0_0, .slice A0_1 l0_1.length c0_1, .slice A0_2 l0_2.length c0_2]] w fun e w' => ∃ v0_ : Value, e = .returned (v0_) ∧ Kd.N (Kd.slice 2 (Kd.int .i64)) 33 w' w.heap.size (fun k_ => (w.heap.size ≤ k_)) v0_ r ∧ Below w.heap.size w w' := by
 have hu28 := Try.underlying28; have HR0_0 := am_ hr0_0; have HC0_0 := am_ hc0_0; clear hr0_0 hc0_0; have HR0_1 := am_ hr0_1; have HC0_1 := am_ hc0_1; clear hr0_1 hc0_1; have HR0_2 := am_ hr0_2; have HC0_2 := am_ hc0_2; clear hr0_2 hc0_2; have HB := am_ (Below.refl w.heap.size w); have H : (spec_l09All.l0 k (([] : List (List Int))) 0 l0_0 l0_1 l0_2) = some r := h; clear h; obtain ⟨y1229, hy1229⟩ : ∃ y_ : List (List Int), y_ = (([] : List (List Int))) := ⟨_, rfl⟩
 replace H : (spec_l09All.l0 k y1229 0 l0_0 l0_1 l0_2) = some r := by (try rw [hy1229]); first | with_reducible exact H | with_reducible exact (Option.bind_some _ _).symm.trans H | exact H
 have Ny1229 := am_ hy1229; clear hy1229; have H' := am_ H; clear H
 go_enter Try.func78, Try.ntmps78
 go_wp2_with (first | ((with_reducible refine gate_dst (N := 1) rfl ?_); refine boxZ 1 #[.slice A0_0 l0_0.length c0_0, .slice A0_1 l0_1.length c0_1, .slice A0_2 l0_2.length c0_2] 28 ?_; intro gb1228 hg w2 hbox hb; replace BK1228 := am_ (hbox); replace GW1228 := am_ ((Zr : w.heap.size ≤ gb1228)); replace GE1228 := GW1228; replace HB := (bsZ Zf hb); clear hb hbox hg) | ((with_reducible refine gate_dst (N := 5) rfl ?_); refine Kd.N_lit (Kd.slice 2 (Kd.int .i64)) _ 33 ?hg (N' := 5) ?hd (xs := ([] : List (List Int))) (inner := []) (ok := (fun k_ => (w.heap.size ≤ k_) ∧ k_ ≠ gb1228)) (okp := (fun k_ => (w.heap.size ≤ k_) ∧ k_ ≠ gb1228)) ?hr ?hp (fun _ hk => hk) ((show ∀ k_, w2.heap.size ≤ k_ → (fun k_ => (w.heap.size ≤ k_) ∧ k_ ≠ gb1228) k_ from fun k_ hk => ⟨(Nat.le_trans (below_size (Zi GE1228)) hk), Kd.freshB (g := gb1228) (b0Z BK1228) k_ hk⟩) _ (Nat.le_refl _)) (Below.refl _ _) (Nat.le_refl _) (by simp) ?_; (case hd => rfl); (case hg => rfl); (case hr => first | (go_simp; done) | (go_simp; rfl)); (case hp => exact (Reps.none _ _)); intro v1230 w3 ho4 hb hg_ hnew_; clear hg_ hnew_; (first | rw [← Ny1229.out] at ho4 | (simp only [Int.reduceToNat] at ho4; rw [← Ny1229.out] at ho4)); replace HO1231 := am_ (Kd.N_lower ho4 (below_size (Zi GE1228))); replace BK1228 := (bkZ BK1228 hb); replace HB := (bsZ (Zi GE1228) hb); clear hb ho4))
 go_loopg [3, 4] k (fun kq v3 v4 w' => ∃ (x3_1 : List (List Int)) (x4_1 : Int), v4 = .int .i64 x4_1 ∧ Aside0 (spec_l09All.l0 kq x3_1 x4_1 l0_0 l0_1 l0_2 = some r) ∧ Aside0 (kq ≤ k) ∧ Aside0 (Kd.N (Kd.slice 2 (Kd.int .i64)) 33 w' w.heap.size (fun k_ => (w.heap.size ≤ k_) ∧ k_ ≠ gb1228) v3 x3_1) ∧ Aside0 (w'.heap[gb1228]? = some (.cells #[(.slice A0_0 l0_0.length c0_0), (.slice A0_1 l0_1.length c0_1), (.slice A0_2 l0_2.length c0_2)] 28 (0, 0))) ∧ Aside0 (Below w.heap.size w w'))
 case atStart => exact ⟨(y1229), (0), Za, H', ⟨Nat.le_refl _⟩, ⟨(Zcu HO1231)⟩, ⟨(Zh BK1228)⟩, ⟨(Zi GE1228)⟩⟩
 case round =>
  clear H'
  try clear p2
  obtain ⟨x3_1, x4_1, rfl, HA, HK1, HO_3, BK1228, HB⟩ := hrel
  cases gk with
  | zero => exact absurd HA.out (by simp [spec_l09All.l0])
  | succ k1 =>
   have H := HA.out; clear HA; simp only [spec_l09All.l0] at H
   by_cases c5 : x4_1 < (l0_2.length : Int)
   ·rw [if_pos c5] at H
    have c5b0 := decide_eq_true c5; clear c5; replace H := Option.bind_eq_some_iff.mp H; obtain ⟨t1232, A60, H⟩ := H; have A6 := am_ A60; clear A60
    by_cases c7 : x3_1.length + t1232.length < 5864062014805
    ·rw [if_pos c7] at H
     have LMc7 := am_ c7; clear c7; obtain ⟨y1235, hy1235⟩ : ∃ y_ : List (List Int), y_ = (x3_1 ++ t1232) := ⟨_, rfl⟩
     (first | (rw [← hy1235] at H; with_reducible replace H := bindZ H) | rw [← hy1235] at H | skip)
     have Ny1235 := am_ hy1235; clear hy1235; have H' := am_ H; clear H; refine ci3 BK1228 ?_; intros
     go_wp2_with (first | ((with_reducible refine gate_callee (f := 76) rfl ?_); refine gZ 16 Try.func76 #[.agg #[.slice A0_0 l0_0.length c0_0, .slice A0_1 l0_1.length c0_1, .slice A0_2 l0_2.length c0_2], .int .i64 x4_1] ?_; (with_reducible refine (spec_l09Cue.calls k1 _ _ l0_0 _ _ l0_1 _ _ l0_2 x4_1 t1232 _ ?_ ?_ ?_ ?_ ?_ ?_ A6.out).mono ?_); exact (Zu HR0_0); exact HC0_0.out; exact (Zu HR0_1); exact HC0_1.out; exact (Zu HR0_2); exact HC0_2.out; rintro e w9 ⟨v1233, rfl, ho0, hb⟩; refine ⟨_, rfl, ?_⟩; replace HO1234 := am_ (Kd.N_lower (Kd.N_mono (ok' := fun k_ => (w.heap.size ≤ k_) ∧ some k_ ≠ (u3 : Value).ownBlock ∧ k_ ≠ gb1228) (Kd.S_N (Kd.S_bound ho0)) (fun k_ hk_ => ⟨(Nat.le_trans (below_size (Zi GE1228)) hk_.2.1), (Kd.fresh' (Kd.N_lt (Zcu HO_3)) k_ hk_.2.1), (Kd.freshB (g := gb1228) (b0Z BK1228) k_ hk_.2.1)⟩)) (below_size (Zi GE1228))); replace HO_3 := am_ (Kd.N_elder' (Zcu HO_3) (Kd.S_base ho0) hb); replace BK1228 := (bkZ BK1228 hb); replace HB := (bsZ (Zi GE1228) hb); clear hb ho0; obtain ⟨Ao11, co11, eo11⟩ := Kd.N_slice HO1234.out; subst eo11) | ((with_reducible refine gate_builtin (b := .append) (xs := #[.tmp 13, .tmp 16]) rfl ?_); at_builtin; refine Kd.N_append_rows (Kd.slice 2 (Kd.int .i64)) (w0 := w) w.heap.size rfl (.tmp 13) (.tmp 16) 51 33 (.slice none 0 0) 24 rfl Try.underlying51 info33 rfl (by decide) (by omega) u3 x3_1 t1232 _ _ _ (fun k_ => (w.heap.size ≤ k_) ∧ k_ ≠ gb1228) (fun k_ => ((fun k_ => (w.heap.size ≤ k_) ∧ k_ ≠ gb1228)) k_ ∧ some k_ ≠ (u3 : Value).ownBlock) rfl rfl ?aO ?aR (fun _ hk => hk) ?aF ?aB ?aS ?aL ?_; (case aR => exact (by skip; exact Kd.N_F (Kd.N_mono (ok' := (fun k_ => ((fun k_ => (w.heap.size ≤ k_) ∧ k_ ≠ gb1228)) k_ ∧ some k_ ≠ (u3 : Value).ownBlock)) (HO1234.out) (fun k_ hk => ⟨⟨hk.1, hk.2.2⟩, hk.2.1⟩)))); (case aB => exact (Zi GE1228)); (case aF => exact (fun k_ hk => ⟨(Nat.le_trans (below_size (Zi GE1228)) hk), Kd.freshB (g := gb1228) (b0Z BK1228) k_ hk⟩)); (case aO => exact (by (with_reducible repeat (first | apply Kd.N_alloc | apply Kd.N_drewN | apply Kd.N_drew)); exact Kd.N_mono HO_3.out (fun _ hk => ⟨hk.1.1, hk.1.2⟩))); (case aS => exact (below_size (Zi GE1228))); (case aL => have := LMc7.out; omega); intro v1236 w10 ho hb hg hat; rw [← Ny1235.out] at ho; replace BK1228 := am_ (blk_grown (g := gb1228) (b0Z BK1228) hg (Kd.N_ne HO_3.out BK1228.out (by decide))); replace HO1234 := am_ (Kd.N_afterv (ok := (fun k_ => (w.heap.size ≤ k_) ∧ k_ ≠ gb1228)) (by (with_reducible repeat (first | apply Kd.N_alloc | apply Kd.N_drewN | apply Kd.N_drew)); exact Kd.N_mono HO1234.out (fun _ hk => ⟨⟨hk.1, hk.2.2⟩, hk.2.1⟩)) hg hat); replace HB := am_ (hb); replace HO1237 := am_ (ho); clear HO_3; clear ho hb hg hat))
     go_roundg k1
     case measure => have := HK1.out; omega
     case rel => exact ⟨(y1235), (wrap64 (x4_1 + 1)), Za, H', ⟨Zd⟩, ⟨(Zcu HO1237)⟩, ⟨(Zh BK1228)⟩, ⟨(Zi GE1228)⟩⟩
    ·rw [if_neg c7] at H
     exact absurd H (by simp)
   ·rw [if_neg c5] at H
    have c5b0 := decide_eq_false c5; clear c5; obtain rfl := Option.some.inj H; refine ci3 BK1228 ?_; intros
    go_wp2
    go_ret
    exact ⟨_, Zl, by (with_reducible repeat (first | apply Kd.N_alloc | apply Kd.N_drewN | apply Kd.N_drew)); exact Kd.N_mono HO_3.out (fun _ hk => hk.1), (Zi GE1228)⟩
def spec_l09Count.l0 : Nat → List (List Int) → Int → Int → Int → Option (Int)
 | 0, _, _, _, _ => none
 | k + 1, x0, x1, x5, x6 => if x6 < (x0.length : Int) then (if 0 ≤ x6 then (if 0 < ((rd_L6 x0 x6).length : Int) then (if 1 < ((rd_L6 x0 x6).length : Int) then ((spec_l01In.f x1 (rd (rd_L6 x0 x6) 0) (rd (rd_L6 x0 x6) 1)).bind fun t1242 => (if t1242 = true then (spec_l09Count.l0 k x0 x1 (wrap64 (x5 + 1)) (wrap64 (x6 + 1))) else (spec_l09Count.l0 k x0 x1 x5 (wrap64 (x6 + 1))))) else (none)) else (none)) else (none)) else (some x5)
def spec_l09Count.f (k : Nat) (l0 : List (List Int)) (a1 : Int) : Option (Int) := spec_l09Count.l0 k l0 a1 0 0
set_option maxHeartbeats 8000000 in
set_option maxRecDepth 100000 in
theorem spec_l09Count.calls (k : Nat) (A0 : Option Addr) (c0 : Nat) (l0 : List (List Int)) (a1 : Int) (r : Int) (w : World) (hr0 : Kd.C (Kd.slice 2 (Kd.int .i64)) w A0 l0.length l0) (hc0 : l0.length ≤ c0) (h : spec_l09Count.f k l0 a1 = some r) :
  Calls Try.prog 79 #[.slice A0 l0.length c0, .int .i64 a1] w fun e w' => e = .returned (.int .i64 r) ∧ Drawn0 w w' := by
 have HR0 := am_ hr0; have HC0 := am_ hc0; clear hr0 hc0; have H : (spec_l09Count.l0 k l0 a1 0 0) = some r := h; clear h; have H' := am_ H; clear H
 go_enter Try.func79, Try.ntmps79
 go_wp2
 repeat (go_quiet (fail); try go_wp2)
 go_loopg [5, 6] k (fun kq v5 v6 w' => ∃ (x5_1 : Int) (x6_1 : Int), v5 = .int .i64 x5_1 ∧ v6 = .int .i64 x6_1 ∧ Aside0 (spec_l09Count.l0 kq l0 a1 x5_1 x6_1 = some r) ∧ Aside0 (kq ≤ k) ∧ Drawn0 w w')
 case atStart => exact ⟨(0), (0), Za, Za, H', ⟨Nat.le_refl _⟩, Zb⟩
 case round =>
  clear H'
  try clear p2
  obtain ⟨x5_1, x6_1, rfl, rfl, HA, HK1, ⟨m1, rfl⟩⟩ := hrel
  cases gk with
  | zero => exact absurd HA.out (by simp [spec_l09Count.l0])
  | succ k1 =>
   have H := HA.out; clear HA; simp only [spec_l09Count.l0] at H
   by_cases c3 : x6_1 < (l0.length : Int)
   ·rw [if_pos c3] at H
    have c3b0 := decide_eq_true c3; clear c3
    by_cases c4 : 0 ≤ x6_1
    ·rw [if_pos c4] at H
     have c4b0 := decide_eq_true c4; clear c4
     by_cases c5 : 0 < ((rd_L6 l0 x6_1).length : Int)
     ·rw [if_pos c5] at H
      have c5b0 := decide_eq_true c5; have c5b1 : decide (0 < (rd_L6 l0 x6_1).length) = true := decide_eq_true (by omega); clear c5
      by_cases c6 : 1 < ((rd_L6 l0 x6_1).length : Int)
      ·rw [if_pos c6] at H
       have c6b0 := decide_eq_true c6; have c6b1 : decide (1 < (rd_L6 l0 x6_1).length) = true := decide_eq_true (by omega); clear c6; replace H := Option.bind_eq_some_iff.mp H; obtain ⟨t1242, A70, H⟩ := H; have A7 := am_ A70; clear A70
       by_cases c8 : t1242 = true
       ·subst c8
        rw [if_pos rfl] at H; have H' := am_ H; clear H; have p1238 : 0 ≤ (x6_1 : Int) := of_decide_eq_true Zc; have q1238 : x6_1 < (l0.length : Int) := of_decide_eq_true Zc; obtain ⟨ad1238, A1238_0, c1238_0, e1238, hx1238_0, hl1238_0, hi1238_0⟩ := at_L6 HR0.out x6_1 p1238 q1238
        cases e1238
        have HR1238_0 := am_ hi1238_0; have HC1238_0 := am_ hl1238_0; clear hi1238_0 hl1238_0; replace p1238 := eq_true p1238; replace q1238 := eq_true q1238; have p1239 : 0 ≤ (0 : Int) := (by omega); have q1239 : 0 < ((rd_L6 l0 x6_1).length : Int) := of_decide_eq_true Zc; obtain ⟨ad1239, e1239, hx1239_0⟩ := Kd.at_int HR1238_0.out 0 p1239 q1239
        cases e1239
        have qi1239 : (0 < (rd_L6 l0 x6_1).length) = True := eq_true (by omega)
        (try rw [show ((0 : Int)).toNat = 0 from rfl] at hx1239_0)
        (try rw [Addr.add_zero'] at hx1239_0)
        replace p1239 := eq_true p1239; replace q1239 := eq_true q1239; have p1240 : 0 ≤ (x6_1 : Int) := of_decide_eq_true Zc; have q1240 : x6_1 < (l0.length : Int) := of_decide_eq_true Zc; obtain ⟨ad1240, A1240_0, c1240_0, e1240, hx1240_0, hl1240_0, hi1240_0⟩ := at_L6 HR0.out x6_1 p1240 q1240; obtain rfl : ad1238 = ad1240 := (by injection e1240); have HR1240_0 := am_ hi1240_0; have HC1240_0 := am_ hl1240_0; clear hi1240_0 hl1240_0; replace p1240 := eq_true p1240; replace q1240 := eq_true q1240; have ea_ := Option.some.inj (hx1238_0.symm.trans hx1240_0); injection ea_ with ea_ en_ ec_; subst ea_; subst ec_; clear en_; have p1241 : 0 ≤ (1 : Int) := (by omega); have q1241 : 1 < ((rd_L6 l0 x6_1).length : Int) := of_decide_eq_true Zc; obtain ⟨ad1241, e1241, hx1241_0⟩ := Kd.at_int HR1240_0.out 1 p1241 q1241
        cases e1241
        (try simp only [show (1 : Int).toNat = 1 from rfl, Nat.reduceMul, Nat.reduceEqDiff, Go.Addr.add, ↓reduceIte] at hx1241_0)
        have qi1241 : (1 < (rd_L6 l0 x6_1).length) = True := eq_true (by omega)
        (try rw [show ((1 : Int)).toNat = 1 from rfl] at hx1241_0)
        replace p1241 := eq_true p1241; replace q1241 := eq_true q1241
        go_wp2_with (first | (go_at_call 57; (with_reducible refine (spec_l01In.calls a1 (rd (rd_L6 l0 x6_1) 0) (rd (rd_L6 l0 x6_1) 1) true _ A7.out).mono ?_); rintro e w' ⟨rfl, ⟨nd, rfl⟩⟩; (try first | exact ⟨rfl, _, World.drewN_drewN _ _ _⟩ | exact ⟨rfl, _, Eq.trans (World.drewN_drewN _ _ _) (congrArg (World.drewN _) (Nat.add_assoc _ _ _))⟩)))
        repeat (go_quiet (first | (go_at_call 57; (with_reducible refine (spec_l01In.calls a1 (rd (rd_L6 l0 x6_1) 0) (rd (rd_L6 l0 x6_1) 1) true _ A7.out).mono ?_); rintro e w' ⟨rfl, ⟨nd, rfl⟩⟩; (try first | exact ⟨rfl, _, World.drewN_drewN _ _ _⟩ | exact ⟨rfl, _, Eq.trans (World.drewN_drewN _ _ _) (congrArg (World.drewN _) (Nat.add_assoc _ _ _))⟩))); try go_wp2_with (first | (go_at_call 57; (with_reducible refine (spec_l01In.calls a1 (rd (rd_L6 l0 x6_1) 0) (rd (rd_L6 l0 x6_1) 1) true _ A7.out).mono ?_); rintro e w' ⟨rfl, ⟨nd, rfl⟩⟩; (try first | exact ⟨rfl, _, World.drewN_drewN _ _ _⟩ | exact ⟨rfl, _, Eq.trans (World.drewN_drewN _ _ _) (congrArg (World.drewN _) (Nat.add_assoc _ _ _))⟩))))
        go_roundg k1
        case measure => have := HK1.out; omega
        case rel => exact ⟨(wrap64 (x5_1 + 1)), (wrap64 (x6_1 + 1)), Za, Za, H', ⟨Zd⟩, Zb⟩
       ·replace c8 := Bool.eq_false_iff.mpr c8
        subst c8; rw [if_neg (show ¬ (false = true) by decide)] at H; have H' := am_ H; clear H; have p1238 : 0 ≤ (x6_1 : Int) := of_decide_eq_true Zc; have q1238 : x6_1 < (l0.length : Int) := of_decide_eq_true Zc; obtain ⟨ad1238, A1238_0, c1238_0, e1238, hx1238_0, hl1238_0, hi1238_0⟩ := at_L6 HR0.out x6_1 p1238 q1238
        cases e1238
        have HR1238_0 := am_ hi1238_0; have HC1238_0 := am_ hl1238_0; clear hi1238_0 hl1238_0; replace p1238 := eq_true p1238; replace q1238 := eq_true q1238; have p1239 : 0 ≤ (0 : Int) := (by omega); have q1239 : 0 < ((rd_L6 l0 x6_1).length : Int) := of_decide_eq_true Zc; obtain ⟨ad1239, e1239, hx1239_0⟩ := Kd.at_int HR1238_0.out 0 p1239 q1239
        cases e1239
        have qi1239 : (0 < (rd_L6 l0 x6_1).length) = True := eq_true (by omega)
        (try rw [show ((0 : Int)).toNat = 0 from rfl] at hx1239_0)
        (try rw [Addr.add_zero'] at hx1239_0)
        replace p1239 := eq_true p1239; replace q1239 := eq_true q1239; have p1240 : 0 ≤ (x6_1 : Int) := of_decide_eq_true Zc; have q1240 : x6_1 < (l0.length : Int) := of_decide_eq_true Zc; obtain ⟨ad1240, A1240_0, c1240_0, e1240, hx1240_0, hl1240_0, hi1240_0⟩ := at_L6 HR0.out x6_1 p1240 q1240; obtain rfl : ad1238 = ad1240 := (by injection e1240); have HR1240_0 := am_ hi1240_0; have HC1240_0 := am_ hl1240_0; clear hi1240_0 hl1240_0; replace p1240 := eq_true p1240; replace q1240 := eq_true q1240; have ea_ := Option.some.inj (hx1238_0.symm.trans hx1240_0); injection ea_ with ea_ en_ ec_; subst ea_; subst ec_; clear en_; have p1241 : 0 ≤ (1 : Int) := (by omega); have q1241 : 1 < ((rd_L6 l0 x6_1).length : Int) := of_decide_eq_true Zc; obtain ⟨ad1241, e1241, hx1241_0⟩ := Kd.at_int HR1240_0.out 1 p1241 q1241
        cases e1241
        (try simp only [show (1 : Int).toNat = 1 from rfl, Nat.reduceMul, Nat.reduceEqDiff, Go.Addr.add, ↓reduceIte] at hx1241_0)
        have qi1241 : (1 < (rd_L6 l0 x6_1).length) = True := eq_true (by omega)
        (try rw [show ((1 : Int)).toNat = 1 from rfl] at hx1241_0)
        replace p1241 := eq_true p1241; replace q1241 := eq_true q1241
        go_wp2_with (first | (go_at_call 57; (with_reducible refine (spec_l01In.calls a1 (rd (rd_L6 l0 x6_1) 0) (rd (rd_L6 l0 x6_1) 1) false _ A7.out).mono ?_); rintro e w' ⟨rfl, ⟨nd, rfl⟩⟩; (try first | exact ⟨rfl, _, World.drewN_drewN _ _ _⟩ | exact ⟨rfl, _, Eq.trans (World.drewN_drewN _ _ _) (congrArg (World.drewN _) (Nat.add_assoc _ _ _))⟩)))
        repeat (go_quiet (first | (go_at_call 57; (with_reducible refine (spec_l01In.calls a1 (rd (rd_L6 l0 x6_1) 0) (rd (rd_L6 l0 x6_1) 1) false _ A7.out).mono ?_); rintro e w' ⟨rfl, ⟨nd, rfl⟩⟩; (try first | exact ⟨rfl, _, World.drewN_drewN _ _ _⟩ | exact ⟨rfl, _, Eq.trans (World.drewN_drewN _ _ _) (congrArg (World.drewN _) (Nat.add_assoc _ _ _))⟩))); try go_wp2_with (first | (go_at_call 57; (with_reducible refine (spec_l01In.calls a1 (rd (rd_L6 l0 x6_1) 0) (rd (rd_L6 l0 x6_1) 1) false _ A7.out).mono ?_); rintro e w' ⟨rfl, ⟨nd, rfl⟩⟩; (try first | exact ⟨rfl, _, World.drewN_drewN _ _ _⟩ | exact ⟨rfl, _, Eq.trans (World.drewN_drewN _ _ _) (congrArg (World.drewN _) (Nat.add_assoc _ _ _))⟩))))
        go_roundg k1
        case measure => have := HK1.out; omega
        case rel => exact ⟨(x5_1), (wrap64 (x6_1 + 1)), Za, Za, H', ⟨Zd⟩, Zb⟩
      ·rw [if_neg c6] at H
       exact absurd H (by simp)
     ·rw [if_neg c5] at H
      exact absurd H (by simp)
    ·rw [if_neg c4] at H
     exact absurd H (by simp)
   ·rw [if_neg c3] at H
    have c3b0 := decide_eq_false c3; clear c3; obtain rfl := Option.some.inj H
    go_wp2
    repeat (go_quiet (fail); try go_wp2)
    go_ret
    exact ⟨Za, Zb⟩
def spec_MostAtOnce.l0 : Nat → List (List Int) → Int → Int → Int → Option (Int × Int × Int)
 | 0, _, _, _, _ => none
 | k + 1, x5, x6, x7, x8 => if x8 < (x5.length : Int) then (if 0 ≤ x8 then (if 0 < ((rd_L6 x5 x8).length : Int) then ((spec_l09Count.f k x5 (rd (rd_L6 x5 x8) 0)).bind fun t1250 => (if t1250 > x7 then (spec_MostAtOnce.l0 k x5 (rd (rd_L6 x5 x8) 0) t1250 (wrap64 (x8 + 1))) else (if t1250 = x7 then (if (rd (rd_L6 x5 x8) 0) < x6 then (spec_MostAtOnce.l0 k x5 (rd (rd_L6 x5 x8) 0) t1250 (wrap64 (x8 + 1))) else (spec_MostAtOnce.l0 k x5 x6 x7 (wrap64 (x8 + 1)))) else (spec_MostAtOnce.l0 k x5 x6 x7 (wrap64 (x8 + 1)))))) else (none)) else (none)) else (some (x6, x7, 0))
def spec_MostAtOnce.f (k : Nat) (l0_0 : List (S104)) (l0_1 : List (S62)) (l0_2 : List (S39)) : Option (Int × Int × Int) := (spec_IsShow.f k l0_0 l0_1 l0_2).bind fun t1244 => (if t1244 = true then ((spec_l09All.f k l0_0 l0_1 l0_2).bind fun t1245 => (spec_MostAtOnce.l0 k t1245 0 0 0)) else (some (0, 0, 1)))
set_option maxHeartbeats 8000000 in
set_option maxRecDepth 100000 in
theorem spec_MostAtOnce.calls (k : Nat) (A0_0 : Option Addr) (c0_0 : Nat) (l0_0 : List (S104)) (A0_1 : Option Addr) (c0_1 : Nat) (l0_1 : List (S62)) (A0_2 : Option Addr) (c0_2 : Nat) (l0_2 : List (S39)) (r1 : Int) (r2 : Int) (r3 : Int) (w : World) (hr0_0 : Kd.C k104 w A0_0 l0_0.length l0_0) (hc0_0 : l0_0.length ≤ c0_0) (hr0_1 : Kd.C k62 w A0_1 l0_1.length l0_1) (hc0_1 : l0_1.length ≤ c0_1) (hr0_2 : Kd.C k39 w A0_2 l0_2.length l0_2) (hc0_2 : l0_2.length ≤ c0_2) (h : spec_MostAtOnce.f k l0_0 l0_1 l0_2 = some (r1, r2, r3)) :
  Calls Try.prog 38 #[.agg #[.slice A0_0 l0_0.length c0_0, .slice A0_1 l0_1.length c0_1, .slice A0_2 l0_2.length c0_2]] w fun e w' => e = .returned (.tuple #[.int .i64 r1, .int .i64 r2, .int .i64 r3]) ∧ Below w.heap.size w w' := by
 have hu28 := Try.underlying28; have HR0_0 := am_ hr0_0; have HC0_0 := am_ hc0_0; clear hr0_0 hc0_0; have HR0_1 := am_ hr0_1; have HC0_1 := am_ hc0_1; clear hr0_1 hc0_1; have HR0_2 := am_ hr0_2; have HC0_2 := am_ hc0_2; clear hr0_2 hc0_2; have HB := am_ (Below.refl w.heap.size w); have H : ((spec_IsShow.f k l0_0 l0_1 l0_2).bind fun t1244 => (if t1244 = true then ((spec_l09All.f k l0_0 l0_1 l0_2).bind fun t1245 => (spec_MostAtOnce.l0 k t1245 0 0 0)) else (some (0, 0, 1)))) = some (r1, r2, r3) := h; clear h; replace H := Option.bind_eq_some_iff.mp H; obtain ⟨t1244, A20, H⟩ := H; have A2 := am_ A20; clear A20; have HS_ := am_ H; clear H
 go_enter Try.func38, Try.ntmps38
 go_wp2_with (first | ((with_reducible refine gate_dst (N := 1) rfl ?_); refine boxZ 1 #[.slice A0_0 l0_0.length c0_0, .slice A0_1 l0_1.length c0_1, .slice A0_2 l0_2.length c0_2] 28 ?_; intro gb1243 hg w5 hbox hb; replace BK1243 := am_ (hbox); replace GW1243 := am_ ((Zr : w.heap.size ≤ gb1243)); replace GE1243 := GW1243; replace HB := (bsZ Zf hb); clear hb hbox hg; refine ci3 BK1243 ?_; intros) | ((with_reducible refine gate_callee (f := 56) rfl ?_); refine gZ 11 Try.func56 #[.agg #[.slice A0_0 l0_0.length c0_0, .slice A0_1 l0_1.length c0_1, .slice A0_2 l0_2.length c0_2]] ?_; (with_reducible refine (spec_IsShow.calls k _ _ l0_0 _ _ l0_1 _ _ l0_2 t1244 _ ?_ ?_ ?_ ?_ ?_ ?_ A2.out).mono ?_); exact (Zu HR0_0); exact HC0_0.out; exact (Zu HR0_1); exact HC0_1.out; exact (Zu HR0_2); exact HC0_2.out; rintro e w7 ⟨rfl, hb⟩; refine ⟨_, rfl, ?_⟩; replace BK1243 := (bkZ BK1243 hb); replace HB := (bsZ (Zi GE1243) hb); clear hb; refine ?roundEnd))
 case roundEnd =>
  by_cases c3 : t1244 = true
  ·have H := HS_.out
   clear HS_; subst c3; rw [if_pos rfl] at H; replace H := Option.bind_eq_some_iff.mp H; obtain ⟨t1245, A40, H⟩ := H; have A4 := am_ A40; clear A40; have H' := am_ H; clear H; refine ci3 BK1243 ?_; intros
   go_wp2_with (first | ((with_reducible refine gate_callee (f := 78) rfl ?_); refine gZ 14 Try.func78 #[.agg #[.slice A0_0 l0_0.length c0_0, .slice A0_1 l0_1.length c0_1, .slice A0_2 l0_2.length c0_2]] ?_; (with_reducible refine (spec_l09All.calls k _ _ l0_0 _ _ l0_1 _ _ l0_2 t1245 _ ?_ ?_ ?_ ?_ ?_ ?_ A4.out).mono ?_); exact (Zu HR0_0); exact HC0_0.out; exact (Zu HR0_1); exact HC0_1.out; exact (Zu HR0_2); exact HC0_2.out; rintro e w9 ⟨v1246, rfl, ho0, hb⟩; refine ⟨_, rfl, ?_⟩; replace HO1247 := am_ (Kd.N_lower (Kd.N_mono (ok' := fun k_ => k_ ≠ gb1243) ho0 (fun k_ hk_ => (Kd.freshB (g := gb1243) (b0Z BK1243) k_ hk_))) (below_size (Zi GE1243))); replace BK1243 := (bkZ BK1243 hb); replace HB := (bsZ (Zi GE1243) hb); clear hb ho0))
   go_loopg [6, 7, 8] k (fun kq v6 v7 v8 w' => ∃ (x6_1 : Int) (x7_1 : Int) (x8_1 : Int), v6 = .int .i64 x6_1 ∧ v7 = .int .i64 x7_1 ∧ v8 = .int .i64 x8_1 ∧ Aside0 (spec_MostAtOnce.l0 kq t1245 x6_1 x7_1 x8_1 = some (r1, r2, r3)) ∧ Aside0 (kq ≤ k) ∧ Aside0 (Kd.N (Kd.slice 2 (Kd.int .i64)) 33 w' w.heap.size (fun k_ => k_ ≠ gb1243) v1246 t1245) ∧ Aside0 (w'.heap[gb1243]? = some (.cells #[(.slice A0_0 l0_0.length c0_0), (.slice A0_1 l0_1.length c0_1), (.slice A0_2 l0_2.length c0_2)] 28 (0, 0))) ∧ Aside0 (Below w.heap.size w w'))
   case atStart => exact ⟨(0), (0), (0), Za, Za, Za, H', ⟨Nat.le_refl _⟩, ⟨(Zcu HO1247)⟩, ⟨(Zh BK1243)⟩, ⟨(Zi GE1243)⟩⟩
   case round =>
    clear H'
    try clear p2
    try clear c3
    try clear c5
    try clear c7
    obtain ⟨x6_1, x7_1, x8_1, rfl, rfl, rfl, HA, HK1, HO_5, BK1243, HB⟩ := hrel
    cases gk with
    | zero => exact absurd HA.out (by simp [spec_MostAtOnce.l0])
    | succ k1 =>
     have H := HA.out; clear HA; simp only [spec_MostAtOnce.l0] at H
     by_cases c10 : x8_1 < (t1245.length : Int)
     ·rw [if_pos c10] at H
      have c10b0 := decide_eq_true c10; clear c10
      by_cases c11 : 0 ≤ x8_1
      ·rw [if_pos c11] at H
       have c11b0 := decide_eq_true c11; clear c11
       by_cases c12 : 0 < ((rd_L6 t1245 x8_1).length : Int)
       ·rw [if_pos c12] at H
        have c12b0 := decide_eq_true c12; have c12b1 : decide (0 < (rd_L6 t1245 x8_1).length) = true := decide_eq_true (by omega); clear c12; replace H := Option.bind_eq_some_iff.mp H; obtain ⟨t1250, A130, H⟩ := H; have A13 := am_ A130; clear A130
        by_cases c14 : t1250 > x7_1
        ·rw [if_pos c14] at H
         have c14b0 : decide (x7_1 < t1250) = true := decide_eq_true c14; clear c14; have H' := am_ H; clear H; obtain ⟨Ao15, co15, eo15⟩ := Kd.N_slice HO_5.out; subst eo15; have p1248 : 0 ≤ (x8_1 : Int) := of_decide_eq_true Zc; have q1248 : x8_1 < (t1245.length : Int) := of_decide_eq_true Zc; obtain ⟨ad1248, A1248_0, c1248_0, e1248, hx1248_0, hl1248_0, hi1248_0⟩ := at_L6 (Kd.N_reads' HO_5.out).2.2 x8_1 p1248 q1248
         cases e1248
         obtain ⟨ce1248, hce1248, hMe1248, hcc1248⟩ := Kd.N_get HO_5.out [] x8_1 p1248 (Zcv HO_5); obtain ⟨ua1248_0, uc1248_0, rfl, ul1248_0, ge1248_0⟩ := Kd.FK_slice_open hMe1248; have hv1248_0 := hcc1248 0 _ rfl; rw [Nat.add_zero, show ((Kd.slice 2 (Kd.int .i64))).sz = 1 from rfl, Nat.mul_one] at hv1248_0; replace hv1248_0 := Option.some.inj (hv1248_0.symm.trans hx1248_0); injection hv1248_0 with hva_ hvn_ hvc_; rw [hva_] at ge1248_0; rw [hvc_] at ul1248_0; have HL1248_0 := am_ (show Kd.V (Kd.int .i64) 2 _ w.heap.size _ _ (rd_L6 t1245 x8_1) from Kd.V_mk ul1248_0 ge1248_0); clear hva_ hvn_ hvc_ ge1248_0 ul1248_0; clear hcc1248 hce1248; have HR1248_0 := am_ hi1248_0; have HC1248_0 := am_ hl1248_0; clear hi1248_0 hl1248_0; replace p1248 := eq_true p1248; replace q1248 := eq_true q1248; have p1249 : 0 ≤ (0 : Int) := (by omega); have q1249 : 0 < ((rd_L6 t1245 x8_1).length : Int) := of_decide_eq_true Zc; obtain ⟨ad1249, e1249, hx1249_0⟩ := Kd.at_int (Zcs HR1248_0) 0 p1249 q1249
         cases e1249
         have qi1249 : (0 < (rd_L6 t1245 x8_1).length) = True := eq_true (by omega)
         (try rw [show ((0 : Int)).toNat = 0 from rfl] at hx1249_0)
         (try rw [Addr.add_zero'] at hx1249_0)
         replace p1249 := eq_true p1249; replace q1249 := eq_true q1249
         go_wp2_with (first | ((with_reducible refine gate_callee (f := 79) rfl ?_); refine gZ 28 Try.func79 #[.slice (some ad1248) t1245.length co15, .int .i64 (rd (rd_L6 t1245 x8_1) 0)] ?_; (with_reducible refine (spec_l09Count.calls k1 _ _ t1245 (rd (rd_L6 t1245 x8_1) 0) t1250 _ ?_ ?_ A13.out).mono ?_); exact (Zcw HO_5); exact (Kd.N_reads' HO_5.out).2.1; rintro e w' ⟨rfl, ⟨nd, rfl⟩⟩; refine ⟨_, rfl, ?_⟩; have p1251 : 0 ≤ (x8_1 : Int) := of_decide_eq_true Zc; have q1251 : x8_1 < (t1245.length : Int) := of_decide_eq_true Zc; obtain ⟨ad1251, A1251_0, c1251_0, e1251, hx1251_0, hl1251_0, hi1251_0⟩ := at_L6 (Kd.N_reads' HO_5.out).2.2 x8_1 p1251 q1251; obtain rfl : ad1248 = ad1251 := (by injection e1251); obtain ⟨ce1251, hce1251, hMe1251, hcc1251⟩ := Kd.N_get HO_5.out [] x8_1 p1251 (by first | exact q1251 | exact of_decide_eq_true Zc | (have e_ := (Kd.N_reads' HO_5.out).1; omega)); obtain ⟨ua1251_0, uc1251_0, rfl, ul1251_0, ge1251_0⟩ := Kd.FK_slice_open hMe1251; have hv1251_0 := hcc1251 0 _ rfl; rw [Nat.add_zero, show ((Kd.slice 2 (Kd.int .i64))).sz = 1 from rfl, Nat.mul_one] at hv1251_0; replace hv1251_0 := Option.some.inj (hv1251_0.symm.trans hx1251_0); injection hv1251_0 with hva_ hvn_ hvc_; rw [hva_] at ge1251_0; rw [hvc_] at ul1251_0; have HL1251_0 := am_ (show Kd.V (Kd.int .i64) 2 _ w.heap.size _ _ (rd_L6 t1245 x8_1) from Kd.V_mk ul1251_0 ge1251_0); clear hva_ hvn_ hvc_ ge1251_0 ul1251_0; clear hcc1251 hce1251; have HR1251_0 := am_ hi1251_0; have HC1251_0 := am_ hl1251_0; clear hi1251_0 hl1251_0; replace p1251 := eq_true p1251; replace q1251 := eq_true q1251; have ea_ := Option.some.inj (hx1248_0.symm.trans hx1251_0); injection ea_ with ea_ en_ ec_; subst ea_; subst ec_; clear en_; have p1252 : 0 ≤ (0 : Int) := (by omega); have q1252 : 0 < ((rd_L6 t1245 x8_1).length : Int) := of_decide_eq_true Zc; obtain ⟨ad1252, e1252, hx1252_0⟩ := Kd.at_int (Zcs HR1251_0) 0 p1252 q1252; cases e1252; have qi1252 : (0 < (rd_L6 t1245 x8_1).length) = True := eq_true (by omega); (try rw [show ((0 : Int)).toNat = 0 from rfl] at hx1252_0); (try rw [Addr.add_zero'] at hx1252_0); replace p1252 := eq_true p1252; replace q1252 := eq_true q1252))
         go_roundg k1
         case measure => have := HK1.out; omega
         case rel => exact ⟨(rd (rd_L6 t1245 x8_1) 0), (t1250), (wrap64 (x8_1 + 1)), Za, Za, Za, H', ⟨Zd⟩, ⟨(Zcu HO_5)⟩, ⟨(Zh BK1243)⟩, ⟨(Zi GE1243)⟩⟩
        ·rw [if_neg c14] at H
         have c14b0 : decide (x7_1 < t1250) = false := decide_eq_false c14; clear c14
         by_cases c16 : t1250 = x7_1
         ·rw [if_pos c16] at H
          have c16b0 := beq_iff_eq.mpr c16; have c16b1 := bne_eq_false_iff_eq.mpr c16; clear c16
          by_cases c17 : (rd (rd_L6 t1245 x8_1) 0) < x6_1
          ·rw [if_pos c17] at H
           have c17b0 := decide_eq_true c17; clear c17; have H' := am_ H; clear H; obtain ⟨Ao18, co18, eo18⟩ := Kd.N_slice HO_5.out; subst eo18; have p1248 : 0 ≤ (x8_1 : Int) := of_decide_eq_true Zc; have q1248 : x8_1 < (t1245.length : Int) := of_decide_eq_true Zc; obtain ⟨ad1248, A1248_0, c1248_0, e1248, hx1248_0, hl1248_0, hi1248_0⟩ := at_L6 (Kd.N_reads' HO_5.out).2.2 x8_1 p1248 q1248
           cases e1248
           obtain ⟨ce1248, hce1248, hMe1248, hcc1248⟩ := Kd.N_get HO_5.out [] x8_1 p1248 (Zcv HO_5); obtain ⟨ua1248_0, uc1248_0, rfl, ul1248_0, ge1248_0⟩ := Kd.FK_slice_open hMe1248; have hv1248_0 := hcc1248 0 _ rfl; rw [Nat.add_zero, show ((Kd.slice 2 (Kd.int .i64))).sz = 1 from rfl, Nat.mul_one] at hv1248_0; replace hv1248_0 := Option.some.inj (hv1248_0.symm.trans hx1248_0); injection hv1248_0 with hva_ hvn_ hvc_; rw [hva_] at ge1248_0; rw [hvc_] at ul1248_0; have HL1248_0 := am_ (show Kd.V (Kd.int .i64) 2 _ w.heap.size _ _ (rd_L6 t1245 x8_1) from Kd.V_mk ul1248_0 ge1248_0); clear hva_ hvn_ hvc_ ge1248_0 ul1248_0; clear hcc1248 hce1248; have HR1248_0 := am_ hi1248_0; have HC1248_0 := am_ hl1248_0; clear hi1248_0 hl1248_0; replace p1248 := eq_true p1248; replace q1248 := eq_true q1248; have p1249 : 0 ≤ (0 : Int) := (by omega); have q1249 : 0 < ((rd_L6 t1245 x8_1).length : Int) := of_decide_eq_true Zc; obtain ⟨ad1249, e1249, hx1249_0⟩ := Kd.at_int (Zcs HR1248_0) 0 p1249 q1249
           cases e1249
           have qi1249 : (0 < (rd_L6 t1245 x8_1).length) = True := eq_true (by omega)
           (try rw [show ((0 : Int)).toNat = 0 from rfl] at hx1249_0)
           (try rw [Addr.add_zero'] at hx1249_0)
           replace p1249 := eq_true p1249; replace q1249 := eq_true q1249
           go_wp2_with (first | ((with_reducible refine gate_callee (f := 79) rfl ?_); refine gZ 28 Try.func79 #[.slice (some ad1248) t1245.length co18, .int .i64 (rd (rd_L6 t1245 x8_1) 0)] ?_; (with_reducible refine (spec_l09Count.calls k1 _ _ t1245 (rd (rd_L6 t1245 x8_1) 0) t1250 _ ?_ ?_ A13.out).mono ?_); exact (Zcw HO_5); exact (Kd.N_reads' HO_5.out).2.1; rintro e w' ⟨rfl, ⟨nd, rfl⟩⟩; refine ⟨_, rfl, ?_⟩; have p1253 : 0 ≤ (x8_1 : Int) := of_decide_eq_true Zc; have q1253 : x8_1 < (t1245.length : Int) := of_decide_eq_true Zc; obtain ⟨ad1253, A1253_0, c1253_0, e1253, hx1253_0, hl1253_0, hi1253_0⟩ := at_L6 (Kd.N_reads' HO_5.out).2.2 x8_1 p1253 q1253; obtain rfl : ad1248 = ad1253 := (by injection e1253); obtain ⟨ce1253, hce1253, hMe1253, hcc1253⟩ := Kd.N_get HO_5.out [] x8_1 p1253 (by first | exact q1253 | exact of_decide_eq_true Zc | (have e_ := (Kd.N_reads' HO_5.out).1; omega)); obtain ⟨ua1253_0, uc1253_0, rfl, ul1253_0, ge1253_0⟩ := Kd.FK_slice_open hMe1253; have hv1253_0 := hcc1253 0 _ rfl; rw [Nat.add_zero, show ((Kd.slice 2 (Kd.int .i64))).sz = 1 from rfl, Nat.mul_one] at hv1253_0; replace hv1253_0 := Option.some.inj (hv1253_0.symm.trans hx1253_0); injection hv1253_0 with hva_ hvn_ hvc_; rw [hva_] at ge1253_0; rw [hvc_] at ul1253_0; have HL1253_0 := am_ (show Kd.V (Kd.int .i64) 2 _ w.heap.size _ _ (rd_L6 t1245 x8_1) from Kd.V_mk ul1253_0 ge1253_0); clear hva_ hvn_ hvc_ ge1253_0 ul1253_0; clear hcc1253 hce1253; have HR1253_0 := am_ hi1253_0; have HC1253_0 := am_ hl1253_0; clear hi1253_0 hl1253_0; replace p1253 := eq_true p1253; replace q1253 := eq_true q1253; have ea_ := Option.some.inj (hx1248_0.symm.trans hx1253_0); injection ea_ with ea_ en_ ec_; subst ea_; subst ec_; clear en_; have p1254 : 0 ≤ (0 : Int) := (by omega); have q1254 : 0 < ((rd_L6 t1245 x8_1).length : Int) := of_decide_eq_true Zc; obtain ⟨ad1254, e1254, hx1254_0⟩ := Kd.at_int (Zcs HR1253_0) 0 p1254 q1254; cases e1254; have qi1254 : (0 < (rd_L6 t1245 x8_1).length) = True := eq_true (by omega); (try rw [show ((0 : Int)).toNat = 0 from rfl] at hx1254_0); (try rw [Addr.add_zero'] at hx1254_0); replace p1254 := eq_true p1254; replace q1254 := eq_true q1254; have p1255 : 0 ≤ (x8_1 : Int) := of_decide_eq_true Zc; have q1255 : x8_1 < (t1245.length : Int) := of_decide_eq_true Zc; obtain ⟨ad1255, A1255_0, c1255_0, e1255, hx1255_0, hl1255_0, hi1255_0⟩ := at_L6 (Kd.N_reads' HO_5.out).2.2 x8_1 p1255 q1255; obtain rfl : ad1248 = ad1255 := (by injection e1255); obtain ⟨ce1255, hce1255, hMe1255, hcc1255⟩ := Kd.N_get HO_5.out [] x8_1 p1255 (by first | exact q1255 | exact of_decide_eq_true Zc | (have e_ := (Kd.N_reads' HO_5.out).1; omega)); obtain ⟨ua1255_0, uc1255_0, rfl, ul1255_0, ge1255_0⟩ := Kd.FK_slice_open hMe1255; have hv1255_0 := hcc1255 0 _ rfl; rw [Nat.add_zero, show ((Kd.slice 2 (Kd.int .i64))).sz = 1 from rfl, Nat.mul_one] at hv1255_0; replace hv1255_0 := Option.some.inj (hv1255_0.symm.trans hx1255_0); injection hv1255_0 with hva_ hvn_ hvc_; rw [hva_] at ge1255_0; rw [hvc_] at ul1255_0; have HL1255_0 := am_ (show Kd.V (Kd.int .i64) 2 _ w.heap.size _ _ (rd_L6 t1245 x8_1) from Kd.V_mk ul1255_0 ge1255_0); clear hva_ hvn_ hvc_ ge1255_0 ul1255_0; clear hcc1255 hce1255; have HR1255_0 := am_ hi1255_0; have HC1255_0 := am_ hl1255_0; clear hi1255_0 hl1255_0; replace p1255 := eq_true p1255; replace q1255 := eq_true q1255; have ea_ := Option.some.inj (hx1248_0.symm.trans hx1255_0); injection ea_ with ea_ en_ ec_; subst ea_; subst ec_; clear en_; have p1256 : 0 ≤ (0 : Int) := (by omega); have q1256 : 0 < ((rd_L6 t1245 x8_1).length : Int) := of_decide_eq_true Zc; obtain ⟨ad1256, e1256, hx1256_0⟩ := Kd.at_int (Zcs HR1255_0) 0 p1256 q1256; cases e1256; have qi1256 : (0 < (rd_L6 t1245 x8_1).length) = True := eq_true (by omega); (try rw [show ((0 : Int)).toNat = 0 from rfl] at hx1256_0); (try rw [Addr.add_zero'] at hx1256_0); replace p1256 := eq_true p1256; replace q1256 := eq_true q1256))
           go_roundg k1
           case measure => have := HK1.out; omega
           case rel => exact ⟨(rd (rd_L6 t1245 x8_1) 0), (t1250), (wrap64 (x8_1 + 1)), Za, Za, Za, H', ⟨Zd⟩, ⟨(Zcu HO_5)⟩, ⟨(Zh BK1243)⟩, ⟨(Zi GE1243)⟩⟩
          ·rw [if_neg c17] at H
           have c17b0 := decide_eq_false c17; clear c17; have H' := am_ H; clear H; obtain ⟨Ao19, co19, eo19⟩ := Kd.N_slice HO_5.out; subst eo19; have p1248 : 0 ≤ (x8_1 : Int) := of_decide_eq_true Zc; have q1248 : x8_1 < (t1245.length : Int) := of_decide_eq_true Zc; obtain ⟨ad1248, A1248_0, c1248_0, e1248, hx1248_0, hl1248_0, hi1248_0⟩ := at_L6 (Kd.N_reads' HO_5.out).2.2 x8_1 p1248 q1248
           cases e1248
           obtain ⟨ce1248, hce1248, hMe1248, hcc1248⟩ := Kd.N_get HO_5.out [] x8_1 p1248 (Zcv HO_5); obtain ⟨ua1248_0, uc1248_0, rfl, ul1248_0, ge1248_0⟩ := Kd.FK_slice_open hMe1248; have hv1248_0 := hcc1248 0 _ rfl; rw [Nat.add_zero, show ((Kd.slice 2 (Kd.int .i64))).sz = 1 from rfl, Nat.mul_one] at hv1248_0; replace hv1248_0 := Option.some.inj (hv1248_0.symm.trans hx1248_0); injection hv1248_0 with hva_ hvn_ hvc_; rw [hva_] at ge1248_0; rw [hvc_] at ul1248_0; have HL1248_0 := am_ (show Kd.V (Kd.int .i64) 2 _ w.heap.size _ _ (rd_L6 t1245 x8_1) from Kd.V_mk ul1248_0 ge1248_0); clear hva_ hvn_ hvc_ ge1248_0 ul1248_0; clear hcc1248 hce1248; have HR1248_0 := am_ hi1248_0; have HC1248_0 := am_ hl1248_0; clear hi1248_0 hl1248_0; replace p1248 := eq_true p1248; replace q1248 := eq_true q1248; have p1249 : 0 ≤ (0 : Int) := (by omega); have q1249 : 0 < ((rd_L6 t1245 x8_1).length : Int) := of_decide_eq_true Zc; obtain ⟨ad1249, e1249, hx1249_0⟩ := Kd.at_int (Zcs HR1248_0) 0 p1249 q1249
           cases e1249
           have qi1249 : (0 < (rd_L6 t1245 x8_1).length) = True := eq_true (by omega)
           (try rw [show ((0 : Int)).toNat = 0 from rfl] at hx1249_0)
           (try rw [Addr.add_zero'] at hx1249_0)
           replace p1249 := eq_true p1249; replace q1249 := eq_true q1249
           go_wp2_with (first | ((with_reducible refine gate_callee (f := 79) rfl ?_); refine gZ 28 Try.func79 #[.slice (some ad1248) t1245.length co19, .int .i64 (rd (rd_L6 t1245 x8_1) 0)] ?_; (with_reducible refine (spec_l09Count.calls k1 _ _ t1245 (rd (rd_L6 t1245 x8_1) 0) t1250 _ ?_ ?_ A13.out).mono ?_); exact (Zcw HO_5); exact (Kd.N_reads' HO_5.out).2.1; rintro e w' ⟨rfl, ⟨nd, rfl⟩⟩; refine ⟨_, rfl, ?_⟩; have p1253 : 0 ≤ (x8_1 : Int) := of_decide_eq_true Zc; have q1253 : x8_1 < (t1245.length : Int) := of_decide_eq_true Zc; obtain ⟨ad1253, A1253_0, c1253_0, e1253, hx1253_0, hl1253_0, hi1253_0⟩ := at_L6 (Kd.N_reads' HO_5.out).2.2 x8_1 p1253 q1253; obtain rfl : ad1248 = ad1253 := (by injection e1253); obtain ⟨ce1253, hce1253, hMe1253, hcc1253⟩ := Kd.N_get HO_5.out [] x8_1 p1253 (by first | exact q1253 | exact of_decide_eq_true Zc | (have e_ := (Kd.N_reads' HO_5.out).1; omega)); obtain ⟨ua1253_0, uc1253_0, rfl, ul1253_0, ge1253_0⟩ := Kd.FK_slice_open hMe1253; have hv1253_0 := hcc1253 0 _ rfl; rw [Nat.add_zero, show ((Kd.slice 2 (Kd.int .i64))).sz = 1 from rfl, Nat.mul_one] at hv1253_0; replace hv1253_0 := Option.some.inj (hv1253_0.symm.trans hx1253_0); injection hv1253_0 with hva_ hvn_ hvc_; rw [hva_] at ge1253_0; rw [hvc_] at ul1253_0; have HL1253_0 := am_ (show Kd.V (Kd.int .i64) 2 _ w.heap.size _ _ (rd_L6 t1245 x8_1) from Kd.V_mk ul1253_0 ge1253_0); clear hva_ hvn_ hvc_ ge1253_0 ul1253_0; clear hcc1253 hce1253; have HR1253_0 := am_ hi1253_0; have HC1253_0 := am_ hl1253_0; clear hi1253_0 hl1253_0; replace p1253 := eq_true p1253; replace q1253 := eq_true q1253; have ea_ := Option.some.inj (hx1248_0.symm.trans hx1253_0); injection ea_ with ea_ en_ ec_; subst ea_; subst ec_; clear en_; have p1254 : 0 ≤ (0 : Int) := (by omega); have q1254 : 0 < ((rd_L6 t1245 x8_1).length : Int) := of_decide_eq_true Zc; obtain ⟨ad1254, e1254, hx1254_0⟩ := Kd.at_int (Zcs HR1253_0) 0 p1254 q1254; cases e1254; have qi1254 : (0 < (rd_L6 t1245 x8_1).length) = True := eq_true (by omega); (try rw [show ((0 : Int)).toNat = 0 from rfl] at hx1254_0); (try rw [Addr.add_zero'] at hx1254_0); replace p1254 := eq_true p1254; replace q1254 := eq_true q1254))
           go_roundg k1
           case measure => have := HK1.out; omega
           case rel => exact ⟨(x6_1), (x7_1), (wrap64 (x8_1 + 1)), Za, Za, Za, H', ⟨Zd⟩, ⟨(Zcu HO_5)⟩, ⟨(Zh BK1243)⟩, ⟨(Zi GE1243)⟩⟩
         ·rw [if_neg c16] at H
          have c16b0 := beq_eq_false_iff_ne.mpr c16; have c16b1 := bne_iff_ne.mpr c16; have H' := am_ H; clear H; obtain ⟨Ao20, co20, eo20⟩ := Kd.N_slice HO_5.out; subst eo20; have p1248 : 0 ≤ (x8_1 : Int) := of_decide_eq_true Zc; have q1248 : x8_1 < (t1245.length : Int) := of_decide_eq_true Zc; obtain ⟨ad1248, A1248_0, c1248_0, e1248, hx1248_0, hl1248_0, hi1248_0⟩ := at_L6 (Kd.N_reads' HO_5.out).2.2 x8_1 p1248 q1248
          cases e1248
          obtain ⟨ce1248, hce1248, hMe1248, hcc1248⟩ := Kd.N_get HO_5.out [] x8_1 p1248 (Zcv HO_5); obtain ⟨ua1248_0, uc1248_0, rfl, ul1248_0, ge1248_0⟩ := Kd.FK_slice_open hMe1248; have hv1248_0 := hcc1248 0 _ rfl; rw [Nat.add_zero, show ((Kd.slice 2 (Kd.int .i64))).sz = 1 from rfl, Nat.mul_one] at hv1248_0; replace hv1248_0 := Option.some.inj (hv1248_0.symm.trans hx1248_0); injection hv1248_0 with hva_ hvn_ hvc_; rw [hva_] at ge1248_0; rw [hvc_] at ul1248_0; have HL1248_0 := am_ (show Kd.V (Kd.int .i64) 2 _ w.heap.size _ _ (rd_L6 t1245 x8_1) from Kd.V_mk ul1248_0 ge1248_0); clear hva_ hvn_ hvc_ ge1248_0 ul1248_0; clear hcc1248 hce1248; have HR1248_0 := am_ hi1248_0; have HC1248_0 := am_ hl1248_0; clear hi1248_0 hl1248_0; replace p1248 := eq_true p1248; replace q1248 := eq_true q1248; have p1249 : 0 ≤ (0 : Int) := (by omega); have q1249 : 0 < ((rd_L6 t1245 x8_1).length : Int) := of_decide_eq_true Zc; obtain ⟨ad1249, e1249, hx1249_0⟩ := Kd.at_int (Zcs HR1248_0) 0 p1249 q1249
          cases e1249
          have qi1249 : (0 < (rd_L6 t1245 x8_1).length) = True := eq_true (by omega)
          (try rw [show ((0 : Int)).toNat = 0 from rfl] at hx1249_0)
          (try rw [Addr.add_zero'] at hx1249_0)
          replace p1249 := eq_true p1249; replace q1249 := eq_true q1249
          go_wp2_with (first | ((with_reducible refine gate_callee (f := 79) rfl ?_); refine gZ 28 Try.func79 #[.slice (some ad1248) t1245.length co20, .int .i64 (rd (rd_L6 t1245 x8_1) 0)] ?_; (with_reducible refine (spec_l09Count.calls k1 _ _ t1245 (rd (rd_L6 t1245 x8_1) 0) t1250 _ ?_ ?_ A13.out).mono ?_); exact (Zcw HO_5); exact (Kd.N_reads' HO_5.out).2.1; rintro e w' ⟨rfl, ⟨nd, rfl⟩⟩; refine ⟨_, rfl, ?_⟩))
          go_roundg k1
          case measure => have := HK1.out; omega
          case rel => exact ⟨(x6_1), (x7_1), (wrap64 (x8_1 + 1)), Za, Za, Za, H', ⟨Zd⟩, ⟨(Zcu HO_5)⟩, ⟨(Zh BK1243)⟩, ⟨(Zi GE1243)⟩⟩
       ·rw [if_neg c12] at H
        exact absurd H (by simp)
      ·rw [if_neg c11] at H
       exact absurd H (by simp)
     ·rw [if_neg c10] at H
      have c10b0 := decide_eq_false c10; clear c10; simp only [Option.some.injEq, Prod.mk.injEq] at H; obtain ⟨rfl, rfl, rfl⟩ := H; obtain ⟨Ao21, co21, eo21⟩ := Kd.N_slice HO_5.out; subst eo21
      go_wp2
      go_ret3
      exact ⟨Zl, (Zi GE1243)⟩
  ·have H := HS_.out
   clear HS_; replace c3 := Bool.eq_false_iff.mpr c3; subst c3; rw [if_neg (show ¬ (false = true) by decide)] at H; simp only [Option.some.injEq, Prod.mk.injEq] at H; obtain ⟨rfl, rfl, rfl⟩ := H
   go_wp2_with (first | fail)
   go_ret3
   exact ⟨Zl, (Zi GE1243)⟩
def impl_WindowsOf.f (k : Nat) (l0_0 : List (S104)) (l0_1 : List (S62)) (l0_2 : List (S39)) : Option ((List (List Int)) × Int) := (impl_IsShow.f k l0_0 l0_1 l0_2).bind fun t1258 => (if t1258 = true then ((impl_windowsOf.f k l0_0 l0_1 l0_2).bind fun t1259 => (some (t1259, 0))) else (some (([] : List (List Int)), 1)))
set_option maxHeartbeats 8000000 in
set_option maxRecDepth 100000 in
theorem impl_WindowsOf.calls (k : Nat) (A0_0 : Option Addr) (c0_0 : Nat) (l0_0 : List (S104)) (A0_1 : Option Addr) (c0_1 : Nat) (l0_1 : List (S62)) (A0_2 : Option Addr) (c0_2 : Nat) (l0_2 : List (S39)) (r1 : List (List Int)) (r2 : Int) (w : World) (hr0_0 : Kd.C k104 w A0_0 l0_0.length l0_0) (hc0_0 : l0_0.length ≤ c0_0) (hr0_1 : Kd.C k62 w A0_1 l0_1.length l0_1) (hc0_1 : l0_1.length ≤ c0_1) (hr0_2 : Kd.C k39 w A0_2 l0_2.length l0_2) (hc0_2 : l0_2.length ≤ c0_2) (h : impl_WindowsOf.f k l0_0 l0_1 l0_2 = some (r1, r2)) :
  Calls Try.prog 39 #[.agg #[.slice A0_0 l0_0.length c0_0, .slice A0_1 l0_1.length c0_1, .slice A0_2 l0_2.length c0_2]] w fun e w' => ∃ v0_ : Value, e = .returned (.tuple #[v0_, .int .i64 r2]) ∧ Kd.S (Kd.slice 2 (Kd.int .i64)) 33 w' w.heap.size (fun _ => True) v0_ r1 ∧ Below w.heap.size w w' := by
 have hu28 := Try.underlying28; have HR0_0 := am_ hr0_0; have HC0_0 := am_ hc0_0; clear hr0_0 hc0_0; have HR0_1 := am_ hr0_1; have HC0_1 := am_ hc0_1; clear hr0_1 hc0_1; have HR0_2 := am_ hr0_2; have HC0_2 := am_ hc0_2; clear hr0_2 hc0_2; have HB := am_ (Below.refl w.heap.size w); have H : ((impl_IsShow.f k l0_0 l0_1 l0_2).bind fun t1258 => (if t1258 = true then ((impl_windowsOf.f k l0_0 l0_1 l0_2).bind fun t1259 => (some (t1259, 0))) else (some (([] : List (List Int)), 1)))) = some (r1, r2) := h; clear h; replace H := Option.bind_eq_some_iff.mp H; obtain ⟨t1258, A20, H⟩ := H; have A2 := am_ A20; clear A20; have HS_ := am_ H; clear H
 go_enter Try.func39, Try.ntmps39
 go_wp2_with (first | ((with_reducible refine gate_dst (N := 1) rfl ?_); refine boxZ 1 #[.slice A0_0 l0_0.length c0_0, .slice A0_1 l0_1.length c0_1, .slice A0_2 l0_2.length c0_2] 28 ?_; intro gb1257 hg w5 hbox hb; replace BK1257 := am_ (hbox); replace GW1257 := am_ ((Zr : w.heap.size ≤ gb1257)); replace GE1257 := GW1257; replace HB := (bsZ Zf hb); clear hb hbox hg; refine ci3 BK1257 ?_; intros) | ((with_reducible refine gate_callee (f := 25) rfl ?_); refine gZ 5 Try.func25 #[.agg #[.slice A0_0 l0_0.length c0_0, .slice A0_1 l0_1.length c0_1, .slice A0_2 l0_2.length c0_2]] ?_; (with_reducible refine (impl_IsShow.calls k _ _ l0_0 _ _ l0_1 _ _ l0_2 t1258 _ ?_ ?_ ?_ ?_ ?_ ?_ A2.out).mono ?_); exact (Zu HR0_0); exact HC0_0.out; exact (Zu HR0_1); exact HC0_1.out; exact (Zu HR0_2); exact HC0_2.out; rintro e w7 ⟨rfl, hb⟩; refine ⟨_, rfl, ?_⟩; replace BK1257 := (bkZ BK1257 hb); replace HB := (bsZ (Zi GE1257) hb); clear hb; refine ?roundEnd))
 case roundEnd =>
  by_cases c3 : t1258 = true
  ·have H := HS_.out
   clear HS_; subst c3; rw [if_pos rfl] at H; replace H := Option.bind_eq_some_iff.mp H; obtain ⟨t1259, A40, H⟩ := H; have A4 := am_ A40; clear A40; simp only [Option.some.injEq, Prod.mk.injEq] at H; obtain ⟨rfl, rfl⟩ := H; refine ci3 BK1257 ?_; intros
   go_wp2_with (first | ((with_reducible refine gate_callee (f := 77) rfl ?_); refine gZ 8 Try.func77 #[.agg #[.slice A0_0 l0_0.length c0_0, .slice A0_1 l0_1.length c0_1, .slice A0_2 l0_2.length c0_2]] ?_; (with_reducible refine (impl_windowsOf.calls k _ _ l0_0 _ _ l0_1 _ _ l0_2 t1259 _ ?_ ?_ ?_ ?_ ?_ ?_ A4.out).mono ?_); exact (Zu HR0_0); exact HC0_0.out; exact (Zu HR0_1); exact HC0_1.out; exact (Zu HR0_2); exact HC0_2.out; rintro e w9 ⟨v1260, rfl, ho0, hb⟩; refine ⟨_, rfl, ?_⟩; replace HO1261 := am_ (Kd.S_lower ho0 (below_size (Zi GE1257))); replace BK1257 := (bkZ BK1257 hb); replace HB := (bsZ (Zi GE1257) hb); clear hb ho0))
   go_ret2
   exact ⟨_, Zl, (Zcp HO1261), (Zi GE1257)⟩
  ·have H := HS_.out
   clear HS_; replace c3 := Bool.eq_false_iff.mpr c3; subst c3; rw [if_neg (show ¬ (false = true) by decide)] at H; simp only [Option.some.injEq, Prod.mk.injEq] at H; obtain ⟨rfl, rfl⟩ := H
   go_wp2_with (first | fail)
   go_ret2
   exact ⟨_, Zl, Zco, (Zi GE1257)⟩
def spec_WindowsOf.f (k : Nat) (l0_0 : List (S104)) (l0_1 : List (S62)) (l0_2 : List (S39)) : Option ((List (List Int)) × Int) := (spec_IsShow.f k l0_0 l0_1 l0_2).bind fun t1263 => (if t1263 = true then ((spec_l09All.f k l0_0 l0_1 l0_2).bind fun t1264 => (some (t1264, 0))) else (some (([] : List (List Int)), 1)))
set_option maxHeartbeats 8000000 in
set_option maxRecDepth 100000 in
theorem spec_WindowsOf.calls (k : Nat) (A0_0 : Option Addr) (c0_0 : Nat) (l0_0 : List (S104)) (A0_1 : Option Addr) (c0_1 : Nat) (l0_1 : List (S62)) (A0_2 : Option Addr) (c0_2 : Nat) (l0_2 : List (S39)) (r1 : List (List Int)) (r2 : Int) (w : World) (hr0_0 : Kd.C k104 w A0_0 l0_0.length l0_0) (hc0_0 : l0_0.length ≤ c0_0) (hr0_1 : Kd.C k62 w A0_1 l0_1.length l0_1) (hc0_1 : l0_1.length ≤ c0_1) (hr0_2 : Kd.C k39 w A0_2 l0_2.length l0_2) (hc0_2 : l0_2.length ≤ c0_2) (h : spec_WindowsOf.f k l0_0 l0_1 l0_2 = some (r1, r2)) :
  Calls Try.prog 40 #[.agg #[.slice A0_0 l0_0.length c0_0, .slice A0_1 l0_1.length c0_1, .slice A0_2 l0_2.length c0_2]] w fun e w' => ∃ v0_ : Value, e = .returned (.tuple #[v0_, .int .i64 r2]) ∧ Kd.N (Kd.slice 2 (Kd.int .i64)) 33 w' w.heap.size (fun k_ => (w.heap.size ≤ k_)) v0_ r1 ∧ Below w.heap.size w w' := by
 have hu28 := Try.underlying28; have HR0_0 := am_ hr0_0; have HC0_0 := am_ hc0_0; clear hr0_0 hc0_0; have HR0_1 := am_ hr0_1; have HC0_1 := am_ hc0_1; clear hr0_1 hc0_1; have HR0_2 := am_ hr0_2; have HC0_2 := am_ hc0_2; clear hr0_2 hc0_2; have HB := am_ (Below.refl w.heap.size w); have H : ((spec_IsShow.f k l0_0 l0_1 l0_2).bind fun t1263 => (if t1263 = true then ((spec_l09All.f k l0_0 l0_1 l0_2).bind fun t1264 => (some (t1264, 0))) else (some (([] : List (List Int)), 1)))) = some (r1, r2) := h; clear h; replace H := Option.bind_eq_some_iff.mp H; obtain ⟨t1263, A20, H⟩ := H; have A2 := am_ A20; clear A20; have HS_ := am_ H; clear H
 go_enter Try.func40, Try.ntmps40
 go_wp2_with (first | ((with_reducible refine gate_dst (N := 1) rfl ?_); refine boxZ 1 #[.slice A0_0 l0_0.length c0_0, .slice A0_1 l0_1.length c0_1, .slice A0_2 l0_2.length c0_2] 28 ?_; intro gb1262 hg w5 hbox hb; replace BK1262 := am_ (hbox); replace GW1262 := am_ ((Zr : w.heap.size ≤ gb1262)); replace GE1262 := GW1262; replace HB := (bsZ Zf hb); clear hb hbox hg; refine ci3 BK1262 ?_; intros) | ((with_reducible refine gate_callee (f := 56) rfl ?_); refine gZ 5 Try.func56 #[.agg #[.slice A0_0 l0_0.length c0_0, .slice A0_1 l0_1.length c0_1, .slice A0_2 l0_2.length c0_2]] ?_; (with_reducible refine (spec_IsShow.calls k _ _ l0_0 _ _ l0_1 _ _ l0_2 t1263 _ ?_ ?_ ?_ ?_ ?_ ?_ A2.out).mono ?_); exact (Zu HR0_0); exact HC0_0.out; exact (Zu HR0_1); exact HC0_1.out; exact (Zu HR0_2); exact HC0_2.out; rintro e w7 ⟨rfl, hb⟩; refine ⟨_, rfl, ?_⟩; replace BK1262 := (bkZ BK1262 hb); replace HB := (bsZ (Zi GE1262) hb); clear hb; refine ?roundEnd))
 case roundEnd =>
  by_cases c3 : t1263 = true
  ·have H := HS_.out
   clear HS_; subst c3; rw [if_pos rfl] at H; replace H := Option.bind_eq_some_iff.mp H; obtain ⟨t1264, A40, H⟩ := H; have A4 := am_ A40; clear A40; simp only [Option.some.injEq, Prod.mk.injEq] at H; obtain ⟨rfl, rfl⟩ := H; refine ci3 BK1262 ?_; intros
   go_wp2_with (first | ((with_reducible refine gate_callee (f := 78) rfl ?_); refine gZ 8 Try.func78 #[.agg #[.slice A0_0 l0_0.length c0_0, .slice A0_1 l0_1.length c0_1, .slice A0_2 l0_2.length c0_2]] ?_; (with_reducible refine (spec_l09All.calls k _ _ l0_0 _ _ l0_1 _ _ l0_2 t1264 _ ?_ ?_ ?_ ?_ ?_ ?_ A4.out).mono ?_); exact (Zu HR0_0); exact HC0_0.out; exact (Zu HR0_1); exact HC0_1.out; exact (Zu HR0_2); exact HC0_2.out; rintro e w9 ⟨v1265, rfl, ho0, hb⟩; refine ⟨_, rfl, ?_⟩; replace HO1266 := am_ (Kd.N_lower (Kd.N_mono (ok' := fun k_ => (w.heap.size ≤ k_) ∧ k_ ≠ gb1262) ho0 (fun k_ hk_ => ⟨(Nat.le_trans (below_size (Zi GE1262)) hk_), (Kd.freshB (g := gb1262) (b0Z BK1262) k_ hk_)⟩)) (below_size (Zi GE1262))); replace BK1262 := (bkZ BK1262 hb); replace HB := (bsZ (Zi GE1262) hb); clear hb ho0))
   go_ret2
   exact ⟨_, Zl, by (with_reducible repeat (first | apply Kd.N_alloc | apply Kd.N_drewN | apply Kd.N_drew)); exact Kd.N_mono HO1266.out (fun _ hk => hk.1), (Zi GE1262)⟩
  ·have H := HS_.out
   clear HS_; replace c3 := Bool.eq_false_iff.mpr c3; subst c3; rw [if_neg (show ¬ (false = true) by decide)] at H; simp only [Option.some.injEq, Prod.mk.injEq] at H; obtain ⟨rfl, rfl⟩ := H
   go_wp2_with (first | fail)
   go_ret2
   exact ⟨_, Zl, Zco, (Zi GE1262)⟩
def spec_DrawOffBeat.f (k : Nat) (l0 : List Int) : Option ((List (S104)) × (List (S62)) × (List (S39)) × Int) := (spec_l01From.f k l0).bind fun bt1268 => ((spec_l08Draw.f k bt1268.1 bt1268.2.1 bt1268.2.2).bind fun bt1272 => ((spec_l01Next.f bt1268.1 bt1272.2.2.2.1 bt1272.2.2.2.2 300).bind fun bt1284 => ((spec_l01Next.f bt1268.1 bt1284.2.1 bt1284.2.2 100).bind fun bt1287 => ((spec_l01Pick.f bt1268.1 bt1287.2.1 bt1287.2.2 (([bt1284.1, bt1287.1, 0, 10000, 10001, (-1)] : List Int))).bind fun bt1293 => (some (bt1272.1, bt1272.2.1, bt1272.2.2.1, bt1293.1))))))
def spec_DrawOffBeat.T3 : Bool × List (List Nat × List Nat) := (true, [([], []), ([], []), ([], []), ([2], [2]), ([], []), ([4, 3], [4]), ([3, 5], [3, 5]), ([1, 6, 5], [1, 6]), ([0, 7, 0], [0]), ([7, 8, 0, 1, 2, 3, 4, 5, 6, 7, 8], [7])])
def spec_DrawOffBeat.B3 : List Nat := [0, 0, 0, 4, 0, 28, 60, 126, 255, 511]
theorem spec_DrawOffBeat.tab3 : rtab .any (opsOf Try.f41 3) = spec_DrawOffBeat.T3 := by kernel_rfl
theorem spec_DrawOffBeat.bits3 : waitsOk spec_DrawOffBeat.T3.2 spec_DrawOffBeat.B3 = true := by kernel_rfl
set_option maxHeartbeats 8000000 in
set_option maxRecDepth 100000 in
theorem spec_DrawOffBeat.calls (k : Nat) (A0 : Option Addr) (c0 : Nat) (l0 : List Int) (r1 : List (S104)) (r2 : List (S62)) (r3 : List (S39)) (r4 : Int) (w : World) (hr0 : Kd.C (Kd.int .u8) w A0 l0.length l0) (hc0 : l0.length ≤ c0) (h : spec_DrawOffBeat.f k l0 = some (r1, r2, r3, r4)) :
  Calls Try.prog 41 #[.slice A0 l0.length c0] w fun e w' => ∃ v0_ v1_ v2_ : Value, e = .returned (.tuple #[.agg #[v0_, v1_, v2_], .int .i64 r4]) ∧ Kd.R k104 104 w' w.heap.size (fun _ => True) v0_ r1 ∧ Kd.R k62 62 w' w.heap.size (fun _ => True) v1_ r2 ∧ Kd.R k39 39 w' w.heap.size (fun _ => True) v2_ r3 ∧ Below w.heap.size w w' := by
 have hu28 := Try.underlying28; have HR0 := am_ hr0; have HC0 := am_ hc0; clear hr0 hc0; have HB := am_ (Below.refl w.heap.size w); have H : ((spec_l01From.f k l0).bind fun bt1268 => ((spec_l08Draw.f k bt1268.1 bt1268.2.1 bt1268.2.2).bind fun bt1272 => ((spec_l01Next.f bt1268.1 bt1272.2.2.2.1 bt1272.2.2.2.2 300).bind fun bt1284 => ((spec_l01Next.f bt1268.1 bt1284.2.1 bt1284.2.2 100).bind fun bt1287 => ((spec_l01Pick.f bt1268.1 bt1287.2.1 bt1287.2.2 (([bt1284.1, bt1287.1, 0, 10000, 10001, (-1)] : List Int))).bind fun bt1293 => (some (bt1272.1, bt1272.2.1, bt1272.2.2.1, bt1293.1))))))) = some (r1, r2, r3, r4) := h; clear h; replace H := Option.bind_eq_some_iff.mp H; obtain ⟨⟨t1268, t1269, t1270⟩, A20, H⟩ := H
 dsimp only at H
 have A2 := am_ A20; clear A20; replace H := Option.bind_eq_some_iff.mp H; obtain ⟨⟨t1272, t1275, t1278, t1281, t1282⟩, A30, H⟩ := H
 dsimp only at H
 have A3 := am_ A30; clear A30; replace H := Option.bind_eq_some_iff.mp H; obtain ⟨⟨t1284, t1285, t1286⟩, A40, H⟩ := H
 dsimp only at H
 have A4 := am_ A40; clear A40; replace H := Option.bind_eq_some_iff.mp H; obtain ⟨⟨t1287, t1288, t1289⟩, A50, H⟩ := H
 dsimp only at H
 have A5 := am_ A50; clear A50; obtain ⟨y1290, hy1290⟩ : ∃ y_ : List Int, y_ = (([t1284, t1287, 0, 10000, 10001, (-1)] : List Int)) := ⟨_, rfl⟩
 (first | (rw [← hy1290] at H; with_reducible replace H := bindZ H) | rw [← hy1290] at H | skip)
 have Ny1290 := am_ hy1290; clear hy1290; replace H := Option.bind_eq_some_iff.mp H; obtain ⟨⟨t1293, t1294, t1295⟩, A60, H⟩ := H
 dsimp only at H
 have A6 := am_ A60; clear A60; simp only [Option.some.injEq, Prod.mk.injEq] at H; obtain ⟨rfl, rfl, rfl, rfl⟩ := H
 go_enter Try.func41, Try.ntmps41
 try go_wp2_with (first | ((with_reducible refine gate_dst (N := 2) rfl ?_); refine boxZ 2 #[.slice none 0 0, .slice none 0 0, .slice none 0 0] 28 ?_; intro gb1267 hg w7 hbox hb; replace BK1267 := am_ (hbox); replace GW1267 := am_ ((Zr : w.heap.size ≤ gb1267)); replace GE1267 := GW1267; replace HB := (bsZ Zf hb); clear hb hbox hg) | ((with_reducible refine gate_callee (f := 49) rfl ?_); refine gZ 7 Try.func49 #[.slice A0 l0.length c0] ?_; (with_reducible refine (spec_l01From.calls k _ _ l0 t1268 t1269 t1270 w _ ?_ ?_ ?_ A2.out).mono ?_); exact (Zi GE1267); exact HR0.out; exact HC0.out; rintro e w8 ⟨g1271, rfl, hi, hb, hb2⟩; refine ⟨_, rfl, ?_⟩; replace HB := am_ (hb); replace HI1271 := am_ (hi); replace NB1271_1267 := am_ (IsS100.ne_blk hi (blk_below (g := gb1267) (b0Z BK1267) hb2) (by decide)); replace NB1267_1271 := am_ (Ne.symm (IsS100.ne_blk hi (blk_below (g := gb1267) (b0Z BK1267) hb2) (by decide))); replace BK1267 := am_ (blk_below (g := gb1267) (b0Z BK1267) hb2); clear hb hb2 hi) | ((with_reducible refine gate_callee (f := 50) rfl ?_); refine gZ 9 Try.func50 #[.pointer (some ⟨g1271, 0, none⟩)] ?_; (with_reducible refine (spec_l08Draw.calls k g1271 t1268 t1269 t1270 t1272 t1275 t1278 t1281 t1282 w _ ?_ ?_ A3.out).mono ?_); exact (Zcx NB1271_1267); exact (Zcy GE1267); rintro e w9 ⟨v1273, v1276, v1279, rfl, ho0, ho1, ho2, hi, hb, hk⟩; refine ⟨_, rfl, ?_⟩; replace BK1267 := (kbZ BK1267 hk NB1267_1271); replace HO1274 := am_ (Kd.R_lower ho0 (below_size (Zcy GE1267))); replace HO1277 := am_ (Kd.R_lower ho1 (below_size (Zcy GE1267))); replace HO1280 := am_ (Kd.R_lower ho2 (below_size (Zcy GE1267))); replace HB := am_ (hb); replace HI1271 := am_ (hi); clear hb hk hi ho0 ho1 ho2) | ((with_reducible refine gate_dst (N := 5) rfl ?_); refine boxZ 5 #[.slice none 0 0, .slice none 0 0, .slice none 0 0] 28 ?_; intro gb1283 hg w10 hbox hb; replace HO1274 := (hbZ HO1274 hb); replace HO1277 := (hbZ HO1277 hb); replace HO1280 := (hbZ HO1280 hb); replace BK1283 := am_ (hbox); replace GW1283 := am_ ((by rw [hg]; exact (below_size (Zcy GE1267)) : w.heap.size ≤ gb1283)); replace GE1283 := GW1283; replace HB := (bsZ (Zcy GE1267) hb); replace NB1267_1283 := am_ ((by rw [hg]; exact Nat.ne_of_lt (blk_lt (g := gb1267) (b0Z BK1267)) : gb1267 ≠ gb1283)); replace NB1283_1267 := am_ ((by rw [hg]; exact Nat.ne_of_gt (blk_lt (g := gb1267) (b0Z BK1267)) : gb1283 ≠ gb1267)); replace BK1267 := (bkZ BK1267 hb); replace NB1271_1283 := am_ ((by rw [hg]; exact Nat.ne_of_lt (IsS100.lt (show IsS100 w _ g1271 t1268 t1281 t1282 from (Zcx NB1271_1267))) : g1271 ≠ gb1283)); replace NB1283_1271 := am_ ((by rw [hg]; exact Nat.ne_of_gt (IsS100.lt (show IsS100 w _ g1271 t1268 t1281 t1282 from (Zcx NB1271_1267))) : gb1283 ≠ g1271)); replace HI1271 := am_ (IsS100.below (Zcx NB1271_1267) hb); clear hb hbox hg; obtain ⟨Ao11, co11, eo11⟩ := Kd.R_slice HO1274.out; subst eo11; have hnb12 := NB1283_1267.out; have hnc12 := NB1267_1283.out; have hnb13 := NB1283_1271.out; have hnc13 := NB1271_1283.out; refine ci3 BK1283 ?_; intros; obtain ⟨Ao15, co15, eo15⟩ := Kd.R_slice HO1277.out; subst eo15; obtain ⟨Ao16, co16, eo16⟩ := Kd.R_slice HO1280.out; subst eo16))
 have n0_ : Aside0 (Kd.R k104 104 (((w10.setCell ⟨gb1283, 0, none⟩ (.slice Ao11 t1272.length co11)).setCell ⟨gb1283, 1, none⟩ (.slice Ao15 t1275.length co15)).setCell ⟨gb1283, 2, none⟩ (.slice Ao16 t1278.length co16)) w.heap.size (fun _ => True) (.slice Ao11 t1272.length co11) t1272) := ⟨(Zab HO1274 BK1283)⟩; have n1_ : Aside0 (Kd.R k62 62 (((w10.setCell ⟨gb1283, 0, none⟩ (.slice Ao11 t1272.length co11)).setCell ⟨gb1283, 1, none⟩ (.slice Ao15 t1275.length co15)).setCell ⟨gb1283, 2, none⟩ (.slice Ao16 t1278.length co16)) w.heap.size (fun _ => True) (.slice Ao15 t1275.length co15) t1275) := ⟨(Zab HO1277 BK1283)⟩; have n2_ : Aside0 (Kd.R k39 39 (((w10.setCell ⟨gb1283, 0, none⟩ (.slice Ao11 t1272.length co11)).setCell ⟨gb1283, 1, none⟩ (.slice Ao15 t1275.length co15)).setCell ⟨gb1283, 2, none⟩ (.slice Ao16 t1278.length co16)) w.heap.size (fun _ => True) (.slice Ao16 t1278.length co16) t1278) := ⟨(Zab HO1280 BK1283)⟩; have n3_ : Aside0 ((((w10.setCell ⟨gb1283, 0, none⟩ (.slice Ao11 t1272.length co11)).setCell ⟨gb1283, 1, none⟩ (.slice Ao15 t1275.length co15)).setCell ⟨gb1283, 2, none⟩ (.slice Ao16 t1278.length co16)).heap[gb1267]? = some (.cells #[.slice none 0 0, .slice none 0 0, .slice none 0 0] 28 (0, 0))) := ⟨by refine blk_far ?_ NB1267_1283.out _; refine blk_far ?_ NB1267_1283.out _; refine blk_far ?_ NB1267_1283.out _; exact BK1267.out⟩; have n4_ : Aside0 ((((w10.setCell ⟨gb1283, 0, none⟩ (.slice Ao11 t1272.length co11)).setCell ⟨gb1283, 1, none⟩ (.slice Ao15 t1275.length co15)).setCell ⟨gb1283, 2, none⟩ (.slice Ao16 t1278.length co16)).heap[gb1283]? = some (.cells #[.slice Ao11 t1272.length co11, .slice Ao15 t1275.length co15, .slice Ao16 t1278.length co16] 28 (0, 0))) := ⟨by refine blk_put (cs := #[.slice Ao11 t1272.length co11, .slice Ao15 t1275.length co15, .slice none 0 0]) ?_ 2 _ rfl; refine blk_put (cs := #[.slice Ao11 t1272.length co11, .slice none 0 0, .slice none 0 0]) ?_ 1 _ rfl; refine blk_put (cs := #[.slice none 0 0, .slice none 0 0, .slice none 0 0]) ?_ 0 _ rfl; exact BK1283.out⟩; have n5_ : Aside0 (IsS100 w (((w10.setCell ⟨gb1283, 0, none⟩ (.slice Ao11 t1272.length co11)).setCell ⟨gb1283, 1, none⟩ (.slice Ao15 t1275.length co15)).setCell ⟨gb1283, 2, none⟩ (.slice Ao16 t1278.length co16)) g1271 t1268 t1281 t1282) := ⟨(Zcz NB1271_1267 NB1271_1283)⟩; have n6_ : Aside0 (Below w.heap.size w (((w10.setCell ⟨gb1283, 0, none⟩ (.slice Ao11 t1272.length co11)).setCell ⟨gb1283, 1, none⟩ (.slice Ao15 t1275.length co15)).setCell ⟨gb1283, 2, none⟩ (.slice Ao16 t1278.length co16))) := ⟨(Zda GE1267 GE1283)⟩
 (try clear HO1274)
 (try clear HO1277)
 (try clear HO1280)
 (try clear BK1267)
 (try clear BK1283)
 (try clear HI1271)
 (try clear HB)
 generalize (((w10.setCell ⟨gb1283, 0, none⟩ (.slice Ao11 t1272.length co11)).setCell ⟨gb1283, 1, none⟩ (.slice Ao15 t1275.length co15)).setCell ⟨gb1283, 2, none⟩ (.slice Ao16 t1278.length co16)) = w17 at n0_ n1_ n2_ n3_ n4_ n5_ n6_ ⊢; have HO1274 := n0_; have HO1277 := n1_; have HO1280 := n2_; have BK1267 := n3_; have BK1283 := n4_; have HI1271 := n5_; have HB := n6_; clear n0_ n1_ n2_ n3_ n4_ n5_ n6_; replace HO1274 := am_ (Kd.R_drew HO1274.out); replace HO1277 := am_ (Kd.R_drew HO1277.out); replace HO1280 := am_ (Kd.R_drew HO1280.out); replace BK1267 := am_ (blk_drew BK1267.out); replace BK1283 := am_ (blk_drew BK1283.out); replace HI1271 := am_ (IsS100.drew HI1271.out); replace HB := am_ (below_drew1 HB.out); refine start_ (n := 10) (S := fun w' => w'.cell? ⟨gb1283, 0, none⟩ = some (.slice Ao11 t1272.length co11) ∧ w'.cell? ⟨gb1283, 1, none⟩ = some (.slice Ao15 t1275.length co15) ∧ w'.cell? ⟨gb1283, 2, none⟩ = some (.slice Ao16 t1278.length co16)) (ds := []) (bT 10 0) Zk rfl rfl ⟨(blk_cell BK1283.out 0).trans rfl, (blk_cell BK1283.out 1).trans rfl, (blk_cell BK1283.out 2).trans rfl⟩ (fun hHeld => ?_); refine with_tabW spec_DrawOffBeat.tab3 spec_DrawOffBeat.bits3 (fun HT_ HW_ => ?_); generalize w17.drew = w18 at HO1274 HO1277 HO1280 BK1267 BK1283 HI1271 HB hHeld ⊢; refine pureZ HT_ 1 (some 11) (bB 10 2) ?_; refine pureZ HT_ 2 (some 12) (bB 10 6) ?_; refine pureZ HT_ 4 (some 14) (bB 10 22) ?_; refine takeZ3 HT_ HW_ 0 (some 10) (bB 10 23) hHeld ?_; refine one_ (i := 3) (N := some 13) (bT 10 5) rfl rfl (one_of HT_.out Zk) (by decide) (fun K hK => ?_); refine goes_ Try.func52 Zk rfl #[.pointer (some ⟨g1271, 0, none⟩), .int .i64 300] (by rfl) rfl rfl Zs ?_
 with_reducible refine (spec_l01Next.calls g1271 t1268 t1281 t1282 300 t1284 t1285 t1286 w _ ?side1 ?side2 A4.out).mono ?_
 (case side1 => exact (Zcz NB1271_1267 NB1271_1283))
 (case side2 => exact (Zda GE1267 GE1283))
 rintro e w19 ⟨rfl, hi, hb, hk⟩; refine ⟨_, rfl, ?_⟩; replace BK1267 := (kbZ BK1267 hk NB1267_1271); replace HO1274 := (hoZ (IsS100.apart (show IsS100 w _ g1271 t1268 t1281 t1282 from (Zcz NB1271_1267 NB1271_1283)) (Zaa HO1274) (by decide)) hk); replace HO1277 := (hoZ (IsS100.apart (show IsS100 w _ g1271 t1268 t1281 t1282 from (Zcz NB1271_1267 NB1271_1283)) (Zaa HO1277) (by decide)) hk); replace HO1280 := (hoZ (IsS100.apart (show IsS100 w _ g1271 t1268 t1281 t1282 from (Zcz NB1271_1267 NB1271_1283)) (Zaa HO1280) (by decide)) hk); replace BK1283 := (kbZ BK1283 hk NB1283_1271); replace HB := am_ (hb); replace HI1271 := am_ (hi)
 (try clear hb)
 (try clear hb2)
 (try clear hk)
 (try clear hi)
 refine hK.out _ _ (Zy BK1283) (fun hHeld => ?_); clear hK K; refine normZ 13 ?_; refine one_ (i := 5) (N := some 15) (bT 10 6) rfl rfl (one_of HT_.out Zk) (by decide) (fun K hK => ?_); refine goes_ Try.func52 Zk rfl #[.pointer (some ⟨g1271, 0, none⟩), .int .i64 100] (by rfl) rfl rfl Zs ?_
 with_reducible refine (spec_l01Next.calls g1271 t1268 t1285 t1286 100 t1287 t1288 t1289 w _ ?side1 ?side2 A5.out).mono ?_
 (case side1 => exact (Zcz NB1271_1267 NB1271_1283))
 (case side2 => exact (Zda GE1267 GE1283))
 rintro e w20 ⟨rfl, hi, hb, hk⟩; refine ⟨_, rfl, ?_⟩; replace BK1267 := (kbZ BK1267 hk NB1267_1271); replace HO1274 := (hoZ (IsS100.apart (show IsS100 w _ g1271 t1268 t1285 t1286 from (Zcz NB1271_1267 NB1271_1283)) (Zaa HO1274) (by decide)) hk); replace HO1277 := (hoZ (IsS100.apart (show IsS100 w _ g1271 t1268 t1285 t1286 from (Zcz NB1271_1267 NB1271_1283)) (Zaa HO1277) (by decide)) hk); replace HO1280 := (hoZ (IsS100.apart (show IsS100 w _ g1271 t1268 t1285 t1286 from (Zcz NB1271_1267 NB1271_1283)) (Zaa HO1280) (by decide)) hk); replace BK1283 := (kbZ BK1283 hk NB1283_1271); replace HB := am_ (hb); replace HI1271 := am_ (hi)
 (try clear hb)
 (try clear hb2)
 (try clear hk)
 (try clear hi)
 refine hK.out _ _ (Zy BK1283) (fun hHeld => ?_); clear hK K; refine normZ 15 ?_; refine one_ (i := 6) (N := some 16) (bT 10 7) rfl rfl (one_of HT_.out Zk) (by decide) (fun K hK => ?_); refine Kd.R_lit_step (Kd.int .i64) _ 2 ?hg (N := 16) ?hd (xs := ([t1284, t1287, 0, 10000, 10001, (-1)] : List Int)) (inner := [.int .i64 t1284, .int .i64 t1287, .int .i64 0, .int .i64 10000, .int .i64 10001, .int .i64 (-1)]) (ok := fun _ => True) (okp := fun _ => True) ?hr ?hp (fun _ hk => hk) trivial (Below.refl _ _) (Nat.le_refl _) (by simp) ?_; (case hd => rfl); (case hg => rfl); (case hr => first | (go_simp; done) | (go_simp; rfl)); (case hp => exact (Reps.one (show Kd.M (Kd.int .i64) _ _ _ t1284 [.int .i64 t1284] from rfl) (Reps.one (show Kd.M (Kd.int .i64) _ _ _ t1287 [.int .i64 t1287] from rfl) (Reps.one (show Kd.M (Kd.int .i64) _ _ _ 0 [.int .i64 0] from rfl) (Reps.one (show Kd.M (Kd.int .i64) _ _ _ 10000 [.int .i64 10000] from rfl) (Reps.one (show Kd.M (Kd.int .i64) _ _ _ 10001 [.int .i64 10001] from rfl) (Reps.one (show Kd.M (Kd.int .i64) _ _ _ (-1) [.int .i64 (-1)] from rfl) (Reps.none _ _)))))))); intro v1291 w21 ho22 hb hg_ hnew_; clear hg_ hnew_
 (first | rw [← Ny1290.out] at ho22 | (simp only [Int.reduceToNat] at ho22; rw [← Ny1290.out] at ho22))
 replace HO1274 := (hbZ HO1274 hb); replace HO1277 := (hbZ HO1277 hb); replace HO1280 := (hbZ HO1280 hb); replace HO1292 := am_ (Kd.R_lower ho22 (below_size (Zda GE1267 GE1283))); replace BK1267 := (bkZ BK1267 hb); replace BK1283 := (bkZ BK1283 hb); replace HB := (bsZ (Zda GE1267 GE1283) hb); replace HI1271 := am_ (IsS100.below (Zcz NB1271_1267 NB1271_1283) hb); clear hb ho22; obtain ⟨Ao23, co23, eo23⟩ := Kd.R_slice HO1292.out
 (first | subst eo23 | (injection eo23 with f1_ f2_ f3_; have f4_ := f1_.symm; have f5_ := f3_.symm; clear f1_ f2_ f3_; subst f4_; subst f5_))
 refine hK.out _ _ (Zy BK1283) (fun hHeld => ?_); clear hK K; refine normZ 16 ?_; refine one_ (i := 7) (N := some 17) (bT 10 8) rfl rfl (one_of HT_.out Zk) (by decide) (fun K hK => ?_); refine goes_ Try.func51 Zk rfl #[.pointer (some ⟨g1271, 0, none⟩), .slice Ao23 y1290.length co23] (by rfl) rfl rfl Zs ?_
 with_reducible refine (spec_l01Pick.calls g1271 t1268 t1288 t1289 _ _ y1290 t1293 t1294 t1295 w _ ?side1 ?side2 ?side3 ?side4 ?side5 A6.out).mono ?_
 (case side1 => exact (Zcz NB1271_1267 NB1271_1283))
 (case side2 => exact (Zda GE1267 GE1283))
 (case side3 => exact (Zar HO1292))
 (case side4 => exact (Kd.R_reads' HO1292.out).2.1)
 (case side5 => exact far_slice (IsS100.own_ne HI1271.out HO1292.out (by decide)))
 rintro e w24 ⟨rfl, hi, hb, hk⟩; refine ⟨_, rfl, ?_⟩; replace BK1267 := (kbZ BK1267 hk NB1267_1271); replace HO1274 := (hoZ (IsS100.apart (show IsS100 w _ g1271 t1268 t1288 t1289 from (Zcz NB1271_1267 NB1271_1283)) (Zaa HO1274) (by decide)) hk); replace HO1277 := (hoZ (IsS100.apart (show IsS100 w _ g1271 t1268 t1288 t1289 from (Zcz NB1271_1267 NB1271_1283)) (Zaa HO1277) (by decide)) hk); replace HO1280 := (hoZ (IsS100.apart (show IsS100 w _ g1271 t1268 t1288 t1289 from (Zcz NB1271_1267 NB1271_1283)) (Zaa HO1280) (by decide)) hk); replace BK1283 := (kbZ BK1283 hk NB1283_1271); replace HO1292 := (hoZ (IsS100.apart (show IsS100 w _ g1271 t1268 t1288 t1289 from (Zcz NB1271_1267 NB1271_1283)) (Zaa HO1292) (by decide)) hk); replace HB := am_ (hb); replace HI1271 := am_ (hi)
 (try clear hb)
 (try clear hb2)
 (try clear hk)
 (try clear hi)
 refine hK.out _ _ (Zy BK1283) (fun hHeld => ?_); clear hK K; refine normZ 17 ?_; refine one_ (i := 8) (N := none) (bT 10 9) rfl rfl (one_of HT_.out Zk) (by decide) (fun K hK => ?_); have hs25 : w24.cell? ⟨gb1267, 0, none⟩ = some (.slice none 0 0) := (blk_cell BK1267.out 0).trans rfl; have hfs25 := blk_frozen BK1267.out 0; have hns25_1 := NB1283_1267.out; have hms25_1 := NB1267_1283.out; have hs26 : w24.cell? ⟨gb1267, 1, none⟩ = some (.slice none 0 0) := (blk_cell BK1267.out 1).trans rfl; have hfs26 := blk_frozen BK1267.out 1; have hns26_1 := NB1283_1267.out; have hms26_1 := NB1267_1283.out; have hs27 : w24.cell? ⟨gb1267, 2, none⟩ = some (.slice none 0 0) := (blk_cell BK1267.out 2).trans rfl; have hfs27 := blk_frozen BK1267.out 2; have hns27_1 := NB1283_1267.out; have hms27_1 := NB1267_1283.out; refine skip_ (w1 := ?_) (by rfl) rfl ?_ ?_; rotate_left
 ·go_simp
  rfl
 refine hK.out _ _ ⟨(cg1 (hHeld.1) NB1283_1267), (cg1 (hHeld.2.1) NB1283_1267), (cg1 (hHeld.2.2) NB1283_1267)⟩ (fun hHeld => ?_); clear hK K; refine pureZ HT_ 9 (some 3) (bT 10 10) ?_; refine done_ (done_of HT_.out Zk) ?_
 try go_wp2
 refine bodyPost_ret (results_ct rfl _ _ gb1267 28 #[.slice Ao11 t1272.length co11, .slice Ao15 t1275.length co15, .slice Ao16 t1278.length co16] (0, 0) _ rfl (bpZ BK1267) Try.underlying28 rfl Zk) rfl ?_; exact ⟨_, _, _, Zl, (Zab HO1274 BK1267), (Zab HO1277 BK1267), (Zab HO1280 BK1267), (Zda GE1267 GE1283)⟩
def impl_OffBeat.l0 : Nat → Int → List Int → List (S39) → Int → Int → List (S104) → List (S62) → List (S39) → Option (List Int × Int)
 | 0, _, _, _, _, _, _, _, _ => none
 | k + 1, x1, x6, x16, x17, x18, x1297000, x1297001, x1297002 => if x18 < x17 then (if 0 ≤ x18 then (if x18 < (x16.length : Int) then ((impl_articleFor.f k x1297000 x1297001 x1297002 ((rd_T39 x16 x18).f0) ((rd_T39 x16 x18).f1) ((rd_T39 x16 x18).f2) ((rd_T39 x16 x18).f3)).bind fun bt1301 => (if bt1301.2.2.2.2.1 > x1 then (if x6.length < 17592186044416 then (impl_OffBeat.l0 k x1 (x6 ++ [x18]) x16 x17 (wrap64 (x18 + 1)) x1297000 x1297001 x1297002) else (none)) else (impl_OffBeat.l0 k x1 x6 x16 x17 (wrap64 (x18 + 1)) x1297000 x1297001 x1297002))) else (none)) else (none)) else (some (x6, 0))
def impl_OffBeat.f (k : Nat) (l0_0 : List (S104)) (l0_1 : List (S62)) (l0_2 : List (S39)) (a1 : Int) : Option (List Int × Int) := (impl_IsShow.f k l0_0 l0_1 l0_2).bind fun t1297 => (if t1297 = true then ((impl_within.f a1 0 10000).bind fun t1298 => (if t1298 = true then (impl_OffBeat.l0 k a1 ([] : List Int) l0_2 (l0_2.length : Int) 0 l0_0 l0_1 l0_2) else (some (([] : List Int), 2)))) else (some (([] : List Int), 1)))
set_option maxHeartbeats 8000000 in
set_option maxRecDepth 100000 in
theorem impl_OffBeat.calls (k : Nat) (A0_0 : Option Addr) (c0_0 : Nat) (l0_0 : List (S104)) (A0_1 : Option Addr) (c0_1 : Nat) (l0_1 : List (S62)) (A0_2 : Option Addr) (c0_2 : Nat) (l0_2 : List (S39)) (a1 : Int) (r1 : List Int) (r2 : Int) (w : World) (hr0_0 : Kd.C k104 w A0_0 l0_0.length l0_0) (hc0_0 : l0_0.length ≤ c0_0) (hr0_1 : Kd.C k62 w A0_1 l0_1.length l0_1) (hc0_1 : l0_1.length ≤ c0_1) (hr0_2 : Kd.C k39 w A0_2 l0_2.length l0_2) (hc0_2 : l0_2.length ≤ c0_2) (h : impl_OffBeat.f k l0_0 l0_1 l0_2 a1 = some (r1, r2)) :
  Calls Try.prog 42 #[.agg #[.slice A0_0 l0_0.length c0_0, .slice A0_1 l0_1.length c0_1, .slice A0_2 l0_2.length c0_2], .int .i64 a1] w fun e w' => ∃ v0_ : Value, e = .returned (.tuple #[v0_, .int .i64 r2]) ∧ Kd.R (Kd.int .i64) 2 w' w.heap.size (fun _ => True) v0_ r1 ∧ Below w.heap.size w w' := by
 have hu28 := Try.underlying28; have hu39 := Try.underlying39; have HR0_0 := am_ hr0_0; have HC0_0 := am_ hc0_0; clear hr0_0 hc0_0; have HR0_1 := am_ hr0_1; have HC0_1 := am_ hc0_1; clear hr0_1 hc0_1; have HR0_2 := am_ hr0_2; have HC0_2 := am_ hc0_2; clear hr0_2 hc0_2; have HB := am_ (Below.refl w.heap.size w); have H : ((impl_IsShow.f k l0_0 l0_1 l0_2).bind fun t1297 => (if t1297 = true then ((impl_within.f a1 0 10000).bind fun t1298 => (if t1298 = true then (impl_OffBeat.l0 k a1 ([] : List Int) l0_2 (l0_2.length : Int) 0 l0_0 l0_1 l0_2) else (some (([] : List Int), 2)))) else (some (([] : List Int), 1)))) = some (r1, r2) := h; clear h; replace H := Option.bind_eq_some_iff.mp H; obtain ⟨t1297, A30, H⟩ := H; have A3 := am_ A30; clear A30; have HS_ := am_ H; clear H
 go_enter Try.func42, Try.ntmps42
 go_wp2_with (first | ((with_reducible refine gate_dst (N := 2) rfl ?_); refine boxZ 2 #[.slice A0_0 l0_0.length c0_0, .slice A0_1 l0_1.length c0_1, .slice A0_2 l0_2.length c0_2] 28 ?_; intro gb1296 hg w7 hbox hb; replace BK1296 := am_ (hbox); replace GW1296 := am_ ((Zr : w.heap.size ≤ gb1296)); replace GE1296 := GW1296; replace HB := (bsZ Zf hb); clear hb hbox hg; refine ci3 BK1296 ?_; intros) | ((with_reducible refine gate_callee (f := 25) rfl ?_); refine gZ 10 Try.func25 #[.agg #[.slice A0_0 l0_0.length c0_0, .slice A0_1 l0_1.length c0_1, .slice A0_2 l0_2.length c0_2]] ?_; (with_reducible refine (impl_IsShow.calls k _ _ l0_0 _ _ l0_1 _ _ l0_2 t1297 _ ?_ ?_ ?_ ?_ ?_ ?_ A3.out).mono ?_); exact (Zu HR0_0); exact HC0_0.out; exact (Zu HR0_1); exact HC0_1.out; exact (Zu HR0_2); exact HC0_2.out; rintro e w9 ⟨rfl, hb⟩; refine ⟨_, rfl, ?_⟩; replace BK1296 := (bkZ BK1296 hb); replace HB := (bsZ (Zi GE1296) hb); clear hb; refine ?roundEnd))
 case roundEnd =>
  by_cases c4 : t1297 = true
  ·have H := HS_.out
   clear HS_; subst c4; rw [if_pos rfl] at H; replace H := Option.bind_eq_some_iff.mp H; obtain ⟨t1298, A50, H⟩ := H; have A5 := am_ A50; clear A50; have HS_ := am_ H; clear H
   by_cases c6 : t1298 = true
   ·have H := HS_.out
    clear HS_; subst c6; rw [if_pos rfl] at H; have H' := am_ H; clear H
    go_wp2_with (first | ((with_reducible refine gate_callee (f := 53) rfl ?_); refine gZ 13 Try.func53 #[.int .i64 a1, .int .i64 0, .int .i64 10000] ?_; (with_reducible refine (impl_within.calls a1 0 10000 true _ A5.out).mono ?_); rintro e w' ⟨rfl, ⟨nd, rfl⟩⟩; refine ⟨_, rfl, ?_⟩; refine ci3 BK1296 ?_; intros))
    go_loopg [6, 18] k (fun kq v6 v18 w' => ∃ (x6_1 : List Int) (x18_1 : Int), v18 = .int .i64 x18_1 ∧ Aside0 (impl_OffBeat.l0 kq a1 x6_1 l0_2 (l0_2.length : Int) x18_1 l0_0 l0_1 l0_2 = some (r1, r2)) ∧ Aside0 (kq ≤ k) ∧ Aside0 (Kd.R (Kd.int .i64) 2 w' w.heap.size (fun _ => True) v6 x6_1) ∧ Aside0 (w'.heap[gb1296]? = some (.cells #[(.slice A0_0 l0_0.length c0_0), (.slice A0_1 l0_1.length c0_1), (.slice A0_2 l0_2.length c0_2)] 28 (0, 0))) ∧ Aside0 (Below w.heap.size w w'))
    case atStart => exact ⟨(([] : List Int)), (0), Za, H', ⟨Nat.le_refl _⟩, ⟨Zai⟩, ⟨(Zh BK1296)⟩, ⟨(Zi GE1296)⟩⟩
    case round =>
     clear H'
     try clear c2
     try clear p2
     try clear c4
     try clear c5
     try clear c6
     obtain ⟨x6_1, x18_1, rfl, HA, HK1, HO_6, BK1296, HB⟩ := hrel
     cases gk with
     | zero => exact absurd HA.out (by simp [impl_OffBeat.l0])
     | succ k1 =>
      have H := HA.out; clear HA; simp only [impl_OffBeat.l0] at H
      by_cases c11 : x18_1 < (l0_2.length : Int)
      ·rw [if_pos c11] at H
       have c11b0 := decide_eq_true c11; clear c11
       by_cases c12 : 0 ≤ x18_1
       ·rw [if_pos c12] at H
        have c12b0 := decide_eq_true c12; clear c12
        by_cases c13 : x18_1 < (l0_2.length : Int)
        ·rw [if_pos c13] at H
         have c13b0 := decide_eq_true c13; clear c13; replace H := Option.bind_eq_some_iff.mp H; obtain ⟨⟨t1301, t1302, t1303, t1304, t1305, t1306, t1307, t1308, t1309⟩, A140, H⟩ := H
         have hfd_ : ∀ W_ : World, (Instr.field 62 (.agg #[.string t1301, .int .i64 t1302, .int .i64 t1303, .int .i64 t1304, .int .i64 t1305, .int .i64 t1306, .int .i64 t1307, .int .i64 t1308, .int .i64 t1309]) 4).run Try.prog W_ = .ok (.int .i64 t1305) W_ := fun _ => by kernel_rfl
         replace H : (if t1305 > a1 then (if x6_1.length < 17592186044416 then (impl_OffBeat.l0 k1 a1 (x6_1 ++ [x18_1]) l0_2 (l0_2.length : Int) (wrap64 (x18_1 + 1)) l0_0 l0_1 l0_2) else (none)) else (impl_OffBeat.l0 k1 a1 x6_1 l0_2 (l0_2.length : Int) (wrap64 (x18_1 + 1)) l0_0 l0_1 l0_2)) = some (r1, r2) := H; have A14 := am_ A140; clear A140; have HS_ := am_ H; clear H; have p1299 : 0 ≤ (x18_1 : Int) := of_decide_eq_true Zc; have q1299 : x18_1 < (l0_2.length : Int) := of_decide_eq_true Zc; obtain ⟨ad1299, e1299, hx1299_0, hx1299_1, hx1299_2, hx1299_3⟩ := at_T39 HR0_2.out x18_1 p1299 q1299
         cases e1299
         replace hx1299_0 := cbH HB hx1299_0; replace hx1299_1 := cbH HB hx1299_1; replace hx1299_2 := cbH HB hx1299_2; replace hx1299_3 := cbH HB hx1299_3; replace p1299 := eq_true p1299; replace q1299 := eq_true q1299
         go_wp2_with (first | ((with_reducible refine gate_dst (N := 8) rfl ?_); refine boxZ 8 #[.int .i64 0, .int .i64 0, .string (⟨#[]⟩ : ByteArray), .int .i64 0] 39 ?_; intro gb1300 hg w17 hbox hb; replace HO_6 := (hbZ HO_6 hb); replace BK1300 := am_ (hbox); replace GW1300 := am_ (((Zt GE1296) : w.heap.size ≤ gb1300)); replace GE1300 := GW1300; replace HB := (bsZ (Zi GE1296) hb); replace NB1296_1300 := am_ ((by rw [hg]; exact Nat.ne_of_lt (blk_lt (g := gb1296) (b0Z BK1296)) : gb1296 ≠ gb1300)); replace NB1300_1296 := am_ ((by rw [hg]; exact Nat.ne_of_gt (blk_lt (g := gb1296) (b0Z BK1296)) : gb1300 ≠ gb1296)); replace BK1296 := (bkZ BK1296 hb); clear hb hbox hg; have hnb18 := NB1300_1296.out; have hnc18 := NB1296_1300.out; refine ci4 BK1300 ?_; intros; refine ci3 BK1296 ?_; intros) | ((with_reducible refine gate_callee (f := 80) rfl ?_); refine gZ 25 Try.func80 #[.agg #[.slice A0_0 l0_0.length c0_0, .slice A0_1 l0_1.length c0_1, .slice (some ad1299) l0_2.length c0_2], .agg #[.int .i64 ((rd_T39 l0_2 x18_1).f0), .int .i64 ((rd_T39 l0_2 x18_1).f1), .string ((rd_T39 l0_2 x18_1).f2), .int .i64 ((rd_T39 l0_2 x18_1).f3)]] ?_; (with_reducible refine (impl_articleFor.calls k1 _ _ l0_0 _ _ l0_1 _ _ l0_2 ((rd_T39 l0_2 x18_1).f0) ((rd_T39 l0_2 x18_1).f1) ((rd_T39 l0_2 x18_1).f2) ((rd_T39 l0_2 x18_1).f3) t1301 t1302 t1303 t1304 t1305 t1306 t1307 t1308 t1309 _ ?_ ?_ ?_ ?_ ?_ ?_ A14.out).mono ?_); exact Kd.C_below HR0_0.out (Zw GE1296 GE1300); exact HC0_0.out; exact Kd.C_below HR0_1.out (Zw GE1296 GE1300); exact HC0_1.out; exact Kd.C_below HR0_2.out (Zw GE1296 GE1300); exact HC0_2.out; rintro e w21 ⟨rfl, hb⟩; refine ⟨_, rfl, ?_⟩; replace HO_6 := am_ (Kd.R_below (Zat HO_6 BK1300) hb); replace BK1296 := am_ (blk_below (g := gb1296) (bfZ BK1296 NB1296_1300) hb); replace BK1300 := am_ (blk_below (g := gb1300) (o := .cells #[.int .i64 ((rd_T39 l0_2 x18_1).f0), .int .i64 ((rd_T39 l0_2 x18_1).f1), .string ((rd_T39 l0_2 x18_1).f2), .int .i64 ((rd_T39 l0_2 x18_1).f3)] 39 (0, 0)) (bpZ BK1300) hb); replace HB := (bsZ (Zw GE1296 GE1300) hb); clear hb; refine ?roundEnd))
         case roundEnd =>
          by_cases c15 : t1305 > a1
          ·have H := HS_.out
           clear HS_; rw [if_pos c15] at H; have c15b0 : decide (a1 < t1305) = true := decide_eq_true c15; clear c15
           by_cases c16 : x6_1.length < 17592186044416
           ·rw [if_pos c16] at H
            have LMc16 := am_ c16; clear c16; obtain ⟨y1310, hy1310⟩ : ∃ y_ : List Int, y_ = (x6_1 ++ [x18_1]) := ⟨_, rfl⟩
            (first | (rw [← hy1310] at H; with_reducible replace H := bindZ H) | rw [← hy1310] at H | skip)
            have Ny1310 := am_ hy1310; clear hy1310; have H' := am_ H; clear H
            go_wp2_with (first | ((with_reducible refine gate_builtin (b := .append) (xs := #[.tmp 29, .tmp 31]) rfl ?_); at_builtin; refine Kd.R_append (Kd.int .i64) (w0 := w) w.heap.size rfl (.tmp 29) (.tmp 31) 33 2 (.int .i64 0) 8 rfl Try.underlying33 info2 rfl (by decide) (by omega) u6 x6_1 x18_1 [.int .i64 x18_1] (fun _ => True) (fun _ => False) rfl rfl ?aP (fun _ hk => hk.elim) ?aF ?aO ?aB ?aS ?aL ?_; (case aP => exact rfl); (case aB => exact (Zw GE1296 GE1300)); (case aF => exact (fun _ _ => trivial)); (case aO => exact (Zaa HO_6)); (case aS => exact (below_size (Zw GE1296 GE1300))); (case aL => have := LMc16.out; omega); intro v1311 w22 ho hb hg hat; rw [← Ny1310.out] at ho; replace BK1296 := am_ (blk_grown (g := gb1296) (b0Z BK1296) hg (Kd.R_ne HO_6.out BK1296.out (by decide))); replace BK1300 := am_ (blk_grown (g := gb1300) (b0Z BK1300) hg (Kd.R_ne HO_6.out BK1300.out (by decide))); replace HB := am_ (hb); replace HO1312 := am_ (ho); clear HO_6; clear ho hb hg hat))
            go_roundg k1
            case measure => have := HK1.out; omega
            case rel => exact ⟨(y1310), (wrap64 (x18_1 + 1)), Za, H', ⟨Zd⟩, ⟨(Zaa HO1312)⟩, ⟨(Zh BK1296)⟩, ⟨(Zw GE1296 GE1300)⟩⟩
           ·rw [if_neg c16] at H
            exact absurd H (by simp)
          ·have H := HS_.out
           clear HS_; rw [if_neg c15] at H; have c15b0 : decide (a1 < t1305) = false := decide_eq_false c15; clear c15; have H' := am_ H; clear H
           go_wp2_with (first | fail)
           go_roundg k1
           case measure => have := HK1.out; omega
           case rel => exact ⟨(x6_1), (wrap64 (x18_1 + 1)), Za, H', ⟨Zd⟩, ⟨(Zaa HO_6)⟩, ⟨(Zh BK1296)⟩, ⟨(Zw GE1296 GE1300)⟩⟩
        ·rw [if_neg c13] at H
         exact absurd H (by simp)
       ·rw [if_neg c12] at H
        exact absurd H (by simp)
      ·rw [if_neg c11] at H
       have c11b0 := decide_eq_false c11; clear c11; simp only [Option.some.injEq, Prod.mk.injEq] at H; obtain ⟨rfl, rfl⟩ := H
       go_wp2
       go_ret2
       exact ⟨_, Zl, (Zaa HO_6), (Zi GE1296)⟩
   ·have H := HS_.out
    clear HS_; replace c6 := Bool.eq_false_iff.mpr c6; subst c6; rw [if_neg (show ¬ (false = true) by decide)] at H; simp only [Option.some.injEq, Prod.mk.injEq] at H; obtain ⟨rfl, rfl⟩ := H
    go_wp2_with (first | ((with_reducible refine gate_callee (f := 53) rfl ?_); refine gZ 13 Try.func53 #[.int .i64 a1, .int .i64 0, .int .i64 10000] ?_; (with_reducible refine (impl_within.calls a1 0 10000 false _ A5.out).mono ?_); rintro e w' ⟨rfl, ⟨nd, rfl⟩⟩; refine ⟨_, rfl, ?_⟩))
    go_ret2
    exact ⟨_, Zl, Zai, (Zi GE1296)⟩
  ·have H := HS_.out
   clear HS_; replace c4 := Bool.eq_false_iff.mpr c4; subst c4; rw [if_neg (show ¬ (false = true) by decide)] at H; simp only [Option.some.injEq, Prod.mk.injEq] at H; obtain ⟨rfl, rfl⟩ := H
   go_wp2_with (first | fail)
   go_ret2
   exact ⟨_, Zl, Zai, (Zi GE1296)⟩
def spec_OffBeat.l0 : Nat → Int → List Int → Int → List (S104) → List (S62) → List (S39) → Option (List Int × Int)
 | 0, _, _, _, _, _, _ => none
 | k + 1, x1, x6, x7, x1314000, x1314001, x1314002 => if x7 < (x1314002.length : Int) then (if 0 ≤ x7 then ((spec_l03Find.f k x1314001 ((rd_T39 x1314002 x7).f2)).bind fun t1320 => (if 0 ≤ t1320 then (if t1320 < (x1314001.length : Int) then (if ((rd_T62 x1314001 t1320).f4) > x1 then (if x6.length < 17592186044416 then (spec_OffBeat.l0 k x1 (x6 ++ [x7]) (wrap64 (x7 + 1)) x1314000 x1314001 x1314002) else (none)) else (spec_OffBeat.l0 k x1 x6 (wrap64 (x7 + 1)) x1314000 x1314001 x1314002)) else (none)) else (none))) else (none)) else (some (x6, 0))
def spec_OffBeat.f (k : Nat) (l0_0 : List (S104)) (l0_1 : List (S62)) (l0_2 : List (S39)) (a1 : Int) : Option (List Int × Int) := (spec_IsShow.f k l0_0 l0_1 l0_2).bind fun t1314 => (if t1314 = true then ((spec_l01In.f a1 0 10000).bind fun t1315 => (if t1315 = true then (spec_OffBeat.l0 k a1 (([] : List Int)) 0 l0_0 l0_1 l0_2) else (some (([] : List Int), 2)))) else (some (([] : List Int), 1)))
set_option maxHeartbeats 8000000 in
set_option maxRecDepth 100000 in
theorem spec_OffBeat.calls (k : Nat) (A0_0 : Option Addr) (c0_0 : Nat) (l0_0 : List (S104)) (A0_1 : Option Addr) (c0_1 : Nat) (l0_1 : List (S62)) (A0_2 : Option Addr) (c0_2 : Nat) (l0_2 : List (S39)) (a1 : Int) (r1 : List Int) (r2 : Int) (w : World) (hr0_0 : Kd.C k104 w A0_0 l0_0.length l0_0) (hc0_0 : l0_0.length ≤ c0_0) (hr0_1 : Kd.C k62 w A0_1 l0_1.length l0_1) (hc0_1 : l0_1.length ≤ c0_1) (hr0_2 : Kd.C k39 w A0_2 l0_2.length l0_2) (hc0_2 : l0_2.length ≤ c0_2) (h : spec_OffBeat.f k l0_0 l0_1 l0_2 a1 = some (r1, r2)) :
  Calls Try.prog 43 #[.agg #[.slice A0_0 l0_0.length c0_0, .slice A0_1 l0_1.length c0_1, .slice A0_2 l0_2.length c0_2], .int .i64 a1] w fun e w' => ∃ v0_ : Value, e = .returned (.tuple #[v0_, .int .i64 r2]) ∧ Kd.R (Kd.int .i64) 2 w' w.heap.size (fun _ => True) v0_ r1 ∧ Below w.heap.size w w' := by
 have hu28 := Try.underlying28; have HR0_0 := am_ hr0_0; have HC0_0 := am_ hc0_0; clear hr0_0 hc0_0; have HR0_1 := am_ hr0_1; have HC0_1 := am_ hc0_1; clear hr0_1 hc0_1; have HR0_2 := am_ hr0_2; have HC0_2 := am_ hc0_2; clear hr0_2 hc0_2; have HB := am_ (Below.refl w.heap.size w); have H : ((spec_IsShow.f k l0_0 l0_1 l0_2).bind fun t1314 => (if t1314 = true then ((spec_l01In.f a1 0 10000).bind fun t1315 => (if t1315 = true then (spec_OffBeat.l0 k a1 (([] : List Int)) 0 l0_0 l0_1 l0_2) else (some (([] : List Int), 2)))) else (some (([] : List Int), 1)))) = some (r1, r2) := h; clear h; replace H := Option.bind_eq_some_iff.mp H; obtain ⟨t1314, A30, H⟩ := H; have A3 := am_ A30; clear A30
 by_cases c4 : t1314 = true
 ·subst c4
  rw [if_pos rfl] at H; replace H := Option.bind_eq_some_iff.mp H; obtain ⟨t1315, A50, H⟩ := H; have A5 := am_ A50; clear A50
  by_cases c6 : t1315 = true
  ·subst c6
   rw [if_pos rfl] at H; obtain ⟨y1316, hy1316⟩ : ∃ y_ : List Int, y_ = (([] : List Int)) := ⟨_, rfl⟩
   replace H : (spec_OffBeat.l0 k a1 y1316 0 l0_0 l0_1 l0_2) = some (r1, r2) := by (try rw [hy1316]); first | with_reducible exact H | with_reducible exact (Option.bind_some _ _).symm.trans H | exact H
   have Ny1316 := am_ hy1316; clear hy1316; have H' := am_ H; clear H
   go_enter Try.func43, Try.ntmps43
   go_wp2_with (first | ((with_reducible refine gate_dst (N := 2) rfl ?_); refine boxZ 2 #[.slice A0_0 l0_0.length c0_0, .slice A0_1 l0_1.length c0_1, .slice A0_2 l0_2.length c0_2] 28 ?_; intro gb1313 hg w7 hbox hb; replace BK1313 := am_ (hbox); replace GW1313 := am_ ((Zr : w.heap.size ≤ gb1313)); replace GE1313 := GW1313; replace HB := (bsZ Zf hb); clear hb hbox hg; obtain ⟨hcz8_0, hcz8_1, hcz8_2, hfz8_0, hfz8_1, hfz8_2⟩ := cz3 BK1313) | (go_at_call 56; (with_reducible refine (spec_IsShow.calls k _ _ l0_0 _ _ l0_1 _ _ l0_2 true _ ?_ ?_ ?_ ?_ ?_ ?_ A3.out).mono ?_); exact (Zu HR0_0); exact HC0_0.out; exact (Zu HR0_1); exact HC0_1.out; exact (Zu HR0_2); exact HC0_2.out; rintro e w9 ⟨rfl, hb⟩; replace BK1313 := (bkZ BK1313 hb); replace HB := (bsZ (Zi GE1313) hb); clear hb) | (go_at_call 57; (with_reducible refine (spec_l01In.calls a1 0 10000 true _ A5.out).mono ?_); rintro e w' ⟨rfl, ⟨nd, rfl⟩⟩; (try first | exact ⟨rfl, _, World.drewN_drewN _ _ _⟩ | exact ⟨rfl, _, Eq.trans (World.drewN_drewN _ _ _) (congrArg (World.drewN _) (Nat.add_assoc _ _ _))⟩)) | ((with_reducible refine gate_dst (N := 14) rfl ?_); refine Kd.R_lit (Kd.int .i64) _ 2 ?hg (N := 14) ?hd (xs := ([] : List Int)) (inner := []) (ok := fun _ => True) (okp := fun _ => True) ?hr ?hp (fun _ hk => hk) trivial (Below.refl _ _) (Nat.le_refl _) (by simp) ?_; (case hd => rfl); (case hg => rfl); (case hr => first | (go_simp; done) | (go_simp; rfl)); (case hp => exact (Reps.none _ _)); intro v1317 w10 ho11 hb hg_ hnew_; clear hg_ hnew_; (first | rw [← Ny1316.out] at ho11 | (simp only [Int.reduceToNat] at ho11; rw [← Ny1316.out] at ho11)); replace HO1318 := am_ (Kd.R_lower ho11 (below_size (Zi GE1313))); replace BK1313 := (bkZ BK1313 hb); replace HB := (bsZ (Zi GE1313) hb); clear hb ho11))
   repeat (go_quiet (first | ((with_reducible refine gate_dst (N := 2) rfl ?_); refine boxZ 2 #[.slice A0_0 l0_0.length c0_0, .slice A0_1 l0_1.length c0_1, .slice A0_2 l0_2.length c0_2] 28 ?_; intro gb1313 hg w7 hbox hb; replace BK1313 := am_ (hbox); replace GW1313 := am_ ((Zr : w.heap.size ≤ gb1313)); replace GE1313 := GW1313; replace HB := (bsZ Zf hb); clear hb hbox hg; obtain ⟨hcz8_0, hcz8_1, hcz8_2, hfz8_0, hfz8_1, hfz8_2⟩ := cz3 BK1313) | (go_at_call 56; (with_reducible refine (spec_IsShow.calls k _ _ l0_0 _ _ l0_1 _ _ l0_2 true _ ?_ ?_ ?_ ?_ ?_ ?_ A3.out).mono ?_); exact (Zu HR0_0); exact HC0_0.out; exact (Zu HR0_1); exact HC0_1.out; exact (Zu HR0_2); exact HC0_2.out; rintro e w9 ⟨rfl, hb⟩; replace BK1313 := (bkZ BK1313 hb); replace HB := (bsZ (Zi GE1313) hb); clear hb) | (go_at_call 57; (with_reducible refine (spec_l01In.calls a1 0 10000 true _ A5.out).mono ?_); rintro e w' ⟨rfl, ⟨nd, rfl⟩⟩; (try first | exact ⟨rfl, _, World.drewN_drewN _ _ _⟩ | exact ⟨rfl, _, Eq.trans (World.drewN_drewN _ _ _) (congrArg (World.drewN _) (Nat.add_assoc _ _ _))⟩)) | ((with_reducible refine gate_dst (N := 14) rfl ?_); refine Kd.R_lit (Kd.int .i64) _ 2 ?hg (N := 14) ?hd (xs := ([] : List Int)) (inner := []) (ok := fun _ => True) (okp := fun _ => True) ?hr ?hp (fun _ hk => hk) trivial (Below.refl _ _) (Nat.le_refl _) (by simp) ?_; (case hd => rfl); (case hg => rfl); (case hr => first | (go_simp; done) | (go_simp; rfl)); (case hp => exact (Reps.none _ _)); intro v1317 w10 ho11 hb hg_ hnew_; clear hg_ hnew_; (first | rw [← Ny1316.out] at ho11 | (simp only [Int.reduceToNat] at ho11; rw [← Ny1316.out] at ho11)); replace HO1318 := am_ (Kd.R_lower ho11 (below_size (Zi GE1313))); replace BK1313 := (bkZ BK1313 hb); replace HB := (bsZ (Zi GE1313) hb); clear hb ho11)); try go_wp2_with (first | ((with_reducible refine gate_dst (N := 2) rfl ?_); refine boxZ 2 #[.slice A0_0 l0_0.length c0_0, .slice A0_1 l0_1.length c0_1, .slice A0_2 l0_2.length c0_2] 28 ?_; intro gb1313 hg w7 hbox hb; replace BK1313 := am_ (hbox); replace GW1313 := am_ ((Zr : w.heap.size ≤ gb1313)); replace GE1313 := GW1313; replace HB := (bsZ Zf hb); clear hb hbox hg; obtain ⟨hcz8_0, hcz8_1, hcz8_2, hfz8_0, hfz8_1, hfz8_2⟩ := cz3 BK1313) | (go_at_call 56; (with_reducible refine (spec_IsShow.calls k _ _ l0_0 _ _ l0_1 _ _ l0_2 true _ ?_ ?_ ?_ ?_ ?_ ?_ A3.out).mono ?_); exact (Zu HR0_0); exact HC0_0.out; exact (Zu HR0_1); exact HC0_1.out; exact (Zu HR0_2); exact HC0_2.out; rintro e w9 ⟨rfl, hb⟩; replace BK1313 := (bkZ BK1313 hb); replace HB := (bsZ (Zi GE1313) hb); clear hb) | (go_at_call 57; (with_reducible refine (spec_l01In.calls a1 0 10000 true _ A5.out).mono ?_); rintro e w' ⟨rfl, ⟨nd, rfl⟩⟩; (try first | exact ⟨rfl, _, World.drewN_drewN _ _ _⟩ | exact ⟨rfl, _, Eq.trans (World.drewN_drewN _ _ _) (congrArg (World.drewN _) (Nat.add_assoc _ _ _))⟩)) | ((with_reducible refine gate_dst (N := 14) rfl ?_); refine Kd.R_lit (Kd.int .i64) _ 2 ?hg (N := 14) ?hd (xs := ([] : List Int)) (inner := []) (ok := fun _ => True) (okp := fun _ => True) ?hr ?hp (fun _ hk => hk) trivial (Below.refl _ _) (Nat.le_refl _) (by simp) ?_; (case hd => rfl); (case hg => rfl); (case hr => first | (go_simp; done) | (go_simp; rfl)); (case hp => exact (Reps.none _ _)); intro v1317 w10 ho11 hb hg_ hnew_; clear hg_ hnew_; (first | rw [← Ny1316.out] at ho11 | (simp only [Int.reduceToNat] at ho11; rw [← Ny1316.out] at ho11)); replace HO1318 := am_ (Kd.R_lower ho11 (below_size (Zi GE1313))); replace BK1313 := (bkZ BK1313 hb); replace HB := (bsZ (Zi GE1313) hb); clear hb ho11)))
   go_loopg [6, 7] k (fun kq v6 v7 w' => ∃ (x6_1 : List Int) (x7_1 : Int), v7 = .int .i64 x7_1 ∧ Aside0 (spec_OffBeat.l0 kq a1 x6_1 x7_1 l0_0 l0_1 l0_2 = some (r1, r2)) ∧ Aside0 (kq ≤ k) ∧ Aside0 (Kd.R (Kd.int .i64) 2 w' w.heap.size (fun _ => True) v6 x6_1) ∧ Aside0 (w'.heap[gb1313]? = some (.cells #[(.slice A0_0 l0_0.length c0_0), (.slice A0_1 l0_1.length c0_1), (.slice A0_2 l0_2.length c0_2)] 28 (0, 0))) ∧ Aside0 (Below w.heap.size w w'))
   case atStart => exact ⟨(y1316), (0), Za, H', ⟨Nat.le_refl _⟩, ⟨(Zaa HO1318)⟩, ⟨(Zh BK1313)⟩, ⟨(Zi GE1313)⟩⟩
   case round =>
    clear H'
    try clear p2
    try clear c4
    try clear c6
    obtain ⟨x6_1, x7_1, rfl, HA, HK1, HO_6, BK1313, HB⟩ := hrel
    cases gk with
    | zero => exact absurd HA.out (by simp [spec_OffBeat.l0])
    | succ k1 =>
     have H := HA.out; clear HA; simp only [spec_OffBeat.l0] at H
     by_cases c12 : x7_1 < (l0_2.length : Int)
     ·rw [if_pos c12] at H
      have c12b0 := decide_eq_true c12; clear c12
      by_cases c13 : 0 ≤ x7_1
      ·rw [if_pos c13] at H
       have c13b0 := decide_eq_true c13; clear c13; replace H := Option.bind_eq_some_iff.mp H; obtain ⟨t1320, A140, H⟩ := H; have A14 := am_ A140; clear A140
       by_cases c15 : 0 ≤ t1320
       ·rw [if_pos c15] at H
        have c15b0 := decide_eq_true c15; clear c15
        by_cases c16 : t1320 < (l0_1.length : Int)
        ·rw [if_pos c16] at H
         have c16b0 := decide_eq_true c16; clear c16
         by_cases c17 : ((rd_T62 l0_1 t1320).f4) > a1
         ·rw [if_pos c17] at H
          have c17b0 : decide (a1 < ((rd_T62 l0_1 t1320).f4)) = true := decide_eq_true c17; clear c17
          by_cases c18 : x6_1.length < 17592186044416
          ·rw [if_pos c18] at H
           have LMc18 := am_ c18; clear c18; obtain ⟨y1322, hy1322⟩ : ∃ y_ : List Int, y_ = (x6_1 ++ [x7_1]) := ⟨_, rfl⟩
           (first | (rw [← hy1322] at H; with_reducible replace H := bindZ H) | rw [← hy1322] at H | skip)
           have Ny1322 := am_ hy1322; clear hy1322; have H' := am_ H; clear H; refine ci3 BK1313 ?_; intros; have p1319 : 0 ≤ (x7_1 : Int) := of_decide_eq_true Zc; have q1319 : x7_1 < (l0_2.length : Int) := of_decide_eq_true Zc; obtain ⟨ad1319, e1319, hx1319_0, hx1319_1, hx1319_2, hx1319_3⟩ := at_T39 HR0_2.out x7_1 p1319 q1319
           cases e1319
           replace hx1319_0 := cbH HB hx1319_0; replace hx1319_1 := cbH HB hx1319_1; replace hx1319_2 := cbH HB hx1319_2; replace hx1319_3 := cbH HB hx1319_3; replace p1319 := eq_true p1319; replace q1319 := eq_true q1319
           go_wp2_with (first | (go_at_call 64; (with_reducible refine (spec_l03Find.calls k1 _ _ l0_1 ((rd_T39 l0_2 x7_1).f2) t1320 _ ?_ ?_ A14.out).mono ?_); exact (Zu HR0_1); exact HC0_1.out; rintro e w' ⟨rfl, ⟨nd, rfl⟩⟩; (try first | exact ⟨rfl, _, World.drewN_drewN _ _ _⟩ | exact ⟨rfl, _, Eq.trans (World.drewN_drewN _ _ _) (congrArg (World.drewN _) (Nat.add_assoc _ _ _))⟩); have p1321 : 0 ≤ (t1320 : Int) := of_decide_eq_true Zc; have q1321 : t1320 < (l0_1.length : Int) := of_decide_eq_true Zc; obtain ⟨ad1321, e1321, hx1321_0, hx1321_1, hx1321_2, hx1321_3, hx1321_4, hx1321_5, hx1321_6, hx1321_7, hx1321_8⟩ := at_T62 HR0_1.out t1320 p1321 q1321; cases e1321; replace hx1321_0 := cbH HB hx1321_0; replace hx1321_1 := cbH HB hx1321_1; replace hx1321_2 := cbH HB hx1321_2; replace hx1321_3 := cbH HB hx1321_3; replace hx1321_4 := cbH HB hx1321_4; replace hx1321_5 := cbH HB hx1321_5; replace hx1321_6 := cbH HB hx1321_6; replace hx1321_7 := cbH HB hx1321_7; replace hx1321_8 := cbH HB hx1321_8; replace p1321 := eq_true p1321; replace q1321 := eq_true q1321) | ((with_reducible refine gate_builtin (b := .append) (xs := #[.tmp 38, .tmp 40]) rfl ?_); at_builtin; refine Kd.R_append (Kd.int .i64) (w0 := w) w.heap.size rfl (.tmp 38) (.tmp 40) 33 2 (.int .i64 0) 8 rfl Try.underlying33 info2 rfl (by decide) (by omega) u6 x6_1 x7_1 [.int .i64 x7_1] (fun _ => True) (fun _ => False) rfl rfl ?aP (fun _ hk => hk.elim) ?aF ?aO ?aB ?aS ?aL ?_; (case aP => exact rfl); (case aB => exact (Zi GE1313)); (case aF => exact (fun _ _ => trivial)); (case aO => exact (Zaa HO_6)); (case aS => exact (below_size (Zi GE1313))); (case aL => have := LMc18.out; omega); intro v1323 w20 ho hb hg hat; rw [← Ny1322.out] at ho; replace BK1313 := am_ (blk_grown (g := gb1313) (b0Z BK1313) hg (Kd.R_ne HO_6.out BK1313.out (by decide))); replace HB := am_ (hb); replace HO1324 := am_ (ho); clear HO_6; clear ho hb hg hat))
           repeat (go_quiet (first | (go_at_call 64; (with_reducible refine (spec_l03Find.calls k1 _ _ l0_1 ((rd_T39 l0_2 x7_1).f2) t1320 _ ?_ ?_ A14.out).mono ?_); exact (Zu HR0_1); exact HC0_1.out; rintro e w' ⟨rfl, ⟨nd, rfl⟩⟩; (try first | exact ⟨rfl, _, World.drewN_drewN _ _ _⟩ | exact ⟨rfl, _, Eq.trans (World.drewN_drewN _ _ _) (congrArg (World.drewN _) (Nat.add_assoc _ _ _))⟩); have p1321 : 0 ≤ (t1320 : Int) := of_decide_eq_true Zc; have q1321 : t1320 < (l0_1.length : Int) := of_decide_eq_true Zc; obtain ⟨ad1321, e1321, hx1321_0, hx1321_1, hx1321_2, hx1321_3, hx1321_4, hx1321_5, hx1321_6, hx1321_7, hx1321_8⟩ := at_T62 HR0_1.out t1320 p1321 q1321; cases e1321; replace hx1321_0 := cbH HB hx1321_0; replace hx1321_1 := cbH HB hx1321_1; replace hx1321_2 := cbH HB hx1321_2; replace hx1321_3 := cbH HB hx1321_3; replace hx1321_4 := cbH HB hx1321_4; replace hx1321_5 := cbH HB hx1321_5; replace hx1321_6 := cbH HB hx1321_6; replace hx1321_7 := cbH HB hx1321_7; replace hx1321_8 := cbH HB hx1321_8; replace p1321 := eq_true p1321; replace q1321 := eq_true q1321) | ((with_reducible refine gate_builtin (b := .append) (xs := #[.tmp 38, .tmp 40]) rfl ?_); at_builtin; refine Kd.R_append (Kd.int .i64) (w0 := w) w.heap.size rfl (.tmp 38) (.tmp 40) 33 2 (.int .i64 0) 8 rfl Try.underlying33 info2 rfl (by decide) (by omega) u6 x6_1 x7_1 [.int .i64 x7_1] (fun _ => True) (fun _ => False) rfl rfl ?aP (fun _ hk => hk.elim) ?aF ?aO ?aB ?aS ?aL ?_; (case aP => exact rfl); (case aB => exact (Zi GE1313)); (case aF => exact (fun _ _ => trivial)); (case aO => exact (Zaa HO_6)); (case aS => exact (below_size (Zi GE1313))); (case aL => have := LMc18.out; omega); intro v1323 w20 ho hb hg hat; rw [← Ny1322.out] at ho; replace BK1313 := am_ (blk_grown (g := gb1313) (b0Z BK1313) hg (Kd.R_ne HO_6.out BK1313.out (by decide))); replace HB := am_ (hb); replace HO1324 := am_ (ho); clear HO_6; clear ho hb hg hat)); try go_wp2_with (first | (go_at_call 64; (with_reducible refine (spec_l03Find.calls k1 _ _ l0_1 ((rd_T39 l0_2 x7_1).f2) t1320 _ ?_ ?_ A14.out).mono ?_); exact (Zu HR0_1); exact HC0_1.out; rintro e w' ⟨rfl, ⟨nd, rfl⟩⟩; (try first | exact ⟨rfl, _, World.drewN_drewN _ _ _⟩ | exact ⟨rfl, _, Eq.trans (World.drewN_drewN _ _ _) (congrArg (World.drewN _) (Nat.add_assoc _ _ _))⟩); have p1321 : 0 ≤ (t1320 : Int) := of_decide_eq_true Zc; have q1321 : t1320 < (l0_1.length : Int) := of_decide_eq_true Zc; obtain ⟨ad1321, e1321, hx1321_0, hx1321_1, hx1321_2, hx1321_3, hx1321_4, hx1321_5, hx1321_6, hx1321_7, hx1321_8⟩ := at_T62 HR0_1.out t1320 p1321 q1321; cases e1321; replace hx1321_0 := cbH HB hx1321_0; replace hx1321_1 := cbH HB hx1321_1; replace hx1321_2 := cbH HB hx1321_2; replace hx1321_3 := cbH HB hx1321_3; replace hx1321_4 := cbH HB hx1321_4; replace hx1321_5 := cbH HB hx1321_5; replace hx1321_6 := cbH HB hx1321_6; replace hx1321_7 := cbH HB hx1321_7; replace hx1321_8 := cbH HB hx1321_8; replace p1321 := eq_true p1321; replace q1321 := eq_true q1321) | ((with_reducible refine gate_builtin (b := .append) (xs := #[.tmp 38, .tmp 40]) rfl ?_); at_builtin; refine Kd.R_append (Kd.int .i64) (w0 := w) w.heap.size rfl (.tmp 38) (.tmp 40) 33 2 (.int .i64 0) 8 rfl Try.underlying33 info2 rfl (by decide) (by omega) u6 x6_1 x7_1 [.int .i64 x7_1] (fun _ => True) (fun _ => False) rfl rfl ?aP (fun _ hk => hk.elim) ?aF ?aO ?aB ?aS ?aL ?_; (case aP => exact rfl); (case aB => exact (Zi GE1313)); (case aF => exact (fun _ _ => trivial)); (case aO => exact (Zaa HO_6)); (case aS => exact (below_size (Zi GE1313))); (case aL => have := LMc18.out; omega); intro v1323 w20 ho hb hg hat; rw [← Ny1322.out] at ho; replace BK1313 := am_ (blk_grown (g := gb1313) (b0Z BK1313) hg (Kd.R_ne HO_6.out BK1313.out (by decide))); replace HB := am_ (hb); replace HO1324 := am_ (ho); clear HO_6; clear ho hb hg hat)))
           go_roundg k1
           case measure => have := HK1.out; omega
           case rel => exact ⟨(y1322), (wrap64 (x7_1 + 1)), Za, H', ⟨Zd⟩, ⟨(Zaa HO1324)⟩, ⟨(Zh BK1313)⟩, ⟨(Zi GE1313)⟩⟩
          ·rw [if_neg c18] at H
           exact absurd H (by simp)
         ·rw [if_neg c17] at H
          have c17b0 : decide (a1 < ((rd_T62 l0_1 t1320).f4)) = false := decide_eq_false c17; clear c17; have H' := am_ H; clear H; refine ci3 BK1313 ?_; intros; have p1319 : 0 ≤ (x7_1 : Int) := of_decide_eq_true Zc; have q1319 : x7_1 < (l0_2.length : Int) := of_decide_eq_true Zc; obtain ⟨ad1319, e1319, hx1319_0, hx1319_1, hx1319_2, hx1319_3⟩ := at_T39 HR0_2.out x7_1 p1319 q1319
          cases e1319
          replace hx1319_0 := cbH HB hx1319_0; replace hx1319_1 := cbH HB hx1319_1; replace hx1319_2 := cbH HB hx1319_2; replace hx1319_3 := cbH HB hx1319_3; replace p1319 := eq_true p1319; replace q1319 := eq_true q1319
          go_wp2_with (first | (go_at_call 64; (with_reducible refine (spec_l03Find.calls k1 _ _ l0_1 ((rd_T39 l0_2 x7_1).f2) t1320 _ ?_ ?_ A14.out).mono ?_); exact (Zu HR0_1); exact HC0_1.out; rintro e w' ⟨rfl, ⟨nd, rfl⟩⟩; (try first | exact ⟨rfl, _, World.drewN_drewN _ _ _⟩ | exact ⟨rfl, _, Eq.trans (World.drewN_drewN _ _ _) (congrArg (World.drewN _) (Nat.add_assoc _ _ _))⟩); have p1321 : 0 ≤ (t1320 : Int) := of_decide_eq_true Zc; have q1321 : t1320 < (l0_1.length : Int) := of_decide_eq_true Zc; obtain ⟨ad1321, e1321, hx1321_0, hx1321_1, hx1321_2, hx1321_3, hx1321_4, hx1321_5, hx1321_6, hx1321_7, hx1321_8⟩ := at_T62 HR0_1.out t1320 p1321 q1321; cases e1321; replace hx1321_0 := cbH HB hx1321_0; replace hx1321_1 := cbH HB hx1321_1; replace hx1321_2 := cbH HB hx1321_2; replace hx1321_3 := cbH HB hx1321_3; replace hx1321_4 := cbH HB hx1321_4; replace hx1321_5 := cbH HB hx1321_5; replace hx1321_6 := cbH HB hx1321_6; replace hx1321_7 := cbH HB hx1321_7; replace hx1321_8 := cbH HB hx1321_8; replace p1321 := eq_true p1321; replace q1321 := eq_true q1321))
          repeat (go_quiet (first | (go_at_call 64; (with_reducible refine (spec_l03Find.calls k1 _ _ l0_1 ((rd_T39 l0_2 x7_1).f2) t1320 _ ?_ ?_ A14.out).mono ?_); exact (Zu HR0_1); exact HC0_1.out; rintro e w' ⟨rfl, ⟨nd, rfl⟩⟩; (try first | exact ⟨rfl, _, World.drewN_drewN _ _ _⟩ | exact ⟨rfl, _, Eq.trans (World.drewN_drewN _ _ _) (congrArg (World.drewN _) (Nat.add_assoc _ _ _))⟩); have p1321 : 0 ≤ (t1320 : Int) := of_decide_eq_true Zc; have q1321 : t1320 < (l0_1.length : Int) := of_decide_eq_true Zc; obtain ⟨ad1321, e1321, hx1321_0, hx1321_1, hx1321_2, hx1321_3, hx1321_4, hx1321_5, hx1321_6, hx1321_7, hx1321_8⟩ := at_T62 HR0_1.out t1320 p1321 q1321; cases e1321; replace hx1321_0 := cbH HB hx1321_0; replace hx1321_1 := cbH HB hx1321_1; replace hx1321_2 := cbH HB hx1321_2; replace hx1321_3 := cbH HB hx1321_3; replace hx1321_4 := cbH HB hx1321_4; replace hx1321_5 := cbH HB hx1321_5; replace hx1321_6 := cbH HB hx1321_6; replace hx1321_7 := cbH HB hx1321_7; replace hx1321_8 := cbH HB hx1321_8; replace p1321 := eq_true p1321; replace q1321 := eq_true q1321)); try go_wp2_with (first | (go_at_call 64; (with_reducible refine (spec_l03Find.calls k1 _ _ l0_1 ((rd_T39 l0_2 x7_1).f2) t1320 _ ?_ ?_ A14.out).mono ?_); exact (Zu HR0_1); exact HC0_1.out; rintro e w' ⟨rfl, ⟨nd, rfl⟩⟩; (try first | exact ⟨rfl, _, World.drewN_drewN _ _ _⟩ | exact ⟨rfl, _, Eq.trans (World.drewN_drewN _ _ _) (congrArg (World.drewN _) (Nat.add_assoc _ _ _))⟩); have p1321 : 0 ≤ (t1320 : Int) := of_decide_eq_true Zc; have q1321 : t1320 < (l0_1.length : Int) := of_decide_eq_true Zc; obtain ⟨ad1321, e1321, hx1321_0, hx1321_1, hx1321_2, hx1321_3, hx1321_4, hx1321_5, hx1321_6, hx1321_7, hx1321_8⟩ := at_T62 HR0_1.out t1320 p1321 q1321; cases e1321; replace hx1321_0 := cbH HB hx1321_0; replace hx1321_1 := cbH HB hx1321_1; replace hx1321_2 := cbH HB hx1321_2; replace hx1321_3 := cbH HB hx1321_3; replace hx1321_4 := cbH HB hx1321_4; replace hx1321_5 := cbH HB hx1321_5; replace hx1321_6 := cbH HB hx1321_6; replace hx1321_7 := cbH HB hx1321_7; replace hx1321_8 := cbH HB hx1321_8; replace p1321 := eq_true p1321; replace q1321 := eq_true q1321)))
          go_roundg k1
          case measure => have := HK1.out; omega
          case rel => exact ⟨(x6_1), (wrap64 (x7_1 + 1)), Za, H', ⟨Zd⟩, ⟨(Zaa HO_6)⟩, ⟨(Zh BK1313)⟩, ⟨(Zi GE1313)⟩⟩
        ·rw [if_neg c16] at H
         exact absurd H (by simp)
       ·rw [if_neg c15] at H
        exact absurd H (by simp)
      ·rw [if_neg c13] at H
       exact absurd H (by simp)
     ·rw [if_neg c12] at H
      have c12b0 := decide_eq_false c12; clear c12; simp only [Option.some.injEq, Prod.mk.injEq] at H; obtain ⟨rfl, rfl⟩ := H; refine ci3 BK1313 ?_; intros
      go_wp2
      repeat (go_quiet (fail); try go_wp2)
      go_ret2
      exact ⟨_, Zl, (Zaa HO_6), (Zi GE1313)⟩
  ·replace c6 := Bool.eq_false_iff.mpr c6
   subst c6; rw [if_neg (show ¬ (false = true) by decide)] at H; simp only [Option.some.injEq, Prod.mk.injEq] at H; obtain ⟨rfl, rfl⟩ := H
   go_enter Try.func43, Try.ntmps43
   go_wp2_with (first | ((with_reducible refine gate_dst (N := 2) rfl ?_); refine boxZ 2 #[.slice A0_0 l0_0.length c0_0, .slice A0_1 l0_1.length c0_1, .slice A0_2 l0_2.length c0_2] 28 ?_; intro gb1313 hg w23 hbox hb; replace BK1313 := am_ (hbox); replace GW1313 := am_ ((Zr : w.heap.size ≤ gb1313)); replace GE1313 := GW1313; replace HB := (bsZ Zf hb); clear hb hbox hg; obtain ⟨hcz24_0, hcz24_1, hcz24_2, hfz24_0, hfz24_1, hfz24_2⟩ := cz3 BK1313) | (go_at_call 56; (with_reducible refine (spec_IsShow.calls k _ _ l0_0 _ _ l0_1 _ _ l0_2 true _ ?_ ?_ ?_ ?_ ?_ ?_ A3.out).mono ?_); exact (Zu HR0_0); exact HC0_0.out; exact (Zu HR0_1); exact HC0_1.out; exact (Zu HR0_2); exact HC0_2.out; rintro e w25 ⟨rfl, hb⟩; replace BK1313 := (bkZ BK1313 hb); replace HB := (bsZ (Zi GE1313) hb); clear hb) | (go_at_call 57; (with_reducible refine (spec_l01In.calls a1 0 10000 false _ A5.out).mono ?_); rintro e w' ⟨rfl, ⟨nd, rfl⟩⟩; (try first | exact ⟨rfl, _, World.drewN_drewN _ _ _⟩ | exact ⟨rfl, _, Eq.trans (World.drewN_drewN _ _ _) (congrArg (World.drewN _) (Nat.add_assoc _ _ _))⟩)))
   repeat (go_quiet (first | ((with_reducible refine gate_dst (N := 2) rfl ?_); refine boxZ 2 #[.slice A0_0 l0_0.length c0_0, .slice A0_1 l0_1.length c0_1, .slice A0_2 l0_2.length c0_2] 28 ?_; intro gb1313 hg w23 hbox hb; replace BK1313 := am_ (hbox); replace GW1313 := am_ ((Zr : w.heap.size ≤ gb1313)); replace GE1313 := GW1313; replace HB := (bsZ Zf hb); clear hb hbox hg; obtain ⟨hcz24_0, hcz24_1, hcz24_2, hfz24_0, hfz24_1, hfz24_2⟩ := cz3 BK1313) | (go_at_call 56; (with_reducible refine (spec_IsShow.calls k _ _ l0_0 _ _ l0_1 _ _ l0_2 true _ ?_ ?_ ?_ ?_ ?_ ?_ A3.out).mono ?_); exact (Zu HR0_0); exact HC0_0.out; exact (Zu HR0_1); exact HC0_1.out; exact (Zu HR0_2); exact HC0_2.out; rintro e w25 ⟨rfl, hb⟩; replace BK1313 := (bkZ BK1313 hb); replace HB := (bsZ (Zi GE1313) hb); clear hb) | (go_at_call 57; (with_reducible refine (spec_l01In.calls a1 0 10000 false _ A5.out).mono ?_); rintro e w' ⟨rfl, ⟨nd, rfl⟩⟩; (try first | exact ⟨rfl, _, World.drewN_drewN _ _ _⟩ | exact ⟨rfl, _, Eq.trans (World.drewN_drewN _ _ _) (congrArg (World.drewN _) (Nat.add_assoc _ _ _))⟩))); try go_wp2_with (first | ((with_reducible refine gate_dst (N := 2) rfl ?_); refine boxZ 2 #[.slice A0_0 l0_0.length c0_0, .slice A0_1 l0_1.length c0_1, .slice A0_2 l0_2.length c0_2] 28 ?_; intro gb1313 hg w23 hbox hb; replace BK1313 := am_ (hbox); replace GW1313 := am_ ((Zr : w.heap.size ≤ gb1313)); replace GE1313 := GW1313; replace HB := (bsZ Zf hb); clear hb hbox hg; obtain ⟨hcz24_0, hcz24_1, hcz24_2, hfz24_0, hfz24_1, hfz24_2⟩ := cz3 BK1313) | (go_at_call 56; (with_reducible refine (spec_IsShow.calls k _ _ l0_0 _ _ l0_1 _ _ l0_2 true _ ?_ ?_ ?_ ?_ ?_ ?_ A3.out).mono ?_); exact (Zu HR0_0); exact HC0_0.out; exact (Zu HR0_1); exact HC0_1.out; exact (Zu HR0_2); exact HC0_2.out; rintro e w25 ⟨rfl, hb⟩; replace BK1313 := (bkZ BK1313 hb); replace HB := (bsZ (Zi GE1313) hb); clear hb) | (go_at_call 57; (with_reducible refine (spec_l01In.calls a1 0 10000 false _ A5.out).mono ?_); rintro e w' ⟨rfl, ⟨nd, rfl⟩⟩; (try first | exact ⟨rfl, _, World.drewN_drewN _ _ _⟩ | exact ⟨rfl, _, Eq.trans (World.drewN_drewN _ _ _) (congrArg (World.drewN _) (Nat.add_assoc _ _ _))⟩))))
   go_ret2
   exact ⟨_, Zl, Zai, (Zi GE1313)⟩
 ·replace c4 := Bool.eq_false_iff.mpr c4
  subst c4; rw [if_neg (show ¬ (false = true) by decide)] at H; simp only [Option.some.injEq, Prod.mk.injEq] at H; obtain ⟨rfl, rfl⟩ := H
  go_enter Try.func43, Try.ntmps43
  go_wp2_with (first | ((with_reducible refine gate_dst (N := 2) rfl ?_); refine boxZ 2 #[.slice A0_0 l0_0.length c0_0, .slice A0_1 l0_1.length c0_1, .slice A0_2 l0_2.length c0_2] 28 ?_; intro gb1313 hg w26 hbox hb; replace BK1313 := am_ (hbox); replace GW1313 := am_ ((Zr : w.heap.size ≤ gb1313)); replace GE1313 := GW1313; replace HB := (bsZ Zf hb); clear hb hbox hg; obtain ⟨hcz27_0, hcz27_1, hcz27_2, hfz27_0, hfz27_1, hfz27_2⟩ := cz3 BK1313) | (go_at_call 56; (with_reducible refine (spec_IsShow.calls k _ _ l0_0 _ _ l0_1 _ _ l0_2 false _ ?_ ?_ ?_ ?_ ?_ ?_ A3.out).mono ?_); exact (Zu HR0_0); exact HC0_0.out; exact (Zu HR0_1); exact HC0_1.out; exact (Zu HR0_2); exact HC0_2.out; rintro e w28 ⟨rfl, hb⟩; replace BK1313 := (bkZ BK1313 hb); replace HB := (bsZ (Zi GE1313) hb); clear hb))
  repeat (go_quiet (first | ((with_reducible refine gate_dst (N := 2) rfl ?_); refine boxZ 2 #[.slice A0_0 l0_0.length c0_0, .slice A0_1 l0_1.length c0_1, .slice A0_2 l0_2.length c0_2] 28 ?_; intro gb1313 hg w26 hbox hb; replace BK1313 := am_ (hbox); replace GW1313 := am_ ((Zr : w.heap.size ≤ gb1313)); replace GE1313 := GW1313; replace HB := (bsZ Zf hb); clear hb hbox hg; obtain ⟨hcz27_0, hcz27_1, hcz27_2, hfz27_0, hfz27_1, hfz27_2⟩ := cz3 BK1313) | (go_at_call 56; (with_reducible refine (spec_IsShow.calls k _ _ l0_0 _ _ l0_1 _ _ l0_2 false _ ?_ ?_ ?_ ?_ ?_ ?_ A3.out).mono ?_); exact (Zu HR0_0); exact HC0_0.out; exact (Zu HR0_1); exact HC0_1.out; exact (Zu HR0_2); exact HC0_2.out; rintro e w28 ⟨rfl, hb⟩; replace BK1313 := (bkZ BK1313 hb); replace HB := (bsZ (Zi GE1313) hb); clear hb)); try go_wp2_with (first | ((with_reducible refine gate_dst (N := 2) rfl ?_); refine boxZ 2 #[.slice A0_0 l0_0.length c0_0, .slice A0_1 l0_1.length c0_1, .slice A0_2 l0_2.length c0_2] 28 ?_; intro gb1313 hg w26 hbox hb; replace BK1313 := am_ (hbox); replace GW1313 := am_ ((Zr : w.heap.size ≤ gb1313)); replace GE1313 := GW1313; replace HB := (bsZ Zf hb); clear hb hbox hg; obtain ⟨hcz27_0, hcz27_1, hcz27_2, hfz27_0, hfz27_1, hfz27_2⟩ := cz3 BK1313) | (go_at_call 56; (with_reducible refine (spec_IsShow.calls k _ _ l0_0 _ _ l0_1 _ _ l0_2 false _ ?_ ?_ ?_ ?_ ?_ ?_ A3.out).mono ?_); exact (Zu HR0_0); exact HC0_0.out; exact (Zu HR0_1); exact HC0_1.out; exact (Zu HR0_2); exact HC0_2.out; rintro e w28 ⟨rfl, hb⟩; replace BK1313 := (bkZ BK1313 hb); replace HB := (bsZ (Zi GE1313) hb); clear hb)))
  go_ret2
  exact ⟨_, Zl, Zai, (Zi GE1313)⟩
def impl_FindArticle.f (k : Nat) (l0 : List (S62)) (a1 : ByteArray) : Option (Int × Int) := (impl_AreArticles.f k l0).bind fun t1325 => (if t1325 = true then ((impl_articleOf.f k l0 a1).bind fun t1326 => (if t1326 < 0 then (some (0, 4)) else (some (t1326, 0)))) else (some (0, 1)))
set_option maxHeartbeats 8000000 in
set_option maxRecDepth 100000 in
theorem impl_FindArticle.calls (k : Nat) (A0 : Option Addr) (c0 : Nat) (l0 : List (S62)) (a1 : ByteArray) (r1 : Int) (r2 : Int) (w : World) (hr0 : Kd.C k62 w A0 l0.length l0) (hc0 : l0.length ≤ c0) (h : impl_FindArticle.f k l0 a1 = some (r1, r2)) :
  Calls Try.prog 44 #[.slice A0 l0.length c0, .string a1] w fun e w' => e = .returned (.tuple #[.int .i64 r1, .int .i64 r2]) ∧ Below w.heap.size w w' := by
 have HR0 := am_ hr0; have HC0 := am_ hc0; clear hr0 hc0; have HB := am_ (Below.refl w.heap.size w); have H : ((impl_AreArticles.f k l0).bind fun t1325 => (if t1325 = true then ((impl_articleOf.f k l0 a1).bind fun t1326 => (if t1326 < 0 then (some (0, 4)) else (some (t1326, 0)))) else (some (0, 1)))) = some (r1, r2) := h; clear h; replace H := Option.bind_eq_some_iff.mp H; obtain ⟨t1325, A30, H⟩ := H; have A3 := am_ A30; clear A30; have HS_ := am_ H; clear H
 go_enter Try.func44, Try.ntmps44
 go_wp2_with (first | ((with_reducible refine gate_callee (f := 69) rfl ?_); refine gZ 8 Try.func69 #[.slice A0 l0.length c0] ?_; (with_reducible refine (impl_AreArticles.calls k _ _ l0 t1325 _ ?_ ?_ A3.out).mono ?_); exact (Ze HR0); exact HC0.out; rintro e w7 ⟨rfl, hb⟩; refine ⟨_, rfl, ?_⟩; replace HB := (bsZ Zf hb); clear hb; refine ?roundEnd))
 case roundEnd =>
  by_cases c4 : t1325 = true
  ·have H := HS_.out
   clear HS_; subst c4; rw [if_pos rfl] at H; replace H := Option.bind_eq_some_iff.mp H; obtain ⟨t1326, A50, H⟩ := H; have A5 := am_ A50; clear A50; have HS_ := am_ H; clear H
   go_wp2_with (first | ((with_reducible refine gate_callee (f := 63) rfl ?_); refine gZ 12 Try.func63 #[.slice A0 l0.length c0, .string a1] ?_; (with_reducible refine (impl_articleOf.calls k _ _ l0 a1 t1326 _ ?_ ?_ A5.out).mono ?_); exact (Zu HR0); exact HC0.out; rintro e w8 ⟨rfl, hb⟩; refine ⟨_, rfl, ?_⟩; replace HB := (bsZ Zf hb); clear hb; refine ?roundEnd))
   case roundEnd =>
    by_cases c6 : t1326 < 0
    ·have H := HS_.out
     clear HS_; rw [if_pos c6] at H; have c6b0 := decide_eq_true c6; clear c6; simp only [Option.some.injEq, Prod.mk.injEq] at H; obtain ⟨rfl, rfl⟩ := H
     go_wp2_with (first | fail)
     go_ret2
     exact ⟨Zl, Zf⟩
    ·have H := HS_.out
     clear HS_; rw [if_neg c6] at H; have c6b0 := decide_eq_false c6; clear c6; simp only [Option.some.injEq, Prod.mk.injEq] at H; obtain ⟨rfl, rfl⟩ := H
     go_wp2_with (first | fail)
     go_ret2
     exact ⟨Zl, Zf⟩
  ·have H := HS_.out
   clear HS_; replace c4 := Bool.eq_false_iff.mpr c4; subst c4; rw [if_neg (show ¬ (false = true) by decide)] at H; simp only [Option.some.injEq, Prod.mk.injEq] at H; obtain ⟨rfl, rfl⟩ := H
   go_wp2_with (first | fail)
   go_ret2
   exact ⟨Zl, Zf⟩
def spec_FindArticle.f (k : Nat) (l0 : List (S62)) (a1 : ByteArray) : Option (Int × Int) := (spec_AreArticles.f k l0).bind fun t1327 => (if t1327 = true then ((spec_l03Find.f k l0 a1).bind fun t1328 => (if t1328 < 0 then (some (0, 4)) else (some (t1328, 0)))) else (some (0, 1)))
set_option maxHeartbeats 8000000 in
set_option maxRecDepth 100000 in
theorem spec_FindArticle.calls (k : Nat) (A0 : Option Addr) (c0 : Nat) (l0 : List (S62)) (a1 : ByteArray) (r1 : Int) (r2 : Int) (w : World) (hr0 : Kd.C k62 w A0 l0.length l0) (hc0 : l0.length ≤ c0) (h : spec_FindArticle.f k l0 a1 = some (r1, r2)) :
  Calls Try.prog 45 #[.slice A0 l0.length c0, .string a1] w fun e w' => e = .returned (.tuple #[.int .i64 r1, .int .i64 r2]) ∧ Below w.heap.size w w' := by
 have HR0 := am_ hr0; have HC0 := am_ hc0; clear hr0 hc0; have HB := am_ (Below.refl w.heap.size w); have H : ((spec_AreArticles.f k l0).bind fun t1327 => (if t1327 = true then ((spec_l03Find.f k l0 a1).bind fun t1328 => (if t1328 < 0 then (some (0, 4)) else (some (t1328, 0)))) else (some (0, 1)))) = some (r1, r2) := h; clear h; replace H := Option.bind_eq_some_iff.mp H; obtain ⟨t1327, A30, H⟩ := H; have A3 := am_ A30; clear A30; have HS_ := am_ H; clear H
 go_enter Try.func45, Try.ntmps45
 go_wp2_with (first | ((with_reducible refine gate_callee (f := 81) rfl ?_); refine gZ 8 Try.func81 #[.slice A0 l0.length c0] ?_; (with_reducible refine (spec_AreArticles.calls k _ _ l0 t1327 _ ?_ ?_ A3.out).mono ?_); exact (Ze HR0); exact HC0.out; rintro e w7 ⟨rfl, hb⟩; refine ⟨_, rfl, ?_⟩; replace HB := (bsZ Zf hb); clear hb; refine ?roundEnd))
 case roundEnd =>
  by_cases c4 : t1327 = true
  ·have H := HS_.out
   clear HS_; subst c4; rw [if_pos rfl] at H; replace H := Option.bind_eq_some_iff.mp H; obtain ⟨t1328, A50, H⟩ := H; have A5 := am_ A50; clear A50; have HS_ := am_ H; clear H
   go_wp2_with (first | ((with_reducible refine gate_callee (f := 64) rfl ?_); refine gZ 12 Try.func64 #[.slice A0 l0.length c0, .string a1] ?_; (with_reducible refine (spec_l03Find.calls k _ _ l0 a1 t1328 _ ?_ ?_ A5.out).mono ?_); exact (Zu HR0); exact HC0.out; rintro e w' ⟨rfl, ⟨nd, rfl⟩⟩; refine ⟨_, rfl, ?_⟩; refine ?roundEnd))
   case roundEnd =>
    by_cases c6 : t1328 < 0
    ·have H := HS_.out
     clear HS_; rw [if_pos c6] at H; have c6b0 := decide_eq_true c6; clear c6; simp only [Option.some.injEq, Prod.mk.injEq] at H; obtain ⟨rfl, rfl⟩ := H
     go_wp2_with (first | fail)
     go_ret2
     exact ⟨Zl, Zf⟩
    ·have H := HS_.out
     clear HS_; rw [if_neg c6] at H; have c6b0 := decide_eq_false c6; clear c6; simp only [Option.some.injEq, Prod.mk.injEq] at H; obtain ⟨rfl, rfl⟩ := H
     go_wp2_with (first | fail)
     go_ret2
     exact ⟨Zl, Zf⟩
  ·have H := HS_.out
   clear HS_; replace c4 := Bool.eq_false_iff.mpr c4; subst c4; rw [if_neg (show ¬ (false = true) by decide)] at H; simp only [Option.some.injEq, Prod.mk.injEq] at H; obtain ⟨rfl, rfl⟩ := H
   go_wp2_with (first | fail)
   go_ret2
   exact ⟨Zl, Zf⟩
def IsS95 (w0 W : World) (g : Nat) (f0 : List Int) (f1 : Int) (f2 : Int) : Prop := ∃ A0 c0, W.heap[g]? = some (.cells #[.slice A0 f0.length c0, .int .i64 f1, .int .u64 f2] 95 (0, 0)) ∧ w0.heap.size ≤ g ∧ Kd.C (Kd.int .u8) w0 A0 f0.length f0
theorem IsS95.grown {w0 W : World} {g : Nat} {f0 : List Int} {f1 : Int} {f2 : Int} {W1 : World} {row : Option Nat} (h : IsS95 w0 W g f0 f1 f2) (hw : W.grownBy W1 row) (hne : some g ≠ row) : IsS95 w0 W1 g f0 f1 f2 := by
 obtain ⟨A0, c0, hb, hg, hr0⟩ := h; exact ⟨A0, c0, blk_grown hb hw hne, hg, hr0⟩
theorem IsS95.kept {w0 W : World} {g : Nat} {f0 : List Int} {f1 : Int} {f2 : Int} {W1 : World} {S : Nat → Prop} (h : IsS95 w0 W g f0 f1 f2) (hk : Kept W W1 S) (hne : ¬ S g) : IsS95 w0 W1 g f0 f1 f2 := by
 obtain ⟨A0, c0, hb, hg, hr0⟩ := h; exact ⟨A0, c0, blk_kept hb hk hne, hg, hr0⟩
theorem IsS95.below {w0 W : World} {g : Nat} {f0 : List Int} {f1 : Int} {f2 : Int} {W1 : World} (h : IsS95 w0 W g f0 f1 f2) (hw : Below W.heap.size W W1) : IsS95 w0 W1 g f0 f1 f2 := h.grown (grown_of_below hw none) (by simp)
theorem IsS95.alloc {w0 W : World} {g : Nat} {f0 : List Int} {f1 : Int} {f2 : Int} (h : IsS95 w0 W g f0 f1 f2) (o : Obj) : IsS95 w0 (W.alloc o) g f0 f1 f2 := h.below (below_alloc (Below.refl _ _) o)
theorem IsS95.drewN {w0 W : World} {g : Nat} {f0 : List Int} {f1 : Int} {f2 : Int} (h : IsS95 w0 W g f0 f1 f2) (m : Nat) : IsS95 w0 (W.drewN m) g f0 f1 f2 := h
theorem IsS95.drew {w0 W : World} {g : Nat} {f0 : List Int} {f1 : Int} {f2 : Int} (h : IsS95 w0 W g f0 f1 f2) : IsS95 w0 W.drew g f0 f1 f2 := h
theorem IsS95.at_ {w0 W : World} {g : Nat} {f0 : List Int} {f1 : Int} {f2 : Int} {w' : World} {m : Nat} (hq : W.drewN m = w') (h : IsS95 w0 W g f0 f1 f2) : IsS95 w0 w' g f0 f1 f2 := by subst hq; exact IsS95.drewN h m
theorem IsS95.apart {w0 W : World} {g : Nat} {f0 : List Int} {f1 : Int} {f2 : Int} {α : Type} {d : Kd α} {e : Nat} {base : Nat} {ok : Nat → Prop} {v : Value} {xs : List α} (h : IsS95 w0 W g f0 f1 f2) (ho : d.R e W base ok v xs) (ht : ∀ q, q ∈ e :: d.E → q ≠ 95) : d.R e W base (fun k => ok k ∧ k ≠ g) v xs := by
 obtain ⟨A0, c0, hb, hg, hr0⟩ := h; exact Kd.R_types ho hb ht
theorem IsS95.own_ne {w0 W : World} {g : Nat} {f0 : List Int} {f1 : Int} {f2 : Int} {α : Type} {d : Kd α} {e : Nat} {base : Nat} {ok : Nat → Prop} {v : Value} {xs : List α} (h : IsS95 w0 W g f0 f1 f2) (ho : d.R e W base ok v xs) (ht : e ≠ 95) : some g ≠ v.ownBlock := by
 obtain ⟨A0, c0, hb, hg, hr0⟩ := h; exact Kd.R_ne ho hb ht
theorem IsS95.lt {w0 W : World} {g : Nat} {f0 : List Int} {f1 : Int} {f2 : Int} (h : IsS95 w0 W g f0 f1 f2) : g < W.heap.size := by
 obtain ⟨A0, c0, hb, hg, hr0⟩ := h; exact blk_lt hb
theorem IsS95.ge {w0 W : World} {g : Nat} {f0 : List Int} {f1 : Int} {f2 : Int} (h : IsS95 w0 W g f0 f1 f2) : w0.heap.size ≤ g := by
 obtain ⟨A0, c0, hb, hg, hr0⟩ := h; exact hg
theorem IsS95.ne_blk {w0 W : World} {g : Nat} {f0 : List Int} {f1 : Int} {f2 : Int} {a : Nat} {cs : Array Value} {t : TypeId} {fr : Nat × Nat} (h : IsS95 w0 W g f0 f1 f2) (hb2 : W.heap[a]? = some (.cells cs t fr)) (ht : t ≠ 95) : g ≠ a := by
 obtain ⟨A0, c0, hb, hg, hr0⟩ := h; rintro rfl; rw [hb] at hb2; injection hb2 with hb2; injection hb2 with _ ht2; exact ht ht2.symm
theorem IsS95.far {w0 W : World} {g : Nat} {f0 : List Int} {f1 : Int} {f2 : Int} {p : Addr} (h : IsS95 w0 W g f0 f1 f2) (hne : g ≠ p.block) (u : Value) : IsS95 w0 (W.setCell p u) g f0 f1 f2 := by
 obtain ⟨A0, c0, hb, hg, hr0⟩ := h; exact ⟨A0, c0, blk_far hb hne u, hg, hr0⟩
theorem cellS95_0 {W : World} {g : Nat} {A0 : Option Addr} {c0 : Nat} {f0 : List Int} {f1 : Int} {f2 : Int} (h : W.heap[g]? = some (.cells #[.slice A0 f0.length c0, .int .i64 f1, .int .u64 f2] 95 (0, 0))) : W.cell? ⟨g, 0, none⟩ = some (.slice A0 f0.length c0) := (blk_cell h 0).trans rfl
theorem cellS95_1 {W : World} {g : Nat} {A0 : Option Addr} {c0 : Nat} {f0 : List Int} {f1 : Int} {f2 : Int} (h : W.heap[g]? = some (.cells #[.slice A0 f0.length c0, .int .i64 f1, .int .u64 f2] 95 (0, 0))) : W.cell? ⟨g, 1, none⟩ = some (.int .i64 f1) := (blk_cell h 1).trans rfl
theorem IsS95.set_1 {w0 W : World} {g : Nat} {f0 : List Int} {f1 : Int} {f2 : Int} (h : IsS95 w0 W g f0 f1 f2) (x : Int) : IsS95 w0 (W.setCell ⟨g, 1, none⟩ (.int .i64 x)) g f0 x f2 := by
 obtain ⟨A0, c0, hb, hg, hr0⟩ := h; exact ⟨A0, c0, by simpa using blk_set hb 1 (.int .i64 x), hg, hr0⟩
theorem cellS95_2 {W : World} {g : Nat} {A0 : Option Addr} {c0 : Nat} {f0 : List Int} {f1 : Int} {f2 : Int} (h : W.heap[g]? = some (.cells #[.slice A0 f0.length c0, .int .i64 f1, .int .u64 f2] 95 (0, 0))) : W.cell? ⟨g, 2, none⟩ = some (.int .u64 f2) := (blk_cell h 2).trans rfl
theorem IsS95.set_2 {w0 W : World} {g : Nat} {f0 : List Int} {f1 : Int} {f2 : Int} (h : IsS95 w0 W g f0 f1 f2) (x : Int) : IsS95 w0 (W.setCell ⟨g, 2, none⟩ (.int .u64 x)) g f0 f1 x := by
 obtain ⟨A0, c0, hb, hg, hr0⟩ := h; exact ⟨A0, c0, by simpa using blk_set hb 2 (.int .u64 x), hg, hr0⟩
def laws_roll.l0 : Nat → List Int → Int → List Int → Int → Int → Option (List Int × Int × Int)
 | 0, _, _, _, _, _ => none
 | k + 1, x0, x6, x1330000, x1330001, x1330002 => if x6 < (x0.length : Int) then (if 0 ≤ x6 then (laws_roll.l0 k x0 (wrap64 (x6 + 1)) x1330000 x1330001 (IntKind.u64.wrap ((IntKind.u64.wrap ((IntKind.u64.wrap (x1330002 * 1099511628211)) + (IntKind.u64.wrap (rd x0 x6)))) + 3))) else (none)) else (some (x1330000, x1330001, x1330002))
def laws_roll.f (k : Nat) (l0 : List Int) (a1 : Int) : Option (List Int × Int × Int) := laws_roll.l0 k l0 0 l0 0 (IntKind.u64.wrap ((IntKind.u64.wrap (a1 * 7919)) + (IntKind.u64.wrap ((l0.length : Int)))))
def laws_roll.T5 : Bool × List (List Nat × List Nat) := (true, [([], []), ([], []), ([1], [1]), ([2], [2]), ([3], [3]), ([4], [4]), ([], []), ([], []), ([6, 7], [6, 7]), ([8], [8]), ([9], [9]), ([5, 10], [5, 10]), ([11], [11]), ([0, 0, 1, 2, 3, 4, 5, 6, 7, 8, 9, 10, 11, 12], [0]), ([13, 0, 1, 2, 3, 4, 5, 6, 7, 8, 9, 10, 11, 12], [13]), ([14, 12, 0, 1, 2, 3, 4, 5, 6, 7, 8, 9, 10, 11, 12], [12, 14])])
def laws_roll.B5 : List Nat := [0, 0, 2, 6, 14, 30, 0, 0, 192, 448, 960, 2046, 4094, 8191, 16383, 32767]
theorem laws_roll.tab5 : rtab .any (opsOf Try.f46 5) = laws_roll.T5 := by kernel_rfl
theorem laws_roll.bits5 : waitsOk laws_roll.T5.2 laws_roll.B5 = true := by kernel_rfl
set_option maxHeartbeats 8000000 in
set_option maxRecDepth 100000 in
theorem laws_roll.calls (k : Nat) (A0 : Option Addr) (c0 : Nat) (l0 : List Int) (a1 : Int) (r1 : List Int) (r2 : Int) (r3 : Int) (w0 w : World) (hB : Below w0.heap.size w0 w) (hr0 : Kd.C (Kd.int .u8) w0 A0 l0.length l0) (hc0 : l0.length ≤ c0) (h : laws_roll.f k l0 a1 = some (r1, r2, r3)) :
  Calls Try.prog 46 #[.slice A0 l0.length c0, .int .u64 a1] w fun e w' => ∃ g_ : Nat, e = .returned (.pointer (some ⟨g_, 0, none⟩)) ∧ IsS95 w0 w' g_ r1 r2 r3 ∧ Below w0.heap.size w0 w' ∧ Below w.heap.size w w' ∧ w.heap.size ≤ g_ := by
 have hu95 := Try.underlying95; have HR0 := am_ hr0; have HC0 := am_ hc0; clear hr0 hc0; have HBW := am_ (Below.refl w.heap.size w); have HW0 := am_ hB.size; have HB := am_ hB; clear hB; have H : (laws_roll.l0 k l0 0 l0 0 (IntKind.u64.wrap ((IntKind.u64.wrap (a1 * 7919)) + (IntKind.u64.wrap ((l0.length : Int)))))) = some (r1, r2, r3) := h; clear h; have H' := am_ H; clear H
 go_enter Try.func46, Try.ntmps46
 go_wp2_with (first | ((with_reducible refine gate_dst (N := 15) rfl ?_); refine boxZ 15 #[.slice A0 l0.length c0, .int .i64 0, .int .u64 (IntKind.u64.wrap ((IntKind.u64.wrap (a1 * 7919)) + (IntKind.u64.wrap ((l0.length : Int)))))] 95 ?_; intro gb1329 hg w3 hbox hb; replace HB := (bsZ Zf hb); replace BK1329 := am_ (hbox); replace GW1329 := am_ ((Zg : w.heap.size ≤ gb1329)); replace GE1329 := am_ ((Nat.le_trans HW0.out (Zg : w.heap.size ≤ gb1329) : w0.heap.size ≤ gb1329)); replace HBW := (bsZ HBW.out hb); clear hb hbox hg))
 go_loopg [6] k (fun kq v6 w' => ∃ (x6_1 : Int) (x1330002_1 : Int), v6 = .int .i64 x6_1 ∧ Aside0 (laws_roll.l0 kq l0 x6_1 l0 0 x1330002_1 = some (r1, r2, r3)) ∧ Aside0 (kq ≤ k) ∧ Aside0 (w'.heap[gb1329]? = some (.cells #[(.slice A0 l0.length c0), .int .i64 0, .int .u64 x1330002_1] 95 (0, 0))) ∧ Aside0 (Below w0.heap.size w0 w') ∧ Aside0 (Below w.heap.size w w'))
 case atStart => exact ⟨(0), (IntKind.u64.wrap ((IntKind.u64.wrap (a1 * 7919)) + (IntKind.u64.wrap ((l0.length : Int))))), Za, H', ⟨Nat.le_refl _⟩, ⟨(Zh BK1329)⟩, ⟨(Zi GE1329)⟩, ⟨(Zj GW1329)⟩⟩
 case round =>
  clear H'
  try clear p2
  obtain ⟨x6_1, x1330002_1, rfl, HA, HK1, BK1329, HB, HBW⟩ := hrel
  cases gk with
  | zero => exact absurd HA.out (by simp [laws_roll.l0])
  | succ k1 =>
   have H := HA.out; clear HA; simp only [laws_roll.l0] at H
   by_cases c4 : x6_1 < (l0.length : Int)
   ·rw [if_pos c4] at H
    have c4b0 := decide_eq_true c4; clear c4
    by_cases c5 : 0 ≤ x6_1
    ·rw [if_pos c5] at H
     have c5b0 := decide_eq_true c5; clear c5; have H' := am_ H; clear H
     try go_wp2
     replace BK1329 := am_ (blk_drew BK1329.out); replace HB := am_ (below_drew1 HB.out); replace HBW := am_ (below_drew1 HBW.out); have p1330 : 0 ≤ (x6_1 : Int) := of_decide_eq_true Zc; have q1330 : x6_1 < (l0.length : Int) := of_decide_eq_true Zc; obtain ⟨ad1330, e1330, hx1330_0⟩ := Kd.at_int HR0.out x6_1 p1330 q1330; have hw1330_0 := hx1330_0
     cases e1330
     replace hx1330_0 := pw_cell_below HB.out hx1330_0; replace p1330 := eq_true p1330; replace q1330 := eq_true q1330; refine start_ (n := 16) (S := fun w' => w'.cell? ⟨gb1329, 0, none⟩ = some (.slice (some ad1330) l0.length c0) ∧ w'.cell? ⟨gb1329, 1, none⟩ = some (.int .i64 0) ∧ w'.cell? ⟨gb1329, 2, none⟩ = some (.int .u64 x1330002_1) ∧ w'.cell? (ad1330.add (x6_1).toNat) = some (.int .u8 (rd l0 x6_1))) (ds := [15]) (bT 16 0) Zk rfl rfl ⟨(blk_cell BK1329.out 0).trans rfl, (blk_cell BK1329.out 1).trans rfl, (blk_cell BK1329.out 2).trans rfl, ((HB.out.cell (World.block_lt_of_cell? w0 _ hw1330_0)).trans hw1330_0)⟩ (fun hHeld => ?_); refine with_tabW laws_roll.tab5 laws_roll.bits5 (fun HT_ HW_ => ?_); generalize wr.drew = w6 at BK1329 HB HBW hx1330_0 hHeld ⊢; refine pureZ HT_ 0 (some 22) (bT 16 1) ?_; refine pureZ HT_ 1 (some 23) (bT 16 2) ?_; refine pureZ HT_ 2 (some 24) (bT 16 3) ?_; refine pureZ HT_ 3 (some 25) (bT 16 4) ?_; refine pureZ HT_ 6 (some 28) (bB 16 79) ?_; refine pureZ HT_ 7 (some 29) (bB 16 207) ?_; refine pureZ HT_ 8 (some 30) (bB 16 463) ?_; refine takeZ4 HT_ HW_ 4 (some 26) (bB 16 479) hHeld ?_; refine pureZ HT_ 5 (some 27) (bT 16 9) ?_; refine takeZ4 HT_ HW_ 9 (some 31) (bT 16 10) hHeld ?_; refine pureZ HT_ 10 (some 32) (bT 16 11) ?_; refine pureZ HT_ 11 (some 33) (bT 16 12) ?_; refine pureZ HT_ 12 (some 34) (bT 16 13) ?_; refine pureZ HT_ 13 (some 35) (bT 16 14) ?_; refine pureZ HT_ 14 (some 36) (bT 16 15) ?_; refine last_ (i := 15) (N := none) (bT 16 16) rfl rfl (one_of HT_.out Zk) (by decide) (fun K hK => ?_); have hs7 : w6.cell? ⟨gb1329, 2, none⟩ = some (.int .u64 x1330002_1) := (blk_cell BK1329.out 2).trans rfl; have hfs7 := blk_frozen BK1329.out 2; refine skip_ (w1 := ?_) (by rfl) rfl ?_ ?_; rotate_left
     ·go_simp
      rfl
     refine hK.out _ _ ?_; clear hK K; refine done_ (done_of HT_.out Zk) ?_
     try go_wp2
     go_roundg k1
     case measure => have := HK1.out; omega
     case rel => exact ⟨(wrap64 (x6_1 + 1)), (IntKind.u64.wrap ((IntKind.u64.wrap ((IntKind.u64.wrap (x1330002_1 * 1099511628211)) + (IntKind.u64.wrap (rd l0 x6_1)))) + 3)), Za, H', ⟨Zd⟩, ⟨by (with_reducible repeat (first | refine blk_drewN ?_ _ | refine blk_drew ?_ | refine blk_alloc ?_ _)); refine blk_put (cs := #[.slice (some ad1330) l0.length c0, .int .i64 0, .int .u64 x1330002_1]) ?_ 2 _ rfl; (with_reducible repeat (first | refine blk_drewN ?_ _ | refine blk_drew ?_ | refine blk_alloc ?_ _)); exact BK1329.out⟩, ⟨(Zi GE1329)⟩, ⟨(Zj GW1329)⟩⟩
    ·rw [if_neg c5] at H
     exact absurd H (by simp)
   ·rw [if_neg c4] at H
    have c4b0 := decide_eq_false c4; clear c4; simp only [Option.some.injEq, Prod.mk.injEq] at H; obtain ⟨rfl, rfl, rfl⟩ := H
    go_wp2
    go_ret
    exact ⟨_, rfl, (show IsS95 w0 _ gb1329 l0 0 x1330002_1 from ⟨_, _, (Zh BK1329), GE1329.out, HR0.out⟩), (Zi GE1329), (Zj GW1329), GW1329.out⟩
def laws_dice_below.f (s0_0 : List Int) (s0_1 : Int) (s0_2 : Int) (a1 : Int) : Option (Int × Int × Int) := if s0_1 < (s0_0.length : Int) then (if 0 ≤ s0_1 then (if a1 = 0 then (none) else (some (Int.tmod (wrap64 ((wrap64 (Go.bits .and .u64 ((IntKind.u64.wrap ((IntKind.u64.wrap (s0_2 * 6364136223846793005)) + 1442695040888963407)) / 8589934592) 16777215)) + (wrap64 (rd s0_0 s0_1)))) a1, wrap64 (s0_1 + 1), IntKind.u64.wrap ((IntKind.u64.wrap (s0_2 * 6364136223846793005)) + 1442695040888963407)))) else (none)) else (if a1 = 0 then (none) else (some (Int.tmod (wrap64 (Go.bits .and .u64 ((IntKind.u64.wrap ((IntKind.u64.wrap (s0_2 * 6364136223846793005)) + 1442695040888963407)) / 8589934592) 16777215)) a1, s0_1, IntKind.u64.wrap ((IntKind.u64.wrap (s0_2 * 6364136223846793005)) + 1442695040888963407))))
set_option maxHeartbeats 8000000 in
set_option maxRecDepth 100000 in
theorem laws_dice_below.calls (g : Nat) (s0_0 : List Int) (s0_1 : Int) (s0_2 : Int) (a1 : Int) (r1 : Int) (r2 : Int) (r3 : Int) (w0 w : World) (hI : IsS95 w0 w g s0_0 s0_1 s0_2) (hB : Below w0.heap.size w0 w) (h : laws_dice_below.f s0_0 s0_1 s0_2 a1 = some (r1, r2, r3)) :
  Calls Try.prog 47 #[.pointer (some ⟨g, 0, none⟩), .int .i64 a1] w fun e w' => e = .returned (.int .i64 r1) ∧ IsS95 w0 w' g s0_0 r2 r3 ∧ Below w0.heap.size w0 w' ∧ KeepBut w w' g none := by
 have HI0 := am_ hI; have HK := am_ (KeepBut.refl w g none); have HL := am_ hB.size; clear hI; have HW0 := am_ hB.size; have HB := am_ hB; clear hB; have H : (if s0_1 < (s0_0.length : Int) then (if 0 ≤ s0_1 then (if a1 = 0 then (none) else (some (Int.tmod (wrap64 ((wrap64 (Go.bits .and .u64 ((IntKind.u64.wrap ((IntKind.u64.wrap (s0_2 * 6364136223846793005)) + 1442695040888963407)) / 8589934592) 16777215)) + (wrap64 (rd s0_0 s0_1)))) a1, wrap64 (s0_1 + 1), IntKind.u64.wrap ((IntKind.u64.wrap (s0_2 * 6364136223846793005)) + 1442695040888963407)))) else (none)) else (if a1 = 0 then (none) else (some (Int.tmod (wrap64 (Go.bits .and .u64 ((IntKind.u64.wrap ((IntKind.u64.wrap (s0_2 * 6364136223846793005)) + 1442695040888963407)) / 8589934592) 16777215)) a1, s0_1, IntKind.u64.wrap ((IntKind.u64.wrap (s0_2 * 6364136223846793005)) + 1442695040888963407))))) = some (r1, r2, r3) := h; clear h
 by_cases c3 : s0_1 < (s0_0.length : Int)
 ·rw [if_pos c3] at H
  have c3b0 := decide_eq_true c3; clear c3
  by_cases c4 : 0 ≤ s0_1
  ·rw [if_pos c4] at H
   have c4b0 := decide_eq_true c4; clear c4
   by_cases c5 : a1 = 0
   ·rw [if_pos c5] at H
    exact absurd H (by simp)
   ·rw [if_neg c5] at H
    have c5b0 := beq_eq_false_iff_ne.mpr c5; have c5b1 := bne_iff_ne.mpr c5; simp only [Option.some.injEq, Prod.mk.injEq] at H; obtain ⟨rfl, rfl, rfl⟩ := H; obtain ⟨ASz6_0, cSz6_0, HGz6, hgz6, HSz6_0⟩ := HI0.out; have hcz6_0 := cellS95_0 HGz6; have hcz6_1 := cellS95_1 HGz6; have hcz6_2 := cellS95_2 HGz6; have hfz6_1 := blk_frozen HGz6 1; have hfz6_2 := blk_frozen HGz6 2; clear HGz6 hgz6; have p1331 : 0 ≤ (s0_1 : Int) := of_decide_eq_true Zc; have q1331 : s0_1 < (s0_0.length : Int) := of_decide_eq_true Zc; obtain ⟨ad1331, e1331, hx1331_0⟩ := Kd.at_int HSz6_0 s0_1 p1331 q1331
    cases e1331
    have hn1331_0 : ad1331.block ≠ g := Nat.ne_of_lt (Nat.lt_of_lt_of_le (Zp hx1331_0) (IsS95.ge HI0.out)); replace hx1331_0 := pw_cell_below HB.out hx1331_0; replace hx1331_0 := (cell_far (p := ⟨g, 2, none⟩) (by first | (rw [add_block]; exact hn1331_0) | (show (Addr.add _ _).block ≠ _; rw [add_block]; exact hn1331_0) | exact hn1331_0) (.int .u64 (IntKind.u64.wrap ((IntKind.u64.wrap (s0_2 * 6364136223846793005)) + 1442695040888963407)))).trans hx1331_0
    (try have hy1331_0 := fun (n_ : Nat) => (show (((w.drewN n_).setCell ⟨g, 2, none⟩ (.int .u64 (IntKind.u64.wrap ((IntKind.u64.wrap (s0_2 * 6364136223846793005)) + 1442695040888963407))))).cell? _ = some _ from hx1331_0))
    clear hn1331_0; replace p1331 := eq_true p1331; replace q1331 := eq_true q1331
    go_enter Try.func47, Try.ntmps47
    go_wp2
    repeat (go_quiet (fail); try go_wp2)
    go_ret
    exact ⟨Zl, by repeat (first | (with_reducible first | exact HI0.out | apply IsS95.alloc | apply IsS95.drewN | apply IsS95.drew | apply IsS95.set_1 | apply IsS95.set_2) | exact HI0.out), by repeat (first | (with_reducible first | exact HB.out | apply below_alloc | apply pw_below_drewN | apply below_drew1 | refine below_set ?_ (IsS95.ge HI0.out)) | exact HB.out), Zo⟩
  ·rw [if_neg c4] at H
   exact absurd H (by simp)
 ·rw [if_neg c3] at H
  have c3b0 := decide_eq_false c3; clear c3
  by_cases c7 : a1 = 0
  ·rw [if_pos c7] at H
   exact absurd H (by simp)
  ·rw [if_neg c7] at H
   have c7b0 := beq_eq_false_iff_ne.mpr c7; have c7b1 := bne_iff_ne.mpr c7; simp only [Option.some.injEq, Prod.mk.injEq] at H; obtain ⟨rfl, rfl, rfl⟩ := H; obtain ⟨ASz8_0, cSz8_0, HGz8, hgz8, HSz8_0⟩ := HI0.out; have hcz8_0 := cellS95_0 HGz8; have hcz8_1 := cellS95_1 HGz8; have hcz8_2 := cellS95_2 HGz8; have hfz8_1 := blk_frozen HGz8 1; have hfz8_2 := blk_frozen HGz8 2; clear HGz8 hgz8
   go_enter Try.func47, Try.ntmps47
   go_wp2
   repeat (go_quiet (fail); try go_wp2)
   go_ret
   exact ⟨Zl, by repeat (first | (with_reducible first | exact HI0.out | apply IsS95.alloc | apply IsS95.drewN | apply IsS95.drew | apply IsS95.set_1 | apply IsS95.set_2) | exact HI0.out), by repeat (first | (with_reducible first | exact HB.out | apply below_alloc | apply pw_below_drewN | apply below_drew1 | refine below_set ?_ (IsS95.ge HI0.out)) | exact HB.out), Zo⟩
end Go.Proofs.Ythhijbdekboahaa.F
