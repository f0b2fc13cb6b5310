import Derived.Test.YtnlbaflbhicooaaJFnExactMostAtOnce5
import Derived.Below
import Derived.Deep.Draws
import Derived.Deep.AppendLies
import Derived.Maps.AppendAt
import Derived.OwnWalk
import Derived.Laws.BytesArg
import Derived.Laws.MakeOwn
import Derived.Laws.OwnMore
import Derived.Deep.OwnRows
import Derived.Tactics
import Derived.Lib.ConvBytes
import Derived.Laws.Slices
import Derived.WalkKit
import Derived.KernelRfl
import Derived.RowKit3
import Derived.Deep.LoopGhost
import Derived.Deep.QuietTactic
import Derived.BigQuiet
import Derived.WideLaws
import Derived.Deep.DeepCutAuto
import Derived.Deep.CutBlock
import Derived.Deep.RegionHeld3
import Derived.Laws.Rows
import Derived.Lib.AppendStr
import Derived.ArgAppend
import Derived.Laws.IdiomCopy
import Derived.RowKit
import Derived.OrdersHeld
import Derived.Laws.BitsLemmas
import Derived.Laws.StructEq
import Derived.Test.YtnlbaflbhicooaaProg
import Derived.ChangeSlices
import Derived.OpenShut
import Derived.Laws.Cover1
import Derived.Test.YtnlbaflbhicooaaRows
import Derived.Test.YtnlbaflbhicooaaGcFnExactMostAtOnce
import Derived.ProofKit
import Derived.ShutString
import Derived.ChangeOld
import Derived.SizedLaws
namespace Go.Proofs.Ytnlbaflbhicooaa.F
open Go.RowKit Go.Proofs.YtnlbaflbhicooaaW.PrintWords Go.Proofs.YtnlbaflbhicooaaW.PrintLast Go.Proofs.YtnlbaflbhicooaaW.PrintMore
attribute [local go_sem] max2_int min2_int max_two min_two max_three min_three max_four min_four   -- for this text's walks alone
set_option linter.unusedVariables false
set_option linter.unusedSimpArgs false
mutual
def impl_windowsOf.l0 : Nat → List (List Int) → List (S43) → Int → Int → List (S108) → List (S92) → List (S43) → Option ((List (List Int)))
 | 0, _, _, _, _, _, _, _ => none
 | k + 1, x3, x9, x10, x11, x841000, x841001, x841002 => if x11 < x10 then (if 0 ≤ x11 then (if x11 < (x9.length : Int) then ((impl_windowsOfCue.f k x841000 x841001 x841002 ((rd_T43 x9 x11).f0) ((rd_T43 x9 x11).f1) ((rd_T43 x9 x11).f2) ((rd_T43 x9 x11).f3)).bind fun t843 => (impl_windowsOf.l1 k x3 x11 x9 x10 x11 t843 (t843.length : Int) 0 x841000 x841001 x841002)) else (none)) else (none)) else (some x3)
def impl_windowsOf.l1 : Nat → List (List Int) → Int → List (S43) → Int → Int → List (List Int) → Int → Int → List (S108) → List (S92) → List (S43) → Option ((List (List Int)))
 | 0, _, _, _, _, _, _, _, _, _, _, _ => none
 | k + 1, x3, x4, x9, x10, x11, x18, x19, x20, x841000, x841001, x841002 => if x20 < x19 then (if 0 ≤ x20 then (if x20 < (x18.length : Int) then (if 0 < ((rd_L9 x18 x20).length : Int) then (if 1 < ((rd_L9 x18 x20).length : Int) then (if x3.length < 5864062014805 then (impl_windowsOf.l1 k (x3 ++ [(([rd (rd_L9 x18 x20) 0, rd (rd_L9 x18 x20) 1, x4] : List Int))]) x4 x9 x10 x11 x18 x19 (wrap64 (x20 + 1)) x841000 x841001 x841002) else (none)) else (none)) else (none)) else (none)) else (none)) else (impl_windowsOf.l0 k x3 x9 x10 (wrap64 (x11 + 1)) x841000 x841001 x841002)
end
def impl_windowsOf.f (k : Nat) (l0_0 : List (S108)) (l0_1 : List (S92)) (l0_2 : List (S43)) : Option ((List (List Int))) := impl_windowsOf.l0 k ([] : List (List Int)) l0_2 (l0_2.length : Int) 0 l0_0 l0_1 l0_2
def impl_windowsOf.T8 : Bool × List (List Nat × List Nat) := (true, [([], []), ([], []), ([1], [1]), ([2], [2]), ([], []), ([4], [4]), ([5], [5]), ([], []), ([3, 6, 7], [3, 6, 7]), ([8], [8]), ([0, 9], [0, 9]), ([10, 10, 0, 1, 2, 3, 4, 5, 6, 7, 8, 9, 10], [0, 10])])
def impl_windowsOf.B8 : List Nat := [0, 0, 2, 6, 0, 16, 48, 0, 254, 510, 1023, 2047]
theorem impl_windowsOf.tab8 : rtab .any (opsOf Try.f90 8) = impl_windowsOf.T8 := by kernel_rfl
theorem impl_windowsOf.bits8 : waitsOk impl_windowsOf.T8.2 impl_windowsOf.B8 = true := by kernel_rfl
set_option maxHeartbeats 8000000 in
set_option maxRecDepth 100000 in
theorem impl_windowsOf.calls (k : Nat) (A0_0 : Option Addr) (c0_0 : Nat) (l0_0 : List (S108)) (A0_1 : Option Addr) (c0_1 : Nat) (l0_1 : List (S92)) (A0_2 : Option Addr) (c0_2 : Nat) (l0_2 : List (S43)) (r : List (List Int)) (w : World) (hr0_0 : Kd.C k108 w A0_0 l0_0.length l0_0) (hc0_0 : l0_0.length ≤ c0_0) (hr0_1 : Kd.C k92 w A0_1 l0_1.length l0_1) (hc0_1 : l0_1.length ≤ c0_1) (hr0_2 : Kd.C k43 w A0_2 l0_2.length l0_2) (hc0_2 : l0_2.length ≤ c0_2) (h : impl_windowsOf.f k l0_0 l0_1 l0_2 = some r) :
  Calls Try.prog 90 #[.agg #[.slice A0_0 l0_0.length c0_0, .slice A0_1 l0_1.length c0_1, .slice A0_2 l0_2.length c0_2]] w fun e w' => ∃ v0_ : Value, e = .returned (v0_) ∧ Kd.S (Kd.slice 2 (Kd.int .i64)) 61 w' w.heap.size (fun _ => True) v0_ r ∧ Below w.heap.size w w' := by
 have hu32 := Try.underlying32
 have hu43 := Try.underlying43
 have HR0_0 := Aside0.mk hr0_0
 have HC0_0 := Aside0.mk hc0_0
 clear hr0_0 hc0_0
 have HR0_1 := Aside0.mk hr0_1
 have HC0_1 := Aside0.mk hc0_1
 clear hr0_1 hc0_1
 have HR0_2 := Aside0.mk hr0_2
 have HC0_2 := Aside0.mk hc0_2
 clear hr0_2 hc0_2
 have HB := Aside0.mk (Below.refl w.heap.size w)
 have H : (impl_windowsOf.l0 k ([] : List (List Int)) l0_2 (l0_2.length : Int) 0 l0_0 l0_1 l0_2) = some r := h
 clear h
 have H' := Aside0.mk H
 clear H
 go_enter Try.func90, Try.ntmps90
 go_wp2_with (first | ((with_reducible refine gate_dst (N := 1) rfl ?_); refine box_event ?hg (N := 1) ?hd (cs := #[.slice A0_0 l0_0.length c0_0, .slice A0_1 l0_1.length c0_1, .slice A0_2 l0_2.length c0_2]) (t := 32) ?hr ?_; (case hd => rfl); (case hg => rfl); (case hr => first | (go_simp; done) | (go_simp; rfl)); intro gb840 hg w2 hbox hb; have n0_ := Aside0.mk (below_step Zc hb); have n1_ := Aside0.mk (hbox); have n2_ := Aside0.mk ((Zd : w.heap.size ≤ gb840)); have n3_ := Aside0.mk ((Zd : w.heap.size ≤ gb840)); clear HB; have HB := n0_; have BK840 := n1_; have GW840 := n2_; have GE840 := n3_; clear n0_ n1_ n2_ n3_; clear hb hbox hg; obtain ⟨hcz3_0, hcz3_1, hcz3_2, hfz3_0, hfz3_1, hfz3_2⟩ := cz3 BK840))
 go_loopg [3, 11] k (fun kq v3 v11 w' => ∃ (x3_1 : List (List Int)) (x11_1 : Int), v11 = .int .i64 x11_1 ∧ Aside0 (impl_windowsOf.l0 kq x3_1 l0_2 (l0_2.length : Int) x11_1 l0_0 l0_1 l0_2 = some r) ∧ Aside0 (kq ≤ k) ∧ Aside0 (Kd.S (Kd.slice 2 (Kd.int .i64)) 61 w' w.heap.size (fun _ => True) v3 x3_1) ∧ Aside0 (w'.heap[gb840]? = some (.cells #[(.slice A0_0 l0_0.length c0_0), (.slice A0_1 l0_1.length c0_1), (.slice A0_2 l0_2.length c0_2)] 32 (0, 0))) ∧ Aside0 (Below w.heap.size w w'))
 case atStart => exact ⟨(([] : List (List Int))), (0), Za, H', ⟨Nat.le_refl _⟩, ⟨by first | exact Kd.S_nil _ _ _ _ _ | exact Kd.N_nil _ _ _ _ _ | exact Kd.V_nil _ _ _ _ _ | exact Kd.Q_nil _ _ _ _ _ | exact Kd.R_nil _ _ _ _ _⟩, ⟨(have z0_ := BK840; Ze)⟩, ⟨(have z0_ := GE840; Zf)⟩⟩
 case round =>
  clear H'
  try clear p2
  try clear hcz3_0
  try clear hcz3_1
  try clear hcz3_2
  try clear hfz3_0
  try clear hfz3_1
  try clear hfz3_2
  obtain ⟨x3_1, x11_1, rfl, HA, HK1, HO_3, BK840, HB⟩ := hrel
  cases gk with
  | zero => exact absurd HA.out (by simp [impl_windowsOf.l0])
  | succ k1 =>
   have H := HA.out
   clear HA
   simp only [impl_windowsOf.l0] at H
   by_cases c4 : x11_1 < (l0_2.length : Int)
   ·rw [if_pos c4] at H
    have c4b0 : decide (x11_1 < (l0_2.length : Int)) = true := decide_eq_true c4
    clear c4
    by_cases c5 : 0 ≤ x11_1
    ·rw [if_pos c5] at H
     have c5b0 : decide (0 ≤ x11_1) = true := decide_eq_true c5
     clear c5
     by_cases c6 : x11_1 < (l0_2.length : Int)
     ·rw [if_pos c6] at H
      have c6b0 : decide (x11_1 < (l0_2.length : Int)) = true := decide_eq_true c6
      clear c6
      replace H := Option.bind_eq_some_iff.mp H
      obtain ⟨t843, A70, H⟩ := H
      replace H : (impl_windowsOf.l1 k1 x3_1 x11_1 l0_2 (l0_2.length : Int) x11_1 t843 (t843.length : Int) 0 l0_0 l0_1 l0_2) = some r := H
      have A7 := Aside0.mk A70
      clear A70
      have H' := Aside0.mk H
      clear H
      have p841 : 0 ≤ (x11_1 : Int) := of_decide_eq_true Zp
      have q841 : x11_1 < (l0_2.length : Int) := of_decide_eq_true Zp
      obtain ⟨ad841, e841, hx841_0, hx841_1, hx841_2, hx841_3⟩ := at_T43 HR0_2.out x11_1 p841 q841
      cases e841
      replace hx841_0 := cbH HB hx841_0
      replace hx841_1 := cbH HB hx841_1
      replace hx841_2 := cbH HB hx841_2
      replace hx841_3 := cbH HB hx841_3
      replace p841 := eq_true p841
      replace q841 := eq_true q841
      go_wp2_with (first | ((with_reducible refine gate_dst (N := 5) rfl ?_); refine box_event ?hg (N := 5) ?hd (cs := #[.int .i64 0, .int .i64 0, .string (⟨#[]⟩ : ByteArray), .int .i64 0]) (t := 43) ?hr ?_; (case hd => rfl); (case hg => rfl); (case hr => first | (go_simp; done) | (go_simp; rfl)); intro gb842 hg w8 hbox hb; have n0_ := Aside0.mk (Kd.S_below (have z0_ := HO_3; Zaw) hb); have n1_ := Aside0.mk (blk_below (g := gb840) (o := .cells #[.slice A0_0 l0_0.length c0_0, .slice A0_1 l0_1.length c0_1, .slice (some ad841) l0_2.length c0_2] 32 (0, 0)) (have z0_ := BK840; Ze) hb); have n2_ := Aside0.mk (below_step (have z0_ := GE840; Zf) hb); have n3_ := Aside0.mk (hbox); have n4_ := Aside0.mk (((have z0_ := GE840; Zg) : w.heap.size ≤ gb842)); have n5_ := Aside0.mk (((have z0_ := GE840; Zg) : w.heap.size ≤ gb842)); have n6_ := Aside0.mk ((by rw [hg]; exact Nat.ne_of_lt (blk_lt (g := gb840) (o := .cells #[.slice A0_0 l0_0.length c0_0, .slice A0_1 l0_1.length c0_1, .slice (some ad841) l0_2.length c0_2] 32 (0, 0)) (have z0_ := BK840; Ze)) : gb840 ≠ gb842)); have n7_ := Aside0.mk ((by rw [hg]; exact Nat.ne_of_gt (blk_lt (g := gb840) (o := .cells #[.slice A0_0 l0_0.length c0_0, .slice A0_1 l0_1.length c0_1, .slice (some ad841) l0_2.length c0_2] 32 (0, 0)) (have z0_ := BK840; Ze)) : gb842 ≠ gb840)); clear HO_3; clear BK840; clear HB; have HO_3 := n0_; have BK840 := n1_; have HB := n2_; have BK842 := n3_; have GW842 := n4_; have GE842 := n5_; have NB840_842 := n6_; have NB842_840 := n7_; clear n0_ n1_ n2_ n3_ n4_ n5_ n6_ n7_; clear hb hbox hg; have hnb9 := NB842_840.out; have hnc9 := NB840_842.out; obtain ⟨hcz10_0, hcz10_1, hcz10_2, hcz10_3, hfz10_0, hfz10_1, hfz10_2, hfz10_3⟩ := cz4 BK842; obtain ⟨hcz11_0, hcz11_1, hcz11_2, hfz11_0, hfz11_1, hfz11_2⟩ := cz3 BK840) | ((with_reducible refine gate_callee (f := 107) rfl ?_); refine goesL_ (some 18) rfl rfl Try.func107 Zj rfl #[.agg #[.slice A0_0 l0_0.length c0_0, .slice A0_1 l0_1.length c0_1, .slice (some ad841) l0_2.length c0_2], .agg #[.int .i64 ((rd_T43 l0_2 x11_1).f0), .int .i64 ((rd_T43 l0_2 x11_1).f1), .string ((rd_T43 l0_2 x11_1).f2), .int .i64 ((rd_T43 l0_2 x11_1).f3)]] rfl Zo ?_; (with_reducible refine (impl_windowsOfCue.calls k1 _ _ l0_0 _ _ l0_1 _ _ l0_2 ((rd_T43 l0_2 x11_1).f0) ((rd_T43 l0_2 x11_1).f1) ((rd_T43 l0_2 x11_1).f2) ((rd_T43 l0_2 x11_1).f3) t843 _ ?side1 ?side2 ?side3 ?side4 ?side5 ?side6 A7.out).mono ?_); (case side1 => exact Kd.C_below HR0_0.out (have z0_ := GE840; have z1_ := GE842; Zh)); (case side2 => exact HC0_0.out); (case side3 => exact Kd.C_below HR0_1.out (have z0_ := GE840; have z1_ := GE842; Zh)); (case side4 => exact HC0_1.out); (case side5 => exact Kd.C_below HR0_2.out (have z0_ := GE840; have z1_ := GE842; Zh)); (case side6 => exact HC0_2.out); rintro e w12 ⟨v844, rfl, ho0, hb⟩; refine ⟨_, rfl, ?_⟩; have n0_ := Aside0.mk (Kd.S_elder' (have z0_ := HO_3; have z1_ := BK842; Zbi) (Kd.S_base ho0) hb); have n1_ := Aside0.mk (Kd.S_lower (Kd.S_new' ho0 (Kd.S_lt (have z0_ := HO_3; have z1_ := BK842; Zbi))) (below_size (have z0_ := GE840; have z1_ := GE842; Zh))); have n2_ := Aside0.mk (blk_below (g := gb840) (o := .cells #[.slice A0_0 l0_0.length c0_0, .slice A0_1 l0_1.length c0_1, .slice (some ad841) l0_2.length c0_2] 32 (0, 0)) (have z0_ := NB840_842; have z1_ := BK840; Zao) hb); have n3_ := Aside0.mk (blk_below (g := gb842) (o := .cells #[.int .i64 ((rd_T43 l0_2 x11_1).f0), .int .i64 ((rd_T43 l0_2 x11_1).f1), .string ((rd_T43 l0_2 x11_1).f2), .int .i64 ((rd_T43 l0_2 x11_1).f3)] 43 (0, 0)) (by (with_reducible repeat (first | refine blk_drewN ?_ _ | refine blk_drew ?_ | refine blk_alloc ?_ _)); refine blk_put (cs := #[.int .i64 ((rd_T43 l0_2 x11_1).f0), .int .i64 ((rd_T43 l0_2 x11_1).f1), .string ((rd_T43 l0_2 x11_1).f2), .int .i64 0]) ?_ 3 _ rfl; (with_reducible repeat (first | refine blk_drewN ?_ _ | refine blk_drew ?_ | refine blk_alloc ?_ _)); refine blk_put (cs := #[.int .i64 ((rd_T43 l0_2 x11_1).f0), .int .i64 ((rd_T43 l0_2 x11_1).f1), .string (⟨#[]⟩ : ByteArray), .int .i64 0]) ?_ 2 _ rfl; (with_reducible repeat (first | refine blk_drewN ?_ _ | refine blk_drew ?_ | refine blk_alloc ?_ _)); refine blk_put (cs := #[.int .i64 ((rd_T43 l0_2 x11_1).f0), .int .i64 0, .string (⟨#[]⟩ : ByteArray), .int .i64 0]) ?_ 1 _ rfl; (with_reducible repeat (first | refine blk_drewN ?_ _ | refine blk_drew ?_ | refine blk_alloc ?_ _)); refine blk_put (cs := #[.int .i64 0, .int .i64 0, .string (⟨#[]⟩ : ByteArray), .int .i64 0]) ?_ 0 _ rfl; (with_reducible repeat (first | refine blk_drewN ?_ _ | refine blk_drew ?_ | refine blk_alloc ?_ _)); exact BK842.out) hb); have n4_ := Aside0.mk (below_step (have z0_ := GE840; have z1_ := GE842; Zh) hb); clear HO_3; clear BK840; clear BK842; clear HB; have HO_3 := n0_; have HO845 := n1_; have BK840 := n2_; have BK842 := n3_; have HB := n4_; clear n0_ n1_ n2_ n3_ n4_; (try clear hb); (try clear hb2); (try clear hk); (try clear hi); (try clear ho0); obtain ⟨Ao13, co13, eo13⟩ := Kd.S_slice HO845.out; subst eo13))
      go_loopg [3, 20] k1 (fun kq v3 v20 w' => ∃ (x3_2 : List (List Int)) (x20_2 : Int), v20 = .int .i64 x20_2 ∧ Aside0 (impl_windowsOf.l1 kq x3_2 x11_1 l0_2 (l0_2.length : Int) x11_1 t843 (t843.length : Int) x20_2 l0_0 l0_1 l0_2 = some r) ∧ Aside0 (kq ≤ k1) ∧ Aside0 (Kd.S (Kd.slice 2 (Kd.int .i64)) 61 w' w.heap.size (fun k_ => some k_ ≠ ((.slice Ao13 t843.length co13) : Value).ownBlock) v3 x3_2) ∧ Aside0 (Kd.S (Kd.slice 2 (Kd.int .i64)) 61 w' w.heap.size (fun k_ => some k_ ≠ (v3 : Value).ownBlock) (.slice Ao13 t843.length co13) t843) ∧ Aside0 (w'.heap[gb840]? = some (.cells #[(.slice A0_0 l0_0.length c0_0), (.slice A0_1 l0_1.length c0_1), (.slice (some ad841) l0_2.length c0_2)] 32 (0, 0))) ∧ Aside0 (w'.heap[gb842]? = some (.cells #[.int .i64 ((rd_T43 l0_2 x11_1).f0), .int .i64 ((rd_T43 l0_2 x11_1).f1), .string ((rd_T43 l0_2 x11_1).f2), .int .i64 ((rd_T43 l0_2 x11_1).f3)] 43 (0, 0))) ∧ Aside0 (Below w.heap.size w w'))
      case atStart => exact ⟨(x3_1), (0), Za, H', ⟨Nat.le_refl _⟩, ⟨by (with_reducible repeat (first | apply Kd.S_alloc | apply Kd.S_drewN | apply Kd.S_drew)); exact Kd.S_mono HO_3.out (fun _ hk => hk.2)⟩, ⟨by (with_reducible repeat (first | apply Kd.S_alloc | apply Kd.S_drewN | apply Kd.S_drew)); exact Kd.S_mono HO845.out (fun _ hk => hk.2)⟩, ⟨(have z0_ := BK840; Ze)⟩, ⟨(have z0_ := BK842; Ze)⟩, ⟨(have z0_ := GE840; have z1_ := GE842; Zh)⟩⟩
      case round =>
       clear H'
       try clear c1
       try clear p2
       try clear c4
       try clear c4b0
       try clear c5
       try clear c5b0
       try clear c6
       try clear c6b0
       try clear p8
       try clear q8
       try clear hx8
       try clear c9
       try clear c10
       try clear hcz10_0
       try clear hcz10_1
       try clear hcz10_2
       try clear hcz10_3
       try clear hcz11_0
       try clear hcz11_1
       try clear hcz11_2
       try clear hcz3_0
       try clear hcz3_1
       try clear hcz3_2
       try clear hfz10_0
       try clear hfz10_1
       try clear hfz10_2
       try clear hfz10_3
       try clear hfz11_0
       try clear hfz11_1
       try clear hfz11_2
       try clear hfz3_0
       try clear hfz3_1
       try clear hfz3_2
       try clear hx841_0
       try clear hx841_1
       try clear hx841_2
       try clear hx841_3
       try clear p2
       try clear p841
       try clear q841
       obtain ⟨x3_2, x20_2, rfl, HA, HK2, HO_3, HO_18, BK840, BK842, HB⟩ := hrel
       cases gk with
       | zero => exact absurd HA.out (by simp [impl_windowsOf.l1])
       | succ k2 =>
        have H := HA.out
        clear HA
        simp only [impl_windowsOf.l1] at H
        by_cases c14 : x20_2 < (t843.length : Int)
        ·rw [if_pos c14] at H
         have c14b0 : decide (x20_2 < (t843.length : Int)) = true := decide_eq_true c14
         clear c14
         by_cases c15 : 0 ≤ x20_2
         ·rw [if_pos c15] at H
          have c15b0 : decide (0 ≤ x20_2) = true := decide_eq_true c15
          clear c15
          by_cases c16 : x20_2 < (t843.length : Int)
          ·rw [if_pos c16] at H
           have c16b0 : decide (x20_2 < (t843.length : Int)) = true := decide_eq_true c16
           clear c16
           by_cases c17 : 0 < ((rd_L9 t843 x20_2).length : Int)
           ·rw [if_pos c17] at H
            have c17b0 : decide (0 < ((rd_L9 t843 x20_2).length : Int)) = true := decide_eq_true c17
            have c17b1 : decide (0 < (rd_L9 t843 x20_2).length) = true := decide_eq_true (by omega)
            clear c17
            by_cases c18 : 1 < ((rd_L9 t843 x20_2).length : Int)
            ·rw [if_pos c18] at H
             have c18b0 : decide (1 < ((rd_L9 t843 x20_2).length : Int)) = true := decide_eq_true c18
             have c18b1 : decide (1 < (rd_L9 t843 x20_2).length) = true := decide_eq_true (by omega)
             clear c18
             obtain ⟨y849, hy849⟩ : ∃ y_ : List Int, y_ = (([rd (rd_L9 t843 x20_2) 0, rd (rd_L9 t843 x20_2) 1, x11_1] : List Int)) := ⟨_, rfl⟩
             replace H : (if x3_2.length < 5864062014805 then (impl_windowsOf.l1 k2 (x3_2 ++ [y849]) x11_1 l0_2 (l0_2.length : Int) x11_1 t843 (t843.length : Int) (wrap64 (x20_2 + 1)) l0_0 l0_1 l0_2) else (none)) = some r := by first | (rw [hy849]; with_reducible exact H) | (have H2_ := (Option.bind_some _ _).symm.trans H; rw [hy849]; with_reducible exact H2_) | (have H2_ := (Option.bind_some _ _).symm.trans H; with_reducible exact H2_) | with_reducible exact H | (rw [hy849]; exact H) | exact H
             have Ny849 := Aside0.mk hy849
             clear hy849
             by_cases c19 : x3_2.length < 5864062014805
             ·rw [if_pos c19] at H
              have LMc19 := Aside0.mk c19
              clear c19
              obtain ⟨y852, hy852⟩ : ∃ y_ : List (List Int), y_ = (x3_2 ++ [y849]) := ⟨_, rfl⟩
              replace H : (impl_windowsOf.l1 k2 y852 x11_1 l0_2 (l0_2.length : Int) x11_1 t843 (t843.length : Int) (wrap64 (x20_2 + 1)) l0_0 l0_1 l0_2) = some r := by first | (rw [hy852]; with_reducible exact H) | (have H2_ := (Option.bind_some _ _).symm.trans H; rw [hy852]; with_reducible exact H2_) | (have H2_ := (Option.bind_some _ _).symm.trans H; with_reducible exact H2_) | with_reducible exact H | (rw [hy852]; exact H) | exact H
              have Ny852 := Aside0.mk hy852
              clear hy852
              have H' := Aside0.mk H
              clear H
              have p846 : 0 ≤ (x20_2 : Int) := of_decide_eq_true Zp
              have q846 : x20_2 < (t843.length : Int) := of_decide_eq_true Zp
              obtain ⟨ad846, A846_0, c846_0, e846, hx846_0, hl846_0, hi846_0⟩ := at_L9 (Kd.S_reads' HO_18.out).2.2 x20_2 p846 q846
              cases e846
              obtain ⟨ce846, hce846, hMe846, hcc846⟩ := Kd.S_get HO_18.out [] x20_2 p846 (by first | exact q846 | exact of_decide_eq_true Zp | (have e_ := (Kd.S_reads' HO_18.out).1; omega))
              obtain ⟨ve846_0, rfl, ge846_0⟩ := hMe846
              have hv846_0 := hcc846 0 _ rfl
              rw [Nat.add_zero, show ((Kd.slice 2 (Kd.int .i64))).sz = 1 from rfl, Nat.mul_one] at hv846_0
              replace hv846_0 := Option.some.inj (hv846_0.symm.trans hx846_0)
              rw [hv846_0] at ge846_0
              have HL846_0 := Aside0.mk (show Kd.R (Kd.int .i64) 2 _ _ _ _ (rd_L9 t843 x20_2) from ge846_0)
              clear hv846_0 ge846_0
              clear hcc846 hce846
              have HR846_0 := Aside0.mk hi846_0
              have HC846_0 := Aside0.mk hl846_0
              clear hi846_0 hl846_0
              replace p846 := eq_true p846
              replace q846 := eq_true q846
              try go_wp2
              have n0_ := Aside0.mk (Kd.S_drew HO_3.out)
              have n1_ := Aside0.mk (Kd.S_drew HO_18.out)
              have n2_ := Aside0.mk (Kd.R_drew HL846_0.out)
              have n3_ := Aside0.mk (blk_drew BK840.out)
              have n4_ := Aside0.mk (blk_drew BK842.out)
              have n5_ := Aside0.mk (Kd.C_drew HR846_0.out)
              have n6_ := Aside0.mk (below_drew1 HB.out)
              clear HO_3
              clear HO_18
              clear HL846_0
              clear BK840
              clear BK842
              clear HR846_0
              clear HB
              have HO_3 := n0_
              have HO_18 := n1_
              have HL846_0 := n2_
              have BK840 := n3_
              have BK842 := n4_
              have HR846_0 := n5_
              have HB := n6_
              clear n0_ n1_ n2_ n3_ n4_ n5_ n6_
              have p847 : 0 ≤ (0 : Int) := (by omega)
              have q847 : 0 < ((rd_L9 t843 x20_2).length : Int) := of_decide_eq_true Zp
              obtain ⟨ad847, e847, hx847_0⟩ := Kd.at_int (have z0_ := HR846_0; Zaz) 0 p847 q847
              cases e847
              have qi847 : (0 < (rd_L9 t843 x20_2).length) = True := eq_true (by omega)
              (try rw [show ((0 : Int)).toNat = 0 from rfl] at hx847_0)
              (try rw [Addr.add_zero'] at hx847_0)
              replace p847 := eq_true p847
              replace q847 := eq_true q847
              have p848 : 0 ≤ (1 : Int) := (by omega)
              have q848 : 1 < ((rd_L9 t843 x20_2).length : Int) := of_decide_eq_true Zp
              obtain ⟨ad848, e848, hx848_0⟩ := Kd.at_int (have z0_ := HR846_0; Zaz) 1 p848 q848
              obtain rfl : ad847 = ad848 := (by injection e848)
              (try simp only [show (1 : Int).toNat = 1 from rfl, Nat.reduceMul, Nat.reduceEqDiff, Go.Addr.add, ↓reduceIte] at hx848_0)
              have qi848 : (1 < (rd_L9 t843 x20_2).length) = True := eq_true (by omega)
              (try rw [show ((1 : Int)).toNat = 1 from rfl] at hx848_0)
              replace p848 := eq_true p848
              replace q848 := eq_true q848
              refine start_ (n := 12) (S := fun w' => w'.cell? ad847 = some (.int .i64 (rd (rd_L9 t843 x20_2) 0)) ∧ w'.cell? ⟨ad847.block, ad847.off + 1, none⟩ = some (.int .i64 (rd (rd_L9 t843 x20_2) 1))) (ds := [9, 10]) (bT 12 0) Zj rfl rfl ⟨hx847_0, hx848_0⟩ (fun hHeld => ?_); refine with_tabW impl_windowsOf.tab8 impl_windowsOf.bits8 (fun HT_ HW_ => ?_)
              generalize wr.drew = w20 at HO_3 HO_18 HL846_0 BK840 BK842 HR846_0 HB hx847_0 hx848_0 hHeld ⊢
              refine pureZ HT_ 0 (some 24) (bT 12 1) ?_
              refine pureZ HT_ 1 (some 25) (bT 12 2) ?_
              refine pureZ HT_ 2 (some 26) (bT 12 3) ?_
              refine pureZ HT_ 4 (some 28) #[true, true, true, false, true, false, false, false, false, false, false, false] ?_
              refine pureZ HT_ 5 (some 29) #[true, true, true, false, true, true, false, false, false, false, false, false] ?_
              refine pureZ HT_ 7 (some 31) #[true, true, true, false, true, true, false, true, false, false, false, false] ?_
              refine take_ (i := 3) (N := some 27) (v := ?_) (a' := ?_) #[true, true, true, true, true, true, false, true, false, false, false, false] rfl rfl (take_ofW HT_.out HW_.out Zj) (fun _ _ _ h => h) (Or.inl ⟨by rfl, ?_⟩) hHeld ?_ ?_
              rotate_left
              ·rintro w' ⟨s0, s1⟩
               go_simp
               with_reducible rfl
              rotate_left
              ·exact Zput
              refine take_ (i := 6) (N := some 30) (v := ?_) (a' := ?_) (bT 12 8) rfl rfl (take_ofW HT_.out HW_.out Zj) (fun _ _ _ h => h) (Or.inl ⟨by rfl, ?_⟩) hHeld ?_ ?_
              rotate_left
              ·rintro w' ⟨s0, s1⟩
               go_simp
               with_reducible rfl
              rotate_left
              ·exact Zput
              refine one_ (i := 8) (N := some 32) (bT 12 9) rfl rfl (one_of HT_.out Zj) (by decide) (fun K hK => ?_)
              refine Kd.R_lit_step (Kd.int .i64) _ 2 ?hg (N := 32) ?hd (xs := ([rd (rd_L9 t843 x20_2) 0, rd (rd_L9 t843 x20_2) 1, x11_1] : List Int)) (inner := [.int .i64 (rd (rd_L9 t843 x20_2) 0), .int .i64 (rd (rd_L9 t843 x20_2) 1), .int .i64 x11_1]) (ok := fun _ => True) (okp := fun _ => True) ?hr ?hp (fun _ hk => hk) trivial (Below.refl _ _) (Nat.le_refl _) (by simp) ?_; (case hd => rfl); (case hg => rfl); (case hr => first | (go_simp; done) | (go_simp; rfl)); (case hp => exact (Reps.one (show Kd.M (Kd.int .i64) _ _ _ (rd (rd_L9 t843 x20_2) 0) [.int .i64 (rd (rd_L9 t843 x20_2) 0)] from rfl) (Reps.one (show Kd.M (Kd.int .i64) _ _ _ (rd (rd_L9 t843 x20_2) 1) [.int .i64 (rd (rd_L9 t843 x20_2) 1)] from rfl) (Reps.one (show Kd.M (Kd.int .i64) _ _ _ x11_1 [.int .i64 x11_1] from rfl) (Reps.none _ _)))))
              intro v850 w21 ho22 hb hg_ hnew_
              have HS0_ := (hb.cell (World.block_lt_of_cell? _ _ (hHeld.1))).trans (hHeld.1)
              have HS1_ := (hb.cell (World.block_lt_of_cell? _ _ (hHeld.2))).trans (hHeld.2)
              clear hg_ hnew_
              (first | rw [← Ny849.out] at ho22 | (simp only [Int.reduceToNat] at ho22; rw [← Ny849.out] at ho22))
              have n0_ := Aside0.mk (Kd.S_elder' (have z0_ := HO_3; Zaw) (Kd.R_base ho22) hb)
              have n1_ := Aside0.mk (Kd.S_elder' (have z0_ := HO_18; Zaw) (Kd.R_base ho22) hb)
              have n2_ := Aside0.mk (Kd.R_elder' (have z0_ := HL846_0; Zq) (Kd.R_base ho22) hb)
              have n3_ := Aside0.mk (Kd.R_lower (Kd.R_new' ho22 (Kd.R_lt (have z0_ := HL846_0; Zq))) (below_size (have z0_ := GE840; have z1_ := GE842; Zh)))
              have n4_ := Aside0.mk (blk_below (g := gb840) (o := .cells #[.slice A0_0 l0_0.length c0_0, .slice A0_1 l0_1.length c0_1, .slice (some ad841) l0_2.length c0_2] 32 (0, 0)) (have z0_ := BK840; Ze) hb)
              have n5_ := Aside0.mk (blk_below (g := gb842) (o := .cells #[.int .i64 ((rd_T43 l0_2 x11_1).f0), .int .i64 ((rd_T43 l0_2 x11_1).f1), .string ((rd_T43 l0_2 x11_1).f2), .int .i64 ((rd_T43 l0_2 x11_1).f3)] 43 (0, 0)) (have z0_ := BK842; Ze) hb)
              have n6_ := Aside0.mk (Kd.C_below (have z0_ := HR846_0; Zaz) hb)
              have n7_ := Aside0.mk (below_step (have z0_ := GE840; have z1_ := GE842; Zh) hb)
              clear HO_3
              clear HO_18
              clear HL846_0
              clear BK840
              clear BK842
              clear HR846_0
              clear HB
              have HO_3 := n0_
              have HO_18 := n1_
              have HL846_0 := n2_
              have HO851 := n3_
              have BK840 := n4_
              have BK842 := n5_
              have HR846_0 := n6_
              have HB := n7_
              clear n0_ n1_ n2_ n3_ n4_ n5_ n6_ n7_
              clear hb ho22
              obtain ⟨Ao24, co24, eo24⟩ := Kd.R_slice HO851.out
              (first | subst eo24 | (injection eo24 with f1_ f2_ f3_; have f4_ := f1_.symm; have f5_ := f3_.symm; clear f1_ f2_ f3_; subst f4_; subst f5_))
              refine hK.out _ _ ⟨HS0_, HS1_⟩ (fun hHeld => ?_)
              clear hK K
              refine norm_ (a' := ?_) ?_ ?_
              rotate_left
              ·show Act.put _ (some 32) _ = _
               simp only [Act.put, List.setIfInBounds_toArray, List.set_cons_zero, List.set_cons_succ, i64_w, i32_w]
               rfl
              refine last_ (i := 9) (N := some 33) (bT 12 10) rfl rfl (one_of HT_.out Zj) (by decide) (fun K hK => ?_)
              refine value_ (w1 := ?_) (v := ?_) (by rfl) rfl ?_ ?_
              rotate_left 2
              ·go_simp
               constructor
               ·rfl
               ·rfl
              refine hK.out _ _ ?_
              clear hK K
              refine norm_ (a' := ?_) ?_ ?_
              rotate_left
              ·show Act.put _ (some 33) _ = _
               simp only [Act.put, List.setIfInBounds_toArray, List.set_cons_zero, List.set_cons_succ, i64_w, i32_w]
               rfl
              refine last_ (i := 10) (N := some 34) (bT 12 11) rfl rfl (one_of HT_.out Zj) (by decide) (fun K hK => ?_)
              refine Kd.S_append_step (Kd.slice 2 (Kd.int .i64)) (w0 := w) w.heap.size (by rfl) (.tmp 24) (.tmp 33) 46 61 (.slice none 0 0) 24 rfl Try.underlying46 info61 rfl (by decide) (by omega) u3 x3_2 y849 [.slice Ao24 y849.length co24] (fun k_ => some k_ ≠ (.slice (some ad846) t843.length co13 : Value).ownBlock) (fun k_ => some k_ = (.slice Ao24 y849.length co24 : Value).ownBlock) rfl rfl ?aP (fun k_ hk_ => ((Kd.R_mono (ok' := fun k_ => ((fun k_ => some k_ ≠ (.slice (some ad846) t843.length co13 : Value).ownBlock)) k_ ∧ some k_ ≠ (u3 : Value).ownBlock) (Kd.R_apart' (Kd.R_apart' (HO851.out) (Kd.S_typed HO_18.out) (by decide)) (Kd.S_typed HO_3.out) (by decide)) (fun k_ hk => ⟨hk.1.2, hk.2⟩))).1 k_ hk_.symm) ?aF ?aO ?aB ?aS ?aL ?_
              (case aP => exact Kd.M_row (Kd.R_mono (Kd.R_tight rfl (Kd.R_mono (ok' := fun k_ => ((fun k_ => some k_ ≠ (.slice (some ad846) t843.length co13 : Value).ownBlock)) k_ ∧ some k_ ≠ (u3 : Value).ownBlock) (Kd.R_apart' (Kd.R_apart' (HO851.out) (Kd.S_typed HO_18.out) (by decide)) (Kd.S_typed HO_3.out) (by decide)) (fun k_ hk => ⟨hk.1.2, hk.2⟩))) (fun _ h_ => h_)))
              (case aB => exact (have z0_ := GE840; have z1_ := GE842; Zh))
              (case aF => exact (fun k_ hk => Kd.fresh' (Kd.S_lt (have z0_ := HO_18; Zaw)) k_ hk))
              (case aO => exact (by (with_reducible repeat (first | apply Kd.S_alloc | apply Kd.S_drewN | apply Kd.S_drew)); exact Kd.S_mono HO_3.out (fun k_ hk => ⟨hk.1, fun e_ => hk.2 e_⟩)))
              (case aS => exact (below_size (have z0_ := GE840; have z1_ := GE842; Zh)))
              (case aL => have := LMc19.out; omega)
              intro v853 w23 ho hb hg hat
              rw [← Ny852.out] at ho
              have n0_ := Aside0.mk (Kd.S_after (ok := (fun k_ => some k_ ≠ (.slice Ao24 y849.length co24 : Value).ownBlock)) (by (with_reducible repeat (first | apply Kd.S_alloc | apply Kd.S_drewN | apply Kd.S_drew)); exact Kd.S_mono HO_18.out (fun _ hk => ⟨hk.2, hk.1⟩)) hg hat)
              have n1_ := Aside0.mk (blk_grown (g := gb840) (o := .cells #[.slice A0_0 l0_0.length c0_0, .slice A0_1 l0_1.length c0_1, .slice (some ad841) l0_2.length c0_2] 32 (0, 0)) (have z0_ := BK840; Ze) hg (Kd.S_ne HO_3.out BK840.out (by decide)))
              have n2_ := Aside0.mk (blk_grown (g := gb842) (o := .cells #[.int .i64 ((rd_T43 l0_2 x11_1).f0), .int .i64 ((rd_T43 l0_2 x11_1).f1), .string ((rd_T43 l0_2 x11_1).f2), .int .i64 ((rd_T43 l0_2 x11_1).f3)] 43 (0, 0)) (have z0_ := BK842; Ze) hg (Kd.S_ne HO_3.out BK842.out (by decide)))
              have n3_ := Aside0.mk (Kd.R_after (ok := (fun k_ => some k_ ≠ (.slice (some ad846) t843.length co13 : Value).ownBlock ∧ some k_ ≠ (.slice Ao24 y849.length co24 : Value).ownBlock)) (by (with_reducible repeat (first | apply Kd.R_alloc | apply Kd.R_drewN | apply Kd.R_drew)); exact Kd.R_mono HL846_0.out (fun _ hk => ⟨⟨hk.1.2, hk.2⟩, hk.1.1⟩)) hg hat)
              have n4_ := Aside0.mk (hb)
              have n5_ := Aside0.mk (ho)
              clear HO_18
              clear BK840
              clear BK842
              clear HL846_0
              clear HB
              clear HO_3
              clear HO851
              have HO_18 := n0_
              have BK840 := n1_
              have BK842 := n2_
              have HL846_0 := n3_
              have HB := n4_
              have HO854 := n5_
              clear n0_ n1_ n2_ n3_ n4_ n5_
              clear ho hb hg hat
              refine hK.out _ _ ?_
              clear hK K
              refine norm_ (a' := ?_) ?_ ?_
              rotate_left
              ·show Act.put _ (some 34) _ = _
               simp only [Act.put, List.setIfInBounds_toArray, List.set_cons_zero, List.set_cons_succ, i64_w, i32_w]
               rfl
              refine pureZ HT_ 11 (some 3) (bT 12 12) ?_
              refine done_ (done_of HT_.out Zj) ?_
              try go_wp2
              go_roundg k2
              case measure => have := HK1.out; have := HK2.out; omega
              case rel => exact ⟨(y852), (wrap64 (x20_2 + 1)), Za, H', ⟨Zbj⟩, ⟨(have z0_ := HO854; Zaw)⟩, ⟨by (with_reducible repeat (first | apply Kd.S_alloc | apply Kd.S_drewN | apply Kd.S_drew)); exact Kd.S_mono HO_18.out (fun _ hk => hk.2)⟩, ⟨(have z0_ := BK840; Ze)⟩, ⟨(have z0_ := BK842; Ze)⟩, ⟨(have z0_ := GE840; have z1_ := GE842; Zh)⟩⟩
             ·rw [if_neg c19] at H
              exact absurd H (by simp)
            ·rw [if_neg c18] at H
             exact absurd H (by simp)
           ·rw [if_neg c17] at H
            exact absurd H (by simp)
          ·rw [if_neg c16] at H
           exact absurd H (by simp)
         ·rw [if_neg c15] at H
          exact absurd H (by simp)
        ·rw [if_neg c14] at H
         have c14b0 : decide (x20_2 < (t843.length : Int)) = false := decide_eq_false c14
         clear c14
         have H' := Aside0.mk H
         clear H
         go_wp2
         go_roundg k2
         case measure => have := HK1.out; have := HK2.out; omega
         case rel => exact ⟨(x3_2), (wrap64 (x11_1 + 1)), Za, H', ⟨Zbj⟩, ⟨by (with_reducible repeat (first | apply Kd.S_alloc | apply Kd.S_drewN | apply Kd.S_drew)); exact Kd.S_mono HO_3.out (fun _ hk => trivial)⟩, ⟨(have z0_ := BK840; Ze)⟩, ⟨(have z0_ := GE840; have z1_ := GE842; Zh)⟩⟩
     ·rw [if_neg c6] at H
      exact absurd H (by simp)
    ·rw [if_neg c5] at H
     exact absurd H (by simp)
   ·rw [if_neg c4] at H
    have c4b0 : decide (x11_1 < (l0_2.length : Int)) = false := decide_eq_false c4
    clear c4
    obtain rfl := Option.some.inj H
    go_wp2
    go_ret
    exact ⟨_, Zk, (have z0_ := HO_3; Zaw), (have z0_ := GE840; Zf)⟩
end Go.Proofs.Ytnlbaflbhicooaa.F
namespace Go.Proofs.Ytnlbaflbhicooaa.F
open Go.RowKit Go.Proofs.YtnlbaflbhicooaaW.PrintWords Go.Proofs.YtnlbaflbhicooaaW.PrintLast Go.Proofs.YtnlbaflbhicooaaW.PrintMore
attribute [local go_sem] max2_int min2_int max_two min_two max_three min_three max_four min_four   -- for this text's walks alone
set_option linter.unusedVariables false
set_option linter.unusedSimpArgs false
mutual
def impl_MostAtOnce.l0 : Nat → List (List Int) → Int → Int → List (List Int) → Int → Int → Option (Int × Int × Int)
 | 0, _, _, _, _, _, _ => none
 | k + 1, x5, x6, x7, x19, x20, x21 => if x21 < x20 then (if 0 ≤ x21 then (if x21 < (x19.length : Int) then (if 0 < ((rd_L9 x19 x21).length : Int) then (impl_MostAtOnce.l1 k x5 x6 x7 (rd (rd_L9 x19 x21) 0) 0 x19 x20 x21 x5 (x5.length : Int) 0) else (none)) else (none)) else (none)) else (some (x6, x7, 0))
def impl_MostAtOnce.l1 : Nat → List (List Int) → Int → Int → Int → Int → List (List Int) → Int → Int → List (List Int) → Int → Int → Option (Int × Int × Int)
 | 0, _, _, _, _, _, _, _, _, _, _, _ => none
 | k + 1, x5, x6, x7, x10, x11, x19, x20, x21, x28, x29, x30 => if x30 < x29 then (if 0 ≤ x30 then (if x30 < (x28.length : Int) then (if 0 < ((rd_L9 x28 x30).length : Int) then (if 1 < ((rd_L9 x28 x30).length : Int) then ((impl_within.f x10 (rd (rd_L9 x28 x30) 0) (rd (rd_L9 x28 x30) 1)).bind fun t1329 => (if t1329 = true then (impl_MostAtOnce.l1 k x5 x6 x7 x10 (wrap64 (x11 + 1)) x19 x20 x21 x28 x29 (wrap64 (x30 + 1))) else (impl_MostAtOnce.l1 k x5 x6 x7 x10 x11 x19 x20 x21 x28 x29 (wrap64 (x30 + 1))))) else (none)) else (none)) else (none)) else (none)) else (if x11 > x7 then (impl_MostAtOnce.l0 k x5 x10 x11 x19 x20 (wrap64 (x21 + 1))) else (if x11 = x7 then (if x10 < x6 then (impl_MostAtOnce.l0 k x5 x10 x11 x19 x20 (wrap64 (x21 + 1))) else (impl_MostAtOnce.l0 k x5 x6 x7 x19 x20 (wrap64 (x21 + 1)))) else (impl_MostAtOnce.l0 k x5 x6 x7 x19 x20 (wrap64 (x21 + 1)))))
end
def impl_MostAtOnce.f (k : Nat) (l0_0 : List (S108)) (l0_1 : List (S92)) (l0_2 : List (S43)) : Option (Int × Int × Int) := (impl_IsShow.f k l0_0 l0_1 l0_2).bind fun t1320 => (if t1320 = true then ((impl_windowsOf.f k l0_0 l0_1 l0_2).bind fun t1321 => (impl_MostAtOnce.l0 k t1321 0 0 t1321 (t1321.length : Int) 0)) else (some (0, 0, 1)))
set_option maxHeartbeats 8000000 in
set_option maxRecDepth 100000 in
theorem impl_MostAtOnce.calls (k : Nat) (A0_0 : Option Addr) (c0_0 : Nat) (l0_0 : List (S108)) (A0_1 : Option Addr) (c0_1 : Nat) (l0_1 : List (S92)) (A0_2 : Option Addr) (c0_2 : Nat) (l0_2 : List (S43)) (r1 : Int) (r2 : Int) (r3 : Int) (w : World) (hr0_0 : Kd.C k108 w A0_0 l0_0.length l0_0) (hc0_0 : l0_0.length ≤ c0_0) (hr0_1 : Kd.C k92 w A0_1 l0_1.length l0_1) (hc0_1 : l0_1.length ≤ c0_1) (hr0_2 : Kd.C k43 w A0_2 l0_2.length l0_2) (hc0_2 : l0_2.length ≤ c0_2) (h : impl_MostAtOnce.f k l0_0 l0_1 l0_2 = some (r1, r2, r3)) :
  Calls Try.prog 47 #[.agg #[.slice A0_0 l0_0.length c0_0, .slice A0_1 l0_1.length c0_1, .slice A0_2 l0_2.length c0_2]] w fun e w' => e = .returned (.tuple #[.int .i64 r1, .int .i64 r2, .int .i64 r3]) ∧ Below w.heap.size w w' := by
 have hu32 := Try.underlying32
 have HR0_0 := Aside0.mk hr0_0
 have HC0_0 := Aside0.mk hc0_0
 clear hr0_0 hc0_0
 have HR0_1 := Aside0.mk hr0_1
 have HC0_1 := Aside0.mk hc0_1
 clear hr0_1 hc0_1
 have HR0_2 := Aside0.mk hr0_2
 have HC0_2 := Aside0.mk hc0_2
 clear hr0_2 hc0_2
 have HB := Aside0.mk (Below.refl w.heap.size w)
 have H : ((impl_IsShow.f k l0_0 l0_1 l0_2).bind fun t1320 => (if t1320 = true then ((impl_windowsOf.f k l0_0 l0_1 l0_2).bind fun t1321 => (impl_MostAtOnce.l0 k t1321 0 0 t1321 (t1321.length : Int) 0)) else (some (0, 0, 1)))) = some (r1, r2, r3) := h
 clear h
 replace H := Option.bind_eq_some_iff.mp H
 obtain ⟨t1320, A20, H⟩ := H
 replace H : (if t1320 = true then ((impl_windowsOf.f k l0_0 l0_1 l0_2).bind fun t1321 => (impl_MostAtOnce.l0 k t1321 0 0 t1321 (t1321.length : Int) 0)) else (some (0, 0, 1))) = some (r1, r2, r3) := H
 have A2 := Aside0.mk A20
 clear A20
 by_cases c3 : t1320 = true
 ·subst c3
  have H1 : ((impl_windowsOf.f k l0_0 l0_1 l0_2).bind fun t1321 => (impl_MostAtOnce.l0 k t1321 0 0 t1321 (t1321.length : Int) 0)) = some (r1, r2, r3) := by rw [if_pos rfl] at H; exact H
  clear H
  have H := H1
  clear H1
  replace H := Option.bind_eq_some_iff.mp H
  obtain ⟨t1321, A40, H⟩ := H
  replace H : (impl_MostAtOnce.l0 k t1321 0 0 t1321 (t1321.length : Int) 0) = some (r1, r2, r3) := H
  have A4 := Aside0.mk A40
  clear A40
  have H' := Aside0.mk H
  clear H
  go_enter Try.func47, Try.ntmps47
  go_wp2_with (first | ((with_reducible refine gate_dst (N := 1) rfl ?_); refine box_event ?hg (N := 1) ?hd (cs := #[.slice A0_0 l0_0.length c0_0, .slice A0_1 l0_1.length c0_1, .slice A0_2 l0_2.length c0_2]) (t := 32) ?hr ?_; (case hd => rfl); (case hg => rfl); (case hr => first | (go_simp; done) | (go_simp; rfl)); intro gb1319 hg w5 hbox hb; have n0_ := Aside0.mk (below_step Zc hb); have n1_ := Aside0.mk (hbox); have n2_ := Aside0.mk ((Zd : w.heap.size ≤ gb1319)); have n3_ := Aside0.mk ((Zd : w.heap.size ≤ gb1319)); clear HB; have HB := n0_; have BK1319 := n1_; have GW1319 := n2_; have GE1319 := n3_; clear n0_ n1_ n2_ n3_; clear hb hbox hg; obtain ⟨hcz6_0, hcz6_1, hcz6_2, hfz6_0, hfz6_1, hfz6_2⟩ := cz3 BK1319) | (go_at_call 37; (with_reducible refine (impl_IsShow.calls k _ _ l0_0 _ _ l0_1 _ _ l0_2 true _ ?side1 ?side2 ?side3 ?side4 ?side5 ?side6 A2.out).mono ?_); (case side1 => repeat (first | exact (Kd.C_below HR0_0.out HB.out) | (with_reducible refine Kd.C_alloc ?_ _) | (with_reducible refine Kd.C_drewN ?_ _) | (with_reducible refine Kd.C_drew ?_))); (case side2 => exact HC0_0.out); (case side3 => repeat (first | exact (Kd.C_below HR0_1.out HB.out) | (with_reducible refine Kd.C_alloc ?_ _) | (with_reducible refine Kd.C_drewN ?_ _) | (with_reducible refine Kd.C_drew ?_))); (case side4 => exact HC0_1.out); (case side5 => repeat (first | exact (Kd.C_below HR0_2.out HB.out) | (with_reducible refine Kd.C_alloc ?_ _) | (with_reducible refine Kd.C_drewN ?_ _) | (with_reducible refine Kd.C_drew ?_))); (case side6 => exact HC0_2.out); rintro e w7 ⟨rfl, hb⟩; have n0_ := Aside0.mk (blk_below (g := gb1319) (o := .cells #[.slice A0_0 l0_0.length c0_0, .slice A0_1 l0_1.length c0_1, .slice A0_2 l0_2.length c0_2] 32 (0, 0)) (have z0_ := BK1319; Ze) hb); have n1_ := Aside0.mk (below_step (have z0_ := GE1319; Zf) hb); clear BK1319; clear HB; have BK1319 := n0_; have HB := n1_; clear n0_ n1_; (try clear hb); (try clear hb2); (try clear hk); (try clear hi); obtain ⟨hcz8_0, hcz8_1, hcz8_2, hfz8_0, hfz8_1, hfz8_2⟩ := cz3 BK1319) | (go_at_call 90; (with_reducible refine (impl_windowsOf.calls k _ _ l0_0 _ _ l0_1 _ _ l0_2 t1321 _ ?side1 ?side2 ?side3 ?side4 ?side5 ?side6 A4.out).mono ?_); (case side1 => repeat (first | exact (Kd.C_below HR0_0.out HB.out) | (with_reducible refine Kd.C_alloc ?_ _) | (with_reducible refine Kd.C_drewN ?_ _) | (with_reducible refine Kd.C_drew ?_))); (case side2 => exact HC0_0.out); (case side3 => repeat (first | exact (Kd.C_below HR0_1.out HB.out) | (with_reducible refine Kd.C_alloc ?_ _) | (with_reducible refine Kd.C_drewN ?_ _) | (with_reducible refine Kd.C_drew ?_))); (case side4 => exact HC0_1.out); (case side5 => repeat (first | exact (Kd.C_below HR0_2.out HB.out) | (with_reducible refine Kd.C_alloc ?_ _) | (with_reducible refine Kd.C_drewN ?_ _) | (with_reducible refine Kd.C_drew ?_))); (case side6 => exact HC0_2.out); rintro e w9 ⟨v1322, rfl, ho0, hb⟩; have n0_ := Aside0.mk (Kd.S_lower ho0 (below_size (have z0_ := GE1319; Zf))); have n1_ := Aside0.mk (blk_below (g := gb1319) (o := .cells #[.slice A0_0 l0_0.length c0_0, .slice A0_1 l0_1.length c0_1, .slice A0_2 l0_2.length c0_2] 32 (0, 0)) (have z0_ := BK1319; Ze) hb); have n2_ := Aside0.mk (below_step (have z0_ := GE1319; Zf) hb); clear BK1319; clear HB; have HO1323 := n0_; have BK1319 := n1_; have HB := n2_; clear n0_ n1_ n2_; (try clear hb); (try clear hb2); (try clear hk); (try clear hi); (try clear ho0); obtain ⟨Ao10, co10, eo10⟩ := Kd.S_slice HO1323.out; subst eo10))
  repeat (go_quiet (first | ((with_reducible refine gate_dst (N := 1) rfl ?_); refine box_event ?hg (N := 1) ?hd (cs := #[.slice A0_0 l0_0.length c0_0, .slice A0_1 l0_1.length c0_1, .slice A0_2 l0_2.length c0_2]) (t := 32) ?hr ?_; (case hd => rfl); (case hg => rfl); (case hr => first | (go_simp; done) | (go_simp; rfl)); intro gb1319 hg w5 hbox hb; have n0_ := Aside0.mk (below_step Zc hb); have n1_ := Aside0.mk (hbox); have n2_ := Aside0.mk ((Zd : w.heap.size ≤ gb1319)); have n3_ := Aside0.mk ((Zd : w.heap.size ≤ gb1319)); clear HB; have HB := n0_; have BK1319 := n1_; have GW1319 := n2_; have GE1319 := n3_; clear n0_ n1_ n2_ n3_; clear hb hbox hg; obtain ⟨hcz6_0, hcz6_1, hcz6_2, hfz6_0, hfz6_1, hfz6_2⟩ := cz3 BK1319) | (go_at_call 37; (with_reducible refine (impl_IsShow.calls k _ _ l0_0 _ _ l0_1 _ _ l0_2 true _ ?side1 ?side2 ?side3 ?side4 ?side5 ?side6 A2.out).mono ?_); (case side1 => repeat (first | exact (Kd.C_below HR0_0.out HB.out) | (with_reducible refine Kd.C_alloc ?_ _) | (with_reducible refine Kd.C_drewN ?_ _) | (with_reducible refine Kd.C_drew ?_))); (case side2 => exact HC0_0.out); (case side3 => repeat (first | exact (Kd.C_below HR0_1.out HB.out) | (with_reducible refine Kd.C_alloc ?_ _) | (with_reducible refine Kd.C_drewN ?_ _) | (with_reducible refine Kd.C_drew ?_))); (case side4 => exact HC0_1.out); (case side5 => repeat (first | exact (Kd.C_below HR0_2.out HB.out) | (with_reducible refine Kd.C_alloc ?_ _) | (with_reducible refine Kd.C_drewN ?_ _) | (with_reducible refine Kd.C_drew ?_))); (case side6 => exact HC0_2.out); rintro e w7 ⟨rfl, hb⟩; have n0_ := Aside0.mk (blk_below (g := gb1319) (o := .cells #[.slice A0_0 l0_0.length c0_0, .slice A0_1 l0_1.length c0_1, .slice A0_2 l0_2.length c0_2] 32 (0, 0)) (have z0_ := BK1319; Ze) hb); have n1_ := Aside0.mk (below_step (have z0_ := GE1319; Zf) hb); clear BK1319; clear HB; have BK1319 := n0_; have HB := n1_; clear n0_ n1_; (try clear hb); (try clear hb2); (try clear hk); (try clear hi); obtain ⟨hcz8_0, hcz8_1, hcz8_2, hfz8_0, hfz8_1, hfz8_2⟩ := cz3 BK1319) | (go_at_call 90; (with_reducible refine (impl_windowsOf.calls k _ _ l0_0 _ _ l0_1 _ _ l0_2 t1321 _ ?side1 ?side2 ?side3 ?side4 ?side5 ?side6 A4.out).mono ?_); (case side1 => repeat (first | exact (Kd.C_below HR0_0.out HB.out) | (with_reducible refine Kd.C_alloc ?_ _) | (with_reducible refine Kd.C_drewN ?_ _) | (with_reducible refine Kd.C_drew ?_))); (case side2 => exact HC0_0.out); (case side3 => repeat (first | exact (Kd.C_below HR0_1.out HB.out) | (with_reducible refine Kd.C_alloc ?_ _) | (with_reducible refine Kd.C_drewN ?_ _) | (with_reducible refine Kd.C_drew ?_))); (case side4 => exact HC0_1.out); (case side5 => repeat (first | exact (Kd.C_below HR0_2.out HB.out) | (with_reducible refine Kd.C_alloc ?_ _) | (with_reducible refine Kd.C_drewN ?_ _) | (with_reducible refine Kd.C_drew ?_))); (case side6 => exact HC0_2.out); rintro e w9 ⟨v1322, rfl, ho0, hb⟩; have n0_ := Aside0.mk (Kd.S_lower ho0 (below_size (have z0_ := GE1319; Zf))); have n1_ := Aside0.mk (blk_below (g := gb1319) (o := .cells #[.slice A0_0 l0_0.length c0_0, .slice A0_1 l0_1.length c0_1, .slice A0_2 l0_2.length c0_2] 32 (0, 0)) (have z0_ := BK1319; Ze) hb); have n2_ := Aside0.mk (below_step (have z0_ := GE1319; Zf) hb); clear BK1319; clear HB; have HO1323 := n0_; have BK1319 := n1_; have HB := n2_; clear n0_ n1_ n2_; (try clear hb); (try clear hb2); (try clear hk); (try clear hi); (try clear ho0); obtain ⟨Ao10, co10, eo10⟩ := Kd.S_slice HO1323.out; subst eo10)); try go_wp2_with (first | ((with_reducible refine gate_dst (N := 1) rfl ?_); refine box_event ?hg (N := 1) ?hd (cs := #[.slice A0_0 l0_0.length c0_0, .slice A0_1 l0_1.length c0_1, .slice A0_2 l0_2.length c0_2]) (t := 32) ?hr ?_; (case hd => rfl); (case hg => rfl); (case hr => first | (go_simp; done) | (go_simp; rfl)); intro gb1319 hg w5 hbox hb; have n0_ := Aside0.mk (below_step Zc hb); have n1_ := Aside0.mk (hbox); have n2_ := Aside0.mk ((Zd : w.heap.size ≤ gb1319)); have n3_ := Aside0.mk ((Zd : w.heap.size ≤ gb1319)); clear HB; have HB := n0_; have BK1319 := n1_; have GW1319 := n2_; have GE1319 := n3_; clear n0_ n1_ n2_ n3_; clear hb hbox hg; obtain ⟨hcz6_0, hcz6_1, hcz6_2, hfz6_0, hfz6_1, hfz6_2⟩ := cz3 BK1319) | (go_at_call 37; (with_reducible refine (impl_IsShow.calls k _ _ l0_0 _ _ l0_1 _ _ l0_2 true _ ?side1 ?side2 ?side3 ?side4 ?side5 ?side6 A2.out).mono ?_); (case side1 => repeat (first | exact (Kd.C_below HR0_0.out HB.out) | (with_reducible refine Kd.C_alloc ?_ _) | (with_reducible refine Kd.C_drewN ?_ _) | (with_reducible refine Kd.C_drew ?_))); (case side2 => exact HC0_0.out); (case side3 => repeat (first | exact (Kd.C_below HR0_1.out HB.out) | (with_reducible refine Kd.C_alloc ?_ _) | (with_reducible refine Kd.C_drewN ?_ _) | (with_reducible refine Kd.C_drew ?_))); (case side4 => exact HC0_1.out); (case side5 => repeat (first | exact (Kd.C_below HR0_2.out HB.out) | (with_reducible refine Kd.C_alloc ?_ _) | (with_reducible refine Kd.C_drewN ?_ _) | (with_reducible refine Kd.C_drew ?_))); (case side6 => exact HC0_2.out); rintro e w7 ⟨rfl, hb⟩; have n0_ := Aside0.mk (blk_below (g := gb1319) (o := .cells #[.slice A0_0 l0_0.length c0_0, .slice A0_1 l0_1.length c0_1, .slice A0_2 l0_2.length c0_2] 32 (0, 0)) (have z0_ := BK1319; Ze) hb); have n1_ := Aside0.mk (below_step (have z0_ := GE1319; Zf) hb); clear BK1319; clear HB; have BK1319 := n0_; have HB := n1_; clear n0_ n1_; (try clear hb); (try clear hb2); (try clear hk); (try clear hi); obtain ⟨hcz8_0, hcz8_1, hcz8_2, hfz8_0, hfz8_1, hfz8_2⟩ := cz3 BK1319) | (go_at_call 90; (with_reducible refine (impl_windowsOf.calls k _ _ l0_0 _ _ l0_1 _ _ l0_2 t1321 _ ?side1 ?side2 ?side3 ?side4 ?side5 ?side6 A4.out).mono ?_); (case side1 => repeat (first | exact (Kd.C_below HR0_0.out HB.out) | (with_reducible refine Kd.C_alloc ?_ _) | (with_reducible refine Kd.C_drewN ?_ _) | (with_reducible refine Kd.C_drew ?_))); (case side2 => exact HC0_0.out); (case side3 => repeat (first | exact (Kd.C_below HR0_1.out HB.out) | (with_reducible refine Kd.C_alloc ?_ _) | (with_reducible refine Kd.C_drewN ?_ _) | (with_reducible refine Kd.C_drew ?_))); (case side4 => exact HC0_1.out); (case side5 => repeat (first | exact (Kd.C_below HR0_2.out HB.out) | (with_reducible refine Kd.C_alloc ?_ _) | (with_reducible refine Kd.C_drewN ?_ _) | (with_reducible refine Kd.C_drew ?_))); (case side6 => exact HC0_2.out); rintro e w9 ⟨v1322, rfl, ho0, hb⟩; have n0_ := Aside0.mk (Kd.S_lower ho0 (below_size (have z0_ := GE1319; Zf))); have n1_ := Aside0.mk (blk_below (g := gb1319) (o := .cells #[.slice A0_0 l0_0.length c0_0, .slice A0_1 l0_1.length c0_1, .slice A0_2 l0_2.length c0_2] 32 (0, 0)) (have z0_ := BK1319; Ze) hb); have n2_ := Aside0.mk (below_step (have z0_ := GE1319; Zf) hb); clear BK1319; clear HB; have HO1323 := n0_; have BK1319 := n1_; have HB := n2_; clear n0_ n1_ n2_; (try clear hb); (try clear hb2); (try clear hk); (try clear hi); (try clear ho0); obtain ⟨Ao10, co10, eo10⟩ := Kd.S_slice HO1323.out; subst eo10)))
  go_loopg [6, 7, 21] k (fun kq v6 v7 v21 w' => ∃ (x6_1 : Int) (x7_1 : Int) (x21_1 : Int), v6 = .int .i64 x6_1 ∧ v7 = .int .i64 x7_1 ∧ v21 = .int .i64 x21_1 ∧ Aside0 (impl_MostAtOnce.l0 kq t1321 x6_1 x7_1 t1321 (t1321.length : Int) x21_1 = some (r1, r2, r3)) ∧ Aside0 (kq ≤ k) ∧ Aside0 (Kd.S (Kd.slice 2 (Kd.int .i64)) 61 w' w.heap.size (fun _ => True) (.slice Ao10 t1321.length co10) t1321) ∧ Aside0 (Kd.S (Kd.slice 2 (Kd.int .i64)) 61 w' w.heap.size (fun _ => True) (.slice Ao10 t1321.length co10) t1321) ∧ Aside0 (w'.heap[gb1319]? = some (.cells #[(.slice A0_0 l0_0.length c0_0), (.slice A0_1 l0_1.length c0_1), (.slice A0_2 l0_2.length c0_2)] 32 (0, 0))) ∧ Aside0 (Below w.heap.size w w'))
  case atStart => exact ⟨(0), (0), (0), Za, Za, Za, H', ⟨Nat.le_refl _⟩, ⟨(have z0_ := HO1323; Zaw)⟩, ⟨(have z0_ := HO1323; Zaw)⟩, ⟨(have z0_ := BK1319; Ze)⟩, ⟨(have z0_ := GE1319; Zf)⟩⟩
  case round =>
   clear H'
   try clear p2
   try clear c3
   try clear c4
   try clear hcz6_0
   try clear hcz6_1
   try clear hcz6_2
   try clear hcz8_0
   try clear hcz8_1
   try clear hcz8_2
   try clear hfz6_0
   try clear hfz6_1
   try clear hfz6_2
   try clear hfz8_0
   try clear hfz8_1
   try clear hfz8_2
   obtain ⟨x6_1, x7_1, x21_1, rfl, rfl, rfl, HA, HK1, HO_5, HO_19, BK1319, HB⟩ := hrel
   cases gk with
   | zero => exact absurd HA.out (by simp [impl_MostAtOnce.l0])
   | succ k1 =>
    have H := HA.out
    clear HA
    simp only [impl_MostAtOnce.l0] at H
    by_cases c11 : x21_1 < (t1321.length : Int)
    ·rw [if_pos c11] at H
     have c11b0 : decide (x21_1 < (t1321.length : Int)) = true := decide_eq_true c11
     clear c11
     by_cases c12 : 0 ≤ x21_1
     ·rw [if_pos c12] at H
      have c12b0 : decide (0 ≤ x21_1) = true := decide_eq_true c12
      clear c12
      by_cases c13 : x21_1 < (t1321.length : Int)
      ·rw [if_pos c13] at H
       have c13b0 : decide (x21_1 < (t1321.length : Int)) = true := decide_eq_true c13
       clear c13
       by_cases c14 : 0 < ((rd_L9 t1321 x21_1).length : Int)
       ·rw [if_pos c14] at H
        have c14b0 : decide (0 < ((rd_L9 t1321 x21_1).length : Int)) = true := decide_eq_true c14
        have c14b1 : decide (0 < (rd_L9 t1321 x21_1).length) = true := decide_eq_true (by omega)
        clear c14
        have H' := Aside0.mk H
        clear H
        have p1324 : 0 ≤ (x21_1 : Int) := of_decide_eq_true Zp
        have q1324 : x21_1 < (t1321.length : Int) := of_decide_eq_true Zp
        obtain ⟨ad1324, A1324_0, c1324_0, e1324, hx1324_0, hl1324_0, hi1324_0⟩ := at_L9 (Kd.S_reads' HO_19.out).2.2 x21_1 p1324 q1324
        cases e1324
        obtain ⟨ce1324, hce1324, hMe1324, hcc1324⟩ := Kd.S_get HO_19.out [] x21_1 p1324 (by first | exact q1324 | exact of_decide_eq_true Zp | (have e_ := (Kd.S_reads' HO_19.out).1; omega))
        obtain ⟨ve1324_0, rfl, ge1324_0⟩ := hMe1324
        have hv1324_0 := hcc1324 0 _ rfl
        rw [Nat.add_zero, show ((Kd.slice 2 (Kd.int .i64))).sz = 1 from rfl, Nat.mul_one] at hv1324_0
        replace hv1324_0 := Option.some.inj (hv1324_0.symm.trans hx1324_0)
        rw [hv1324_0] at ge1324_0
        have HL1324_0 := Aside0.mk (show Kd.R (Kd.int .i64) 2 _ _ _ _ (rd_L9 t1321 x21_1) from ge1324_0)
        clear hv1324_0 ge1324_0
        clear hcc1324 hce1324
        have HR1324_0 := Aside0.mk hi1324_0
        have HC1324_0 := Aside0.mk hl1324_0
        clear hi1324_0 hl1324_0
        replace p1324 := eq_true p1324
        replace q1324 := eq_true q1324
        have p1325 : 0 ≤ (0 : Int) := (by omega)
        have q1325 : 0 < ((rd_L9 t1321 x21_1).length : Int) := of_decide_eq_true Zp
        obtain ⟨ad1325, e1325, hx1325_0⟩ := Kd.at_int (have z0_ := HR1324_0; Zaz) 0 p1325 q1325
        cases e1325
        have qi1325 : (0 < (rd_L9 t1321 x21_1).length) = True := eq_true (by omega)
        (try rw [show ((0 : Int)).toNat = 0 from rfl] at hx1325_0)
        (try rw [Addr.add_zero'] at hx1325_0)
        replace p1325 := eq_true p1325
        replace q1325 := eq_true q1325
        go_wp2
        repeat (go_quiet (fail); try go_wp2)
        go_loopg [11, 30] k1 (fun kq v11 v30 w' => ∃ (x11_2 : Int) (x30_2 : Int), v11 = .int .i64 x11_2 ∧ v30 = .int .i64 x30_2 ∧ Aside0 (impl_MostAtOnce.l1 kq t1321 x6_1 x7_1 (rd (rd_L9 t1321 x21_1) 0) x11_2 t1321 (t1321.length : Int) x21_1 t1321 (t1321.length : Int) x30_2 = some (r1, r2, r3)) ∧ Aside0 (kq ≤ k1) ∧ Aside0 (Kd.S (Kd.slice 2 (Kd.int .i64)) 61 w' w.heap.size (fun _ => True) (.slice (some ad1324) t1321.length co10) t1321) ∧ Aside0 (Kd.S (Kd.slice 2 (Kd.int .i64)) 61 w' w.heap.size (fun _ => True) (.slice (some ad1324) t1321.length co10) t1321) ∧ Aside0 (Kd.S (Kd.slice 2 (Kd.int .i64)) 61 w' w.heap.size (fun _ => True) (.slice (some ad1324) t1321.length co10) t1321) ∧ Aside0 (w'.heap[gb1319]? = some (.cells #[(.slice A0_0 l0_0.length c0_0), (.slice A0_1 l0_1.length c0_1), (.slice A0_2 l0_2.length c0_2)] 32 (0, 0))) ∧ Aside0 (Kd.C (Kd.int .i64) w' (some ad1325) (rd_L9 t1321 x21_1).length (rd_L9 t1321 x21_1)) ∧ Aside0 (Below w.heap.size w w'))
        case atStart => exact ⟨(0), (0), Za, Za, H', ⟨Nat.le_refl _⟩, ⟨(have z0_ := HO_5; Zaw)⟩, ⟨(have z0_ := HO_19; Zaw)⟩, ⟨(have z0_ := HO_5; Zaw)⟩, ⟨(have z0_ := BK1319; Ze)⟩, ⟨(have z0_ := HR1324_0; Zaz)⟩, ⟨(have z0_ := GE1319; Zf)⟩⟩
        case round =>
         clear H'
         try clear c1
         try clear p1
         try clear q1
         try clear hx1
         try clear qi1
         try clear p2
         try clear c3
         try clear c4
         try clear c11
         try clear c11b0
         try clear c12
         try clear c12b0
         try clear c13
         try clear c13b0
         try clear p13
         try clear q13
         try clear hx13
         try clear qi13
         try clear c14
         try clear c14b0
         try clear c14b1
         try clear hcz6_0
         try clear hcz6_1
         try clear hcz6_2
         try clear hcz8_0
         try clear hcz8_1
         try clear hcz8_2
         try clear hfz6_0
         try clear hfz6_1
         try clear hfz6_2
         try clear hfz8_0
         try clear hfz8_1
         try clear hfz8_2
         try clear hx1324_0
         try clear hx1325_0
         try clear p1324
         try clear p1325
         try clear p2
         try clear q1324
         try clear q1325
         obtain ⟨x11_2, x30_2, rfl, rfl, HA, HK2, HO_5, HO_19, HO_28, BK1319, HR1324_0, HB⟩ := hrel
         cases gk with
         | zero => exact absurd HA.out (by simp [impl_MostAtOnce.l1])
         | succ k2 =>
          have H := HA.out
          clear HA
          simp only [impl_MostAtOnce.l1] at H
          by_cases c15 : x30_2 < (t1321.length : Int)
          ·rw [if_pos c15] at H
           have c15b0 : decide (x30_2 < (t1321.length : Int)) = true := decide_eq_true c15
           clear c15
           by_cases c16 : 0 ≤ x30_2
           ·rw [if_pos c16] at H
            have c16b0 : decide (0 ≤ x30_2) = true := decide_eq_true c16
            clear c16
            by_cases c17 : x30_2 < (t1321.length : Int)
            ·rw [if_pos c17] at H
             have c17b0 : decide (x30_2 < (t1321.length : Int)) = true := decide_eq_true c17
             clear c17
             by_cases c18 : 0 < ((rd_L9 t1321 x30_2).length : Int)
             ·rw [if_pos c18] at H
              have c18b0 : decide (0 < ((rd_L9 t1321 x30_2).length : Int)) = true := decide_eq_true c18
              have c18b1 : decide (0 < (rd_L9 t1321 x30_2).length) = true := decide_eq_true (by omega)
              clear c18
              by_cases c19 : 1 < ((rd_L9 t1321 x30_2).length : Int)
              ·rw [if_pos c19] at H
               have c19b0 : decide (1 < ((rd_L9 t1321 x30_2).length : Int)) = true := decide_eq_true c19
               have c19b1 : decide (1 < (rd_L9 t1321 x30_2).length) = true := decide_eq_true (by omega)
               clear c19
               replace H := Option.bind_eq_some_iff.mp H
               obtain ⟨t1329, A200, H⟩ := H
               replace H : (if t1329 = true then (impl_MostAtOnce.l1 k2 t1321 x6_1 x7_1 (rd (rd_L9 t1321 x21_1) 0) (wrap64 (x11_2 + 1)) t1321 (t1321.length : Int) x21_1 t1321 (t1321.length : Int) (wrap64 (x30_2 + 1))) else (impl_MostAtOnce.l1 k2 t1321 x6_1 x7_1 (rd (rd_L9 t1321 x21_1) 0) x11_2 t1321 (t1321.length : Int) x21_1 t1321 (t1321.length : Int) (wrap64 (x30_2 + 1)))) = some (r1, r2, r3) := H
               have A20 := Aside0.mk A200
               clear A200
               by_cases c21 : t1329 = true
               ·subst c21
                have H1 : (impl_MostAtOnce.l1 k2 t1321 x6_1 x7_1 (rd (rd_L9 t1321 x21_1) 0) (wrap64 (x11_2 + 1)) t1321 (t1321.length : Int) x21_1 t1321 (t1321.length : Int) (wrap64 (x30_2 + 1))) = some (r1, r2, r3) := by rw [if_pos rfl] at H; exact H
                clear H
                have H := H1
                clear H1
                have H' := Aside0.mk H
                clear H
                have p1326 : 0 ≤ (x30_2 : Int) := of_decide_eq_true Zp
                have q1326 : x30_2 < (t1321.length : Int) := of_decide_eq_true Zp
                obtain ⟨ad1326, A1326_0, c1326_0, e1326, hx1326_0, hl1326_0, hi1326_0⟩ := at_L9 (Kd.S_reads' HO_28.out).2.2 x30_2 p1326 q1326
                obtain rfl : ad1324 = ad1326 := (by injection e1326)
                obtain ⟨ce1326, hce1326, hMe1326, hcc1326⟩ := Kd.S_get HO_28.out [] x30_2 p1326 (by first | exact q1326 | exact of_decide_eq_true Zp | (have e_ := (Kd.S_reads' HO_28.out).1; omega))
                obtain ⟨ve1326_0, rfl, ge1326_0⟩ := hMe1326
                have hv1326_0 := hcc1326 0 _ rfl
                rw [Nat.add_zero, show ((Kd.slice 2 (Kd.int .i64))).sz = 1 from rfl, Nat.mul_one] at hv1326_0
                replace hv1326_0 := Option.some.inj (hv1326_0.symm.trans hx1326_0)
                rw [hv1326_0] at ge1326_0
                have HL1326_0 := Aside0.mk (show Kd.R (Kd.int .i64) 2 _ _ _ _ (rd_L9 t1321 x30_2) from ge1326_0)
                clear hv1326_0 ge1326_0
                clear hcc1326 hce1326
                have HR1326_0 := Aside0.mk hi1326_0
                have HC1326_0 := Aside0.mk hl1326_0
                clear hi1326_0 hl1326_0
                replace p1326 := eq_true p1326
                replace q1326 := eq_true q1326
                have p1327 : 0 ≤ (0 : Int) := (by omega)
                have q1327 : 0 < ((rd_L9 t1321 x30_2).length : Int) := of_decide_eq_true Zp
                obtain ⟨ad1327, e1327, hx1327_0⟩ := Kd.at_int (have z0_ := HR1326_0; Zaz) 0 p1327 q1327
                cases e1327
                have qi1327 : (0 < (rd_L9 t1321 x30_2).length) = True := eq_true (by omega)
                (try rw [show ((0 : Int)).toNat = 0 from rfl] at hx1327_0)
                (try rw [Addr.add_zero'] at hx1327_0)
                replace p1327 := eq_true p1327
                replace q1327 := eq_true q1327
                have p1328 : 0 ≤ (1 : Int) := (by omega)
                have q1328 : 1 < ((rd_L9 t1321 x30_2).length : Int) := of_decide_eq_true Zp
                obtain ⟨ad1328, e1328, hx1328_0⟩ := Kd.at_int (have z0_ := HR1326_0; Zaz) 1 p1328 q1328
                obtain rfl : ad1327 = ad1328 := (by injection e1328)
                (try simp only [show (1 : Int).toNat = 1 from rfl, Nat.reduceMul, Nat.reduceEqDiff, Go.Addr.add, ↓reduceIte] at hx1328_0)
                have qi1328 : (1 < (rd_L9 t1321 x30_2).length) = True := eq_true (by omega)
                (try rw [show ((1 : Int)).toNat = 1 from rfl] at hx1328_0)
                replace p1328 := eq_true p1328
                replace q1328 := eq_true q1328
                go_wp2_with (first | (go_at_call 89; (with_reducible refine (impl_within.calls (rd (rd_L9 t1321 x21_1) 0) (rd (rd_L9 t1321 x30_2) 0) (rd (rd_L9 t1321 x30_2) 1) true _ A20.out).mono ?_); rintro e w' ⟨rfl, ⟨nd, rfl⟩⟩; (try first | exact ⟨rfl, _, World.drewN_drewN _ _ _⟩ | exact ⟨rfl, _, Eq.trans (World.drewN_drewN _ _ _) (congrArg (World.drewN _) (Nat.add_assoc _ _ _))⟩)))
                repeat (go_quiet (first | (go_at_call 89; (with_reducible refine (impl_within.calls (rd (rd_L9 t1321 x21_1) 0) (rd (rd_L9 t1321 x30_2) 0) (rd (rd_L9 t1321 x30_2) 1) true _ A20.out).mono ?_); rintro e w' ⟨rfl, ⟨nd, rfl⟩⟩; (try first | exact ⟨rfl, _, World.drewN_drewN _ _ _⟩ | exact ⟨rfl, _, Eq.trans (World.drewN_drewN _ _ _) (congrArg (World.drewN _) (Nat.add_assoc _ _ _))⟩))); try go_wp2_with (first | (go_at_call 89; (with_reducible refine (impl_within.calls (rd (rd_L9 t1321 x21_1) 0) (rd (rd_L9 t1321 x30_2) 0) (rd (rd_L9 t1321 x30_2) 1) true _ A20.out).mono ?_); rintro e w' ⟨rfl, ⟨nd, rfl⟩⟩; (try first | exact ⟨rfl, _, World.drewN_drewN _ _ _⟩ | exact ⟨rfl, _, Eq.trans (World.drewN_drewN _ _ _) (congrArg (World.drewN _) (Nat.add_assoc _ _ _))⟩))))
                go_roundg k2
                case measure => have := HK1.out; have := HK2.out; omega
                case rel => exact ⟨(wrap64 (x11_2 + 1)), (wrap64 (x30_2 + 1)), Za, Za, H', ⟨Zbj⟩, ⟨(have z0_ := HO_5; Zaw)⟩, ⟨(have z0_ := HO_19; Zaw)⟩, ⟨(have z0_ := HO_28; Zaw)⟩, ⟨(have z0_ := BK1319; Ze)⟩, ⟨(have z0_ := HR1324_0; Zaz)⟩, ⟨(have z0_ := GE1319; Zf)⟩⟩
               ·replace c21 := Bool.eq_false_iff.mpr c21
                subst c21
                have H1 : (impl_MostAtOnce.l1 k2 t1321 x6_1 x7_1 (rd (rd_L9 t1321 x21_1) 0) x11_2 t1321 (t1321.length : Int) x21_1 t1321 (t1321.length : Int) (wrap64 (x30_2 + 1))) = some (r1, r2, r3) := by rw [if_neg (show ¬ (false = true) by decide)] at H; exact H
                clear H
                have H := H1
                clear H1
                have H' := Aside0.mk H
                clear H
                have p1326 : 0 ≤ (x30_2 : Int) := of_decide_eq_true Zp
                have q1326 : x30_2 < (t1321.length : Int) := of_decide_eq_true Zp
                obtain ⟨ad1326, A1326_0, c1326_0, e1326, hx1326_0, hl1326_0, hi1326_0⟩ := at_L9 (Kd.S_reads' HO_28.out).2.2 x30_2 p1326 q1326
                obtain rfl : ad1324 = ad1326 := (by injection e1326)
                obtain ⟨ce1326, hce1326, hMe1326, hcc1326⟩ := Kd.S_get HO_28.out [] x30_2 p1326 (by first | exact q1326 | exact of_decide_eq_true Zp | (have e_ := (Kd.S_reads' HO_28.out).1; omega))
                obtain ⟨ve1326_0, rfl, ge1326_0⟩ := hMe1326
                have hv1326_0 := hcc1326 0 _ rfl
                rw [Nat.add_zero, show ((Kd.slice 2 (Kd.int .i64))).sz = 1 from rfl, Nat.mul_one] at hv1326_0
                replace hv1326_0 := Option.some.inj (hv1326_0.symm.trans hx1326_0)
                rw [hv1326_0] at ge1326_0
                have HL1326_0 := Aside0.mk (show Kd.R (Kd.int .i64) 2 _ _ _ _ (rd_L9 t1321 x30_2) from ge1326_0)
                clear hv1326_0 ge1326_0
                clear hcc1326 hce1326
                have HR1326_0 := Aside0.mk hi1326_0
                have HC1326_0 := Aside0.mk hl1326_0
                clear hi1326_0 hl1326_0
                replace p1326 := eq_true p1326
                replace q1326 := eq_true q1326
                have p1327 : 0 ≤ (0 : Int) := (by omega)
                have q1327 : 0 < ((rd_L9 t1321 x30_2).length : Int) := of_decide_eq_true Zp
                obtain ⟨ad1327, e1327, hx1327_0⟩ := Kd.at_int (have z0_ := HR1326_0; Zaz) 0 p1327 q1327
                cases e1327
                have qi1327 : (0 < (rd_L9 t1321 x30_2).length) = True := eq_true (by omega)
                (try rw [show ((0 : Int)).toNat = 0 from rfl] at hx1327_0)
                (try rw [Addr.add_zero'] at hx1327_0)
                replace p1327 := eq_true p1327
                replace q1327 := eq_true q1327
                have p1328 : 0 ≤ (1 : Int) := (by omega)
                have q1328 : 1 < ((rd_L9 t1321 x30_2).length : Int) := of_decide_eq_true Zp
                obtain ⟨ad1328, e1328, hx1328_0⟩ := Kd.at_int (have z0_ := HR1326_0; Zaz) 1 p1328 q1328
                obtain rfl : ad1327 = ad1328 := (by injection e1328)
                (try simp only [show (1 : Int).toNat = 1 from rfl, Nat.reduceMul, Nat.reduceEqDiff, Go.Addr.add, ↓reduceIte] at hx1328_0)
                have qi1328 : (1 < (rd_L9 t1321 x30_2).length) = True := eq_true (by omega)
                (try rw [show ((1 : Int)).toNat = 1 from rfl] at hx1328_0)
                replace p1328 := eq_true p1328
                replace q1328 := eq_true q1328
                go_wp2_with (first | (go_at_call 89; (with_reducible refine (impl_within.calls (rd (rd_L9 t1321 x21_1) 0) (rd (rd_L9 t1321 x30_2) 0) (rd (rd_L9 t1321 x30_2) 1) false _ A20.out).mono ?_); rintro e w' ⟨rfl, ⟨nd, rfl⟩⟩; (try first | exact ⟨rfl, _, World.drewN_drewN _ _ _⟩ | exact ⟨rfl, _, Eq.trans (World.drewN_drewN _ _ _) (congrArg (World.drewN _) (Nat.add_assoc _ _ _))⟩)))
                repeat (go_quiet (first | (go_at_call 89; (with_reducible refine (impl_within.calls (rd (rd_L9 t1321 x21_1) 0) (rd (rd_L9 t1321 x30_2) 0) (rd (rd_L9 t1321 x30_2) 1) false _ A20.out).mono ?_); rintro e w' ⟨rfl, ⟨nd, rfl⟩⟩; (try first | exact ⟨rfl, _, World.drewN_drewN _ _ _⟩ | exact ⟨rfl, _, Eq.trans (World.drewN_drewN _ _ _) (congrArg (World.drewN _) (Nat.add_assoc _ _ _))⟩))); try go_wp2_with (first | (go_at_call 89; (with_reducible refine (impl_within.calls (rd (rd_L9 t1321 x21_1) 0) (rd (rd_L9 t1321 x30_2) 0) (rd (rd_L9 t1321 x30_2) 1) false _ A20.out).mono ?_); rintro e w' ⟨rfl, ⟨nd, rfl⟩⟩; (try first | exact ⟨rfl, _, World.drewN_drewN _ _ _⟩ | exact ⟨rfl, _, Eq.trans (World.drewN_drewN _ _ _) (congrArg (World.drewN _) (Nat.add_assoc _ _ _))⟩))))
                go_roundg k2
                case measure => have := HK1.out; have := HK2.out; omega
                case rel => exact ⟨(x11_2), (wrap64 (x30_2 + 1)), Za, Za, H', ⟨Zbj⟩, ⟨(have z0_ := HO_5; Zaw)⟩, ⟨(have z0_ := HO_19; Zaw)⟩, ⟨(have z0_ := HO_28; Zaw)⟩, ⟨(have z0_ := BK1319; Ze)⟩, ⟨(have z0_ := HR1324_0; Zaz)⟩, ⟨(have z0_ := GE1319; Zf)⟩⟩
              ·rw [if_neg c19] at H
               exact absurd H (by simp)
             ·rw [if_neg c18] at H
              exact absurd H (by simp)
            ·rw [if_neg c17] at H
             exact absurd H (by simp)
           ·rw [if_neg c16] at H
            exact absurd H (by simp)
          ·rw [if_neg c15] at H
           have c15b0 : decide (x30_2 < (t1321.length : Int)) = false := decide_eq_false c15
           clear c15
           by_cases c22 : x11_2 > x7_1
           ·rw [if_pos c22] at H
            have c22b0 : decide (x7_1 < x11_2) = true := decide_eq_true c22
            clear c22
            have H' := Aside0.mk H
            clear H
            go_wp2
            repeat (go_quiet (fail); try go_wp2)
            go_roundg k2
            case measure => have := HK1.out; have := HK2.out; omega
            case rel => exact ⟨((rd (rd_L9 t1321 x21_1) 0)), (x11_2), (wrap64 (x21_1 + 1)), Za, Za, Za, H', ⟨Zbj⟩, ⟨(have z0_ := HO_5; Zaw)⟩, ⟨(have z0_ := HO_19; Zaw)⟩, ⟨(have z0_ := BK1319; Ze)⟩, ⟨(have z0_ := GE1319; Zf)⟩⟩
           ·rw [if_neg c22] at H
            have c22b0 : decide (x7_1 < x11_2) = false := decide_eq_false c22
            clear c22
            by_cases c23 : x11_2 = x7_1
            ·rw [if_pos c23] at H
             have c23b0 : (x11_2 == x7_1) = true := beq_iff_eq.mpr c23
             have c23b1 : (x11_2 != x7_1) = false := bne_eq_false_iff_eq.mpr c23
             clear c23
             by_cases c24 : (rd (rd_L9 t1321 x21_1) 0) < x6_1
             ·rw [if_pos c24] at H
              have c24b0 : decide ((rd (rd_L9 t1321 x21_1) 0) < x6_1) = true := decide_eq_true c24
              clear c24
              have H' := Aside0.mk H
              clear H
              go_wp2
              repeat (go_quiet (fail); try go_wp2)
              go_roundg k2
              case measure => have := HK1.out; have := HK2.out; omega
              case rel => exact ⟨((rd (rd_L9 t1321 x21_1) 0)), (x11_2), (wrap64 (x21_1 + 1)), Za, Za, Za, H', ⟨Zbj⟩, ⟨(have z0_ := HO_5; Zaw)⟩, ⟨(have z0_ := HO_19; Zaw)⟩, ⟨(have z0_ := BK1319; Ze)⟩, ⟨(have z0_ := GE1319; Zf)⟩⟩
             ·rw [if_neg c24] at H
              have c24b0 : decide ((rd (rd_L9 t1321 x21_1) 0) < x6_1) = false := decide_eq_false c24
              clear c24
              have H' := Aside0.mk H
              clear H
              go_wp2
              repeat (go_quiet (fail); try go_wp2)
              go_roundg k2
              case measure => have := HK1.out; have := HK2.out; omega
              case rel => exact ⟨(x6_1), (x7_1), (wrap64 (x21_1 + 1)), Za, Za, Za, H', ⟨Zbj⟩, ⟨(have z0_ := HO_5; Zaw)⟩, ⟨(have z0_ := HO_19; Zaw)⟩, ⟨(have z0_ := BK1319; Ze)⟩, ⟨(have z0_ := GE1319; Zf)⟩⟩
            ·rw [if_neg c23] at H
             have c23b0 : (x11_2 == x7_1) = false := beq_eq_false_iff_ne.mpr c23
             have c23b1 : (x11_2 != x7_1) = true := bne_iff_ne.mpr c23
             have H' := Aside0.mk H
             clear H
             go_wp2
             repeat (go_quiet (fail); try go_wp2)
             go_roundg k2
             case measure => have := HK1.out; have := HK2.out; omega
             case rel => exact ⟨(x6_1), (x7_1), (wrap64 (x21_1 + 1)), Za, Za, Za, H', ⟨Zbj⟩, ⟨(have z0_ := HO_5; Zaw)⟩, ⟨(have z0_ := HO_19; Zaw)⟩, ⟨(have z0_ := BK1319; Ze)⟩, ⟨(have z0_ := GE1319; Zf)⟩⟩
       ·rw [if_neg c14] at H
        exact absurd H (by simp)
      ·rw [if_neg c13] at H
       exact absurd H (by simp)
     ·rw [if_neg c12] at H
      exact absurd H (by simp)
    ·rw [if_neg c11] at H
     have c11b0 : decide (x21_1 < (t1321.length : Int)) = false := decide_eq_false c11
     clear c11
     simp only [Option.some.injEq, Prod.mk.injEq] at H
     obtain ⟨rfl, rfl, rfl⟩ := H
     go_wp2
     repeat (go_quiet (fail); try go_wp2)
     go_ret3
     exact ⟨Zk, (have z0_ := GE1319; Zf)⟩
 ·replace c3 := Bool.eq_false_iff.mpr c3
  subst c3
  have H1 : (some (0, 0, 1)) = some (r1, r2, r3) := by rw [if_neg (show ¬ (false = true) by decide)] at H; exact H
  clear H
  have H := H1
  clear H1
  simp only [Option.some.injEq, Prod.mk.injEq] at H
  obtain ⟨rfl, rfl, rfl⟩ := H
  go_enter Try.func47, Try.ntmps47
  go_wp2_with (first | ((with_reducible refine gate_dst (N := 1) rfl ?_); refine box_event ?hg (N := 1) ?hd (cs := #[.slice A0_0 l0_0.length c0_0, .slice A0_1 l0_1.length c0_1, .slice A0_2 l0_2.length c0_2]) (t := 32) ?hr ?_; (case hd => rfl); (case hg => rfl); (case hr => first | (go_simp; done) | (go_simp; rfl)); intro gb1319 hg w25 hbox hb; have n0_ := Aside0.mk (below_step Zc hb); have n1_ := Aside0.mk (hbox); have n2_ := Aside0.mk ((Zd : w.heap.size ≤ gb1319)); have n3_ := Aside0.mk ((Zd : w.heap.size ≤ gb1319)); clear HB; have HB := n0_; have BK1319 := n1_; have GW1319 := n2_; have GE1319 := n3_; clear n0_ n1_ n2_ n3_; clear hb hbox hg; obtain ⟨hcz26_0, hcz26_1, hcz26_2, hfz26_0, hfz26_1, hfz26_2⟩ := cz3 BK1319) | (go_at_call 37; (with_reducible refine (impl_IsShow.calls k _ _ l0_0 _ _ l0_1 _ _ l0_2 false _ ?side1 ?side2 ?side3 ?side4 ?side5 ?side6 A2.out).mono ?_); (case side1 => repeat (first | exact (Kd.C_below HR0_0.out HB.out) | (with_reducible refine Kd.C_alloc ?_ _) | (with_reducible refine Kd.C_drewN ?_ _) | (with_reducible refine Kd.C_drew ?_))); (case side2 => exact HC0_0.out); (case side3 => repeat (first | exact (Kd.C_below HR0_1.out HB.out) | (with_reducible refine Kd.C_alloc ?_ _) | (with_reducible refine Kd.C_drewN ?_ _) | (with_reducible refine Kd.C_drew ?_))); (case side4 => exact HC0_1.out); (case side5 => repeat (first | exact (Kd.C_below HR0_2.out HB.out) | (with_reducible refine Kd.C_alloc ?_ _) | (with_reducible refine Kd.C_drewN ?_ _) | (with_reducible refine Kd.C_drew ?_))); (case side6 => exact HC0_2.out); rintro e w27 ⟨rfl, hb⟩; have n0_ := Aside0.mk (blk_below (g := gb1319) (o := .cells #[.slice A0_0 l0_0.length c0_0, .slice A0_1 l0_1.length c0_1, .slice A0_2 l0_2.length c0_2] 32 (0, 0)) (have z0_ := BK1319; Ze) hb); have n1_ := Aside0.mk (below_step (have z0_ := GE1319; Zf) hb); clear BK1319; clear HB; have BK1319 := n0_; have HB := n1_; clear n0_ n1_; (try clear hb); (try clear hb2); (try clear hk); (try clear hi)))
  repeat (go_quiet (first | ((with_reducible refine gate_dst (N := 1) rfl ?_); refine box_event ?hg (N := 1) ?hd (cs := #[.slice A0_0 l0_0.length c0_0, .slice A0_1 l0_1.length c0_1, .slice A0_2 l0_2.length c0_2]) (t := 32) ?hr ?_; (case hd => rfl); (case hg => rfl); (case hr => first | (go_simp; done) | (go_simp; rfl)); intro gb1319 hg w25 hbox hb; have n0_ := Aside0.mk (below_step Zc hb); have n1_ := Aside0.mk (hbox); have n2_ := Aside0.mk ((Zd : w.heap.size ≤ gb1319)); have n3_ := Aside0.mk ((Zd : w.heap.size ≤ gb1319)); clear HB; have HB := n0_; have BK1319 := n1_; have GW1319 := n2_; have GE1319 := n3_; clear n0_ n1_ n2_ n3_; clear hb hbox hg; obtain ⟨hcz26_0, hcz26_1, hcz26_2, hfz26_0, hfz26_1, hfz26_2⟩ := cz3 BK1319) | (go_at_call 37; (with_reducible refine (impl_IsShow.calls k _ _ l0_0 _ _ l0_1 _ _ l0_2 false _ ?side1 ?side2 ?side3 ?side4 ?side5 ?side6 A2.out).mono ?_); (case side1 => repeat (first | exact (Kd.C_below HR0_0.out HB.out) | (with_reducible refine Kd.C_alloc ?_ _) | (with_reducible refine Kd.C_drewN ?_ _) | (with_reducible refine Kd.C_drew ?_))); (case side2 => exact HC0_0.out); (case side3 => repeat (first | exact (Kd.C_below HR0_1.out HB.out) | (with_reducible refine Kd.C_alloc ?_ _) | (with_reducible refine Kd.C_drewN ?_ _) | (with_reducible refine Kd.C_drew ?_))); (case side4 => exact HC0_1.out); (case side5 => repeat (first | exact (Kd.C_below HR0_2.out HB.out) | (with_reducible refine Kd.C_alloc ?_ _) | (with_reducible refine Kd.C_drewN ?_ _) | (with_reducible refine Kd.C_drew ?_))); (case side6 => exact HC0_2.out); rintro e w27 ⟨rfl, hb⟩; have n0_ := Aside0.mk (blk_below (g := gb1319) (o := .cells #[.slice A0_0 l0_0.length c0_0, .slice A0_1 l0_1.length c0_1, .slice A0_2 l0_2.length c0_2] 32 (0, 0)) (have z0_ := BK1319; Ze) hb); have n1_ := Aside0.mk (below_step (have z0_ := GE1319; Zf) hb); clear BK1319; clear HB; have BK1319 := n0_; have HB := n1_; clear n0_ n1_; (try clear hb); (try clear hb2); (try clear hk); (try clear hi))); try go_wp2_with (first | ((with_reducible refine gate_dst (N := 1) rfl ?_); refine box_event ?hg (N := 1) ?hd (cs := #[.slice A0_0 l0_0.length c0_0, .slice A0_1 l0_1.length c0_1, .slice A0_2 l0_2.length c0_2]) (t := 32) ?hr ?_; (case hd => rfl); (case hg => rfl); (case hr => first | (go_simp; done) | (go_simp; rfl)); intro gb1319 hg w25 hbox hb; have n0_ := Aside0.mk (below_step Zc hb); have n1_ := Aside0.mk (hbox); have n2_ := Aside0.mk ((Zd : w.heap.size ≤ gb1319)); have n3_ := Aside0.mk ((Zd : w.heap.size ≤ gb1319)); clear HB; have HB := n0_; have BK1319 := n1_; have GW1319 := n2_; have GE1319 := n3_; clear n0_ n1_ n2_ n3_; clear hb hbox hg; obtain ⟨hcz26_0, hcz26_1, hcz26_2, hfz26_0, hfz26_1, hfz26_2⟩ := cz3 BK1319) | (go_at_call 37; (with_reducible refine (impl_IsShow.calls k _ _ l0_0 _ _ l0_1 _ _ l0_2 false _ ?side1 ?side2 ?side3 ?side4 ?side5 ?side6 A2.out).mono ?_); (case side1 => repeat (first | exact (Kd.C_below HR0_0.out HB.out) | (with_reducible refine Kd.C_alloc ?_ _) | (with_reducible refine Kd.C_drewN ?_ _) | (with_reducible refine Kd.C_drew ?_))); (case side2 => exact HC0_0.out); (case side3 => repeat (first | exact (Kd.C_below HR0_1.out HB.out) | (with_reducible refine Kd.C_alloc ?_ _) | (with_reducible refine Kd.C_drewN ?_ _) | (with_reducible refine Kd.C_drew ?_))); (case side4 => exact HC0_1.out); (case side5 => repeat (first | exact (Kd.C_below HR0_2.out HB.out) | (with_reducible refine Kd.C_alloc ?_ _) | (with_reducible refine Kd.C_drewN ?_ _) | (with_reducible refine Kd.C_drew ?_))); (case side6 => exact HC0_2.out); rintro e w27 ⟨rfl, hb⟩; have n0_ := Aside0.mk (blk_below (g := gb1319) (o := .cells #[.slice A0_0 l0_0.length c0_0, .slice A0_1 l0_1.length c0_1, .slice A0_2 l0_2.length c0_2] 32 (0, 0)) (have z0_ := BK1319; Ze) hb); have n1_ := Aside0.mk (below_step (have z0_ := GE1319; Zf) hb); clear BK1319; clear HB; have BK1319 := n0_; have HB := n1_; clear n0_ n1_; (try clear hb); (try clear hb2); (try clear hk); (try clear hi))))
  go_ret3
  exact ⟨Zk, (have z0_ := GE1319; Zf)⟩
end Go.Proofs.Ytnlbaflbhicooaa.F
namespace Go.Proofs.Ytnlbaflbhicooaa.F
open Go.RowKit Go.Proofs.YtnlbaflbhicooaaW.PrintWords Go.Proofs.YtnlbaflbhicooaaW.PrintLast Go.Proofs.YtnlbaflbhicooaaW.PrintMore
set_option linter.unusedVariables false
set_option linter.unusedSimpArgs false
structure Ok_FnExactMostAtOnce (k : Nat) (l0_0 : List S110) (l0_1 : List S105) (l0_2 : List S40) (L0_0 : List S108) (M0_0 : List S108) (t0_0 : Int) (L0_1 : List S92) (M0_1 : List S92) (t0_1 : Int) (L0_2 : List S43) (M0_2 : List S43) (t0_2 : Int) (q1 : Int) (q2 : Int) (q3 : Int) : Prop where
 ne0_0 : L0_0 ≠ []
 tk0_0 : M0_0 = L0_0.take l0_0.length ∧ l0_0.length ≤ L0_0.length
 ln0_0 : M0_0.length = l0_0.length
 rm0_0 : laws_roomBehind.f (M0_0.length : Int) = some t0_0
 jn0_0 : wrap64 ((M0_0.length : Int) + t0_0) = (L0_0.length : Int)
 eq0_0 : laws_eqBarS.f k L0_0 L0_0 = some true
 ne0_1 : L0_1 ≠ []
 tk0_1 : M0_1 = L0_1.take l0_1.length ∧ l0_1.length ≤ L0_1.length
 ln0_1 : M0_1.length = l0_1.length
 rm0_1 : laws_roomBehind.f (M0_1.length : Int) = some t0_1
 jn0_1 : wrap64 ((M0_1.length : Int) + t0_1) = (L0_1.length : Int)
 eq0_1 : laws_eqArticleS.f k L0_1 L0_1 = some true
 ne0_2 : L0_2 ≠ []
 tk0_2 : M0_2 = L0_2.take l0_2.length ∧ l0_2.length ≤ L0_2.length
 ln0_2 : M0_2.length = l0_2.length
 rm0_2 : laws_roomBehind.f (M0_2.length : Int) = some t0_2
 jn0_2 : wrap64 ((M0_2.length : Int) + t0_2) = (L0_2.length : Int)
 eq0_2 : laws_eqCueS.f k L0_2 L0_2 = some true
 fu0 : full_toShow.f k l0_0 l0_1 l0_2 false = some (L0_0, L0_1, L0_2)
 to0 : laws_toShow.f k l0_0 l0_1 l0_2 true = some (M0_0, M0_1, M0_2)
 sp : spec_MostAtOnce.f k M0_0 M0_1 M0_2 = some (q1, q2, q3)
 im : impl_MostAtOnce.f k M0_0 M0_1 M0_2 = some (q1, q2, q3)
def Law_FnExactMostAtOnce (k : Nat) (l0_0 : List S110) (l0_1 : List S105) (l0_2 : List S40) : Prop := ∃ s1 : Int, laws_szShow.f k l0_0 l0_1 l0_2 1000000 = some s1 ∧ (s1 < 0 ∨ (0 ≤ s1 ∧ ∃ (L0_0 : List S108) (M0_0 : List S108) (t0_0 : Int) (L0_1 : List S92) (M0_1 : List S92) (t0_1 : Int) (L0_2 : List S43) (M0_2 : List S43) (t0_2 : Int) (q1 : Int) (q2 : Int) (q3 : Int), Ok_FnExactMostAtOnce k l0_0 l0_1 l0_2 L0_0 M0_0 t0_0 L0_1 M0_1 t0_1 L0_2 M0_2 t0_2 q1 q2 q3))
def Pure_FnExactMostAtOnce : Prop := ∀ (l0_0 : List S110) (l0_1 : List S105) (l0_2 : List S40), l0_0.length ≤ maxLen → (∀ x ∈ l0_0, Pr110 x) → l0_1.length ≤ maxLen → (∀ x ∈ l0_1, Pr105 x) → l0_2.length ≤ maxLen → (∀ x ∈ l0_2, Pr40 x) → ∃ k, Law_FnExactMostAtOnce k l0_0 l0_1 l0_2
def law_FnExactMostAtOnce.T : Bool × List (List Nat × List Nat) := (true, [([], []), ([], []), ([1], [1]), ([0, 2, 2], [0, 2]), ([3], [3])])
def law_FnExactMostAtOnce.B : List Nat := [0, 0, 2, 7, 15]
theorem law_FnExactMostAtOnce.tab : rtab .any (opsOf Try.f11 10) = law_FnExactMostAtOnce.T := by kernel_rfl
theorem law_FnExactMostAtOnce.bits : waitsOk law_FnExactMostAtOnce.T.2 law_FnExactMostAtOnce.B = true := by kernel_rfl
set_option maxHeartbeats 8000000 in
set_option maxRecDepth 100000 in
theorem law_FnExactMostAtOnce (k : Nat) (A0_0 : Option Addr) (c0_0 : Nat) (l0_0 : List S110) (A0_1 : Option Addr) (c0_1 : Nat) (l0_1 : List S105) (A0_2 : Option Addr) (c0_2 : Nat) (l0_2 : List S40) (w : World) (hr0_0 : Kd.C k110 w A0_0 l0_0.length l0_0) (hc0_0 : l0_0.length ≤ c0_0) (hr0_1 : Kd.C k105 w A0_1 l0_1.length l0_1) (hc0_1 : l0_1.length ≤ c0_1) (hr0_2 : Kd.C k40 w A0_2 l0_2.length l0_2) (hc0_2 : l0_2.length ≤ c0_2) (h : Law_FnExactMostAtOnce k l0_0 l0_1 l0_2) :
  Calls Try.prog 11 #[.agg #[.slice A0_0 l0_0.length c0_0, .slice A0_1 l0_1.length c0_1, .slice A0_2 l0_2.length c0_2]] w fun e w' => e = .returned (.bool true) ∧ Below w.heap.size w w' := by
 have HR0_0 := Aside0.mk hr0_0
 have HC0_0 := Aside0.mk hc0_0
 clear hr0_0 hc0_0
 have HR0_1 := Aside0.mk hr0_1
 have HC0_1 := Aside0.mk hc0_1
 clear hr0_1 hc0_1
 have HR0_2 := Aside0.mk hr0_2
 have HC0_2 := Aside0.mk hc0_2
 clear hr0_2 hc0_2
 have HB := Aside0.mk (Below.refl w.heap.size w)
 obtain ⟨s1, hs_, h⟩ := h
 have HS1 := Aside0.mk hs_
 clear hs_
 rcases h with h | ⟨h', h⟩
 ·have f_ : decide (s1 < 0) = true := decide_eq_true h
  clear h
  go_enter Try.func11, Try.ntmps11
  go_wp2_with (first | ((with_reducible refine gate_dst (N := 1) rfl ?_); refine box_event ?hg (N := 1) ?hd (cs := #[.slice A0_0 l0_0.length c0_0, .slice A0_1 l0_1.length c0_1, .slice A0_2 l0_2.length c0_2]) (t := 26) ?hr ?_; (case hd => rfl); (case hg => rfl); (case hr => first | (go_simp; done) | (go_simp; rfl)); intro g_0 hg w1 hbox hb; have nk_ := Aside0.mk hbox; have ne_ := Aside0.mk (Zd : w.heap.size ≤ g_0); have OB0 := Aside0.mk (Zaj : w.heap.size ≤ g_0); clear hbox hg; have nb_ := Aside0.mk (below_step Zc hb); clear HB; have HB := nb_; clear nb_ hb; have BK0 := nk_; have GE0 := ne_; clear nk_ ne_; obtain ⟨hcz1_0, hcz1_1, hcz1_2, hfz1_0, hfz1_1, hfz1_2⟩ := cz3 BK0) | ((with_reducible refine gate_callee (f := 19) rfl ?_); (try (refine gate_guard (by rfl) ?_; dsimp only)); refine goesL_ (some 16) rfl rfl Try.func19 Zj rfl #[.agg #[.slice A0_0 l0_0.length c0_0, .slice A0_1 l0_1.length c0_1, .slice A0_2 l0_2.length c0_2], .int .i64 1000000] rfl Zo ?_; (with_reducible refine (laws_szShow.calls k _ _ l0_0 _ _ l0_1 _ _ l0_2 1000000 s1 _ (Kd.C_below HR0_0.out Zc) HC0_0.out (Kd.C_below HR0_1.out Zc) HC0_1.out (Kd.C_below HR0_2.out Zc) HC0_2.out HS1.out).mono ?_); rintro e w1 ⟨rfl, hb⟩; refine ⟨_, rfl, ?_⟩; have nb_ := Aside0.mk (below_step Zc hb); have nk0_ := Aside0.mk (blk_below (g := g_0) (o := .cells #[.slice A0_0 l0_0.length c0_0, .slice A0_1 l0_1.length c0_1, .slice A0_2 l0_2.length c0_2] 26 (0, 0)) (have z0_ := BK0; Ze) hb); clear HB; have HB := nb_; clear nb_ hb; clear BK0; have BK0 := nk0_; clear nk0_; obtain ⟨hcz2_0, hcz2_1, hcz2_2, hfz2_0, hfz2_1, hfz2_2⟩ := cz3 BK0))
  go_ret
  exact ⟨rfl, Zc⟩
 have fs1 : decide (s1 < 0) = false := decide_eq_false (by omega)
 clear h'
 obtain ⟨L0_0, M0_0, t0_0, L0_1, M0_1, t0_1, L0_2, M0_2, t0_2, q1, q2, q3, h⟩ := h
 have HF := Aside0.mk h
 clear h
 have f1q1 : (q1 != q1) = false := by simp
 have f2q1 : (q1 == q1) = true := by simp
 have f1q2 : (q2 != q2) = false := by simp
 have f2q2 : (q2 == q2) = true := by simp
 have f1q3 : (q3 != q3) = false := by simp
 have f2q3 : (q3 == q3) = true := by simp
 go_enter Try.func11, Try.ntmps11
 go_wp2_with (first | ((with_reducible refine gate_dst (N := 1) rfl ?_); refine box_event ?hg (N := 1) ?hd (cs := #[.slice A0_0 l0_0.length c0_0, .slice A0_1 l0_1.length c0_1, .slice A0_2 l0_2.length c0_2]) (t := 26) ?hr ?_; (case hd => rfl); (case hg => rfl); (case hr => first | (go_simp; done) | (go_simp; rfl)); intro g_0 hg w1 hbox hb; have nk_ := Aside0.mk hbox; have ne_ := Aside0.mk (Zd : w.heap.size ≤ g_0); have OB0 := Aside0.mk (Zaj : w.heap.size ≤ g_0); clear hbox hg; have nb_ := Aside0.mk (below_step Zc hb); clear HB; have HB := nb_; clear nb_ hb; have BK0 := nk_; have GE0 := ne_; clear nk_ ne_; obtain ⟨hcz1_0, hcz1_1, hcz1_2, hfz1_0, hfz1_1, hfz1_2⟩ := cz3 BK0) | ((with_reducible refine gate_callee (f := 19) rfl ?_); (try (refine gate_guard (by rfl) ?_; dsimp only)); refine goesL_ (some 16) rfl rfl Try.func19 Zj rfl #[.agg #[.slice A0_0 l0_0.length c0_0, .slice A0_1 l0_1.length c0_1, .slice A0_2 l0_2.length c0_2], .int .i64 1000000] rfl Zo ?_; (with_reducible refine (laws_szShow.calls k _ _ l0_0 _ _ l0_1 _ _ l0_2 1000000 s1 _ (Kd.C_below HR0_0.out Zc) HC0_0.out (Kd.C_below HR0_1.out Zc) HC0_1.out (Kd.C_below HR0_2.out Zc) HC0_2.out HS1.out).mono ?_); rintro e w1 ⟨rfl, hb⟩; refine ⟨_, rfl, ?_⟩; have nb_ := Aside0.mk (below_step Zc hb); have nk0_ := Aside0.mk (blk_below (g := g_0) (o := .cells #[.slice A0_0 l0_0.length c0_0, .slice A0_1 l0_1.length c0_1, .slice A0_2 l0_2.length c0_2] 26 (0, 0)) (have z0_ := BK0; Ze) hb); clear HB; have HB := nb_; clear nb_ hb; clear BK0; have BK0 := nk0_; clear nk0_; obtain ⟨hcz2_0, hcz2_1, hcz2_2, hfz2_0, hfz2_1, hfz2_2⟩ := cz3 BK0) | ((with_reducible refine gate_callee (f := 21) rfl ?_); (try (refine gate_guard (by rfl) ?_; dsimp only)); refine goesL_ (some 21) rfl rfl Try.func21 Zj rfl #[.agg #[.slice A0_0 l0_0.length c0_0, .slice A0_1 l0_1.length c0_1, .slice A0_2 l0_2.length c0_2], .bool false] rfl Zo ?_; (with_reducible refine (full_toShow.calls k _ _ l0_0 _ _ l0_1 _ _ l0_2 false L0_0 L0_1 L0_2 _ (Kd.C_below HR0_0.out Zc) HC0_0.out (Kd.C_below HR0_1.out Zc) HC0_1.out (Kd.C_below HR0_2.out Zc) HC0_2.out HF.out.fu0 HF.out.ne0_0 HF.out.ne0_1 HF.out.ne0_2).mono ?_); rintro e w1 ⟨a_1, b_1, a_2, b_2, a_3, b_3, he_, ho0, ho1, ho2, hb⟩; rw [← HF.out.ln0_0, ← HF.out.ln0_1, ← HF.out.ln0_2] at he_; subst he_; refine ⟨_, rfl, ?_⟩; obtain ⟨lo1, hi1, hx0_, hx1_, hx2_, ha_, hz_, _⟩ := Ob_mk3 (base := w.heap.size) ho0 ho1 ho2 hb (below_le Zc) (Nat.succ_le_of_lt (blk_lt (have z0_ := BK0; Ze))); have X1 := Aside0.mk hx0_; have X2 := Aside0.mk hx1_; have X3 := Aside0.mk hx2_; have OX1 := Aside0.mk (And.intro ha_ hz_); clear hx0_ hx1_ hx2_ ha_ hz_ ho0 ho1 ho2; have nb_ := Aside0.mk (below_step Zc hb); have nk0_ := Aside0.mk (blk_below (g := g_0) (o := .cells #[.slice A0_0 l0_0.length c0_0, .slice A0_1 l0_1.length c0_1, .slice A0_2 l0_2.length c0_2] 26 (0, 0)) (have z0_ := BK0; Ze) hb); clear HB; have HB := nb_; clear nb_ hb; clear BK0; have BK0 := nk0_; clear nk0_; obtain ⟨hcz3_0, hcz3_1, hcz3_2, hfz3_0, hfz3_1, hfz3_2⟩ := cz3 BK0) | ((with_reducible refine gate_callee (f := 46) rfl ?_); (try (refine gate_guard (by rfl) ?_; dsimp only)); refine goesL_ (some 22) rfl rfl Try.func46 Zj rfl #[.agg #[.slice a_1 M0_0.length b_1, .slice a_2 M0_1.length b_2, .slice a_3 M0_2.length b_3]] rfl Zo ?_; (with_reducible refine (spec_MostAtOnce.calls k _ _ M0_0 _ _ M0_1 _ _ M0_2 q1 q2 q3 _ (fullC (have z0_ := X1; Zbk) HF.out.tk0_0).1 (fullC X1.out HF.out.tk0_0).2.1 (fullC (have z0_ := X2; Zbk) HF.out.tk0_1).1 (fullC X2.out HF.out.tk0_1).2.1 (fullC (have z0_ := X3; Zbk) HF.out.tk0_2).1 (fullC X3.out HF.out.tk0_2).2.1 HF.out.sp).mono ?_); rintro e w1 ⟨rfl, hb⟩; refine ⟨_, rfl, ?_⟩; have n0_ := Aside0.mk (Ob_below (have z0_ := X1; Zbk) hb); have n1_ := Aside0.mk (Ob_below (have z0_ := X2; Zbk) hb); have n2_ := Aside0.mk (Ob_below (have z0_ := X3; Zbk) hb); have nb_ := Aside0.mk (below_step Zc hb); have nk0_ := Aside0.mk (blk_below (g := g_0) (o := .cells #[.slice A0_0 l0_0.length c0_0, .slice A0_1 l0_1.length c0_1, .slice A0_2 l0_2.length c0_2] 26 (0, 0)) (have z0_ := BK0; Ze) hb); clear X1; clear X2; clear X3; clear HB; have X1 := n0_; clear n0_; have X2 := n1_; clear n1_; have X3 := n2_; clear n2_; have HB := nb_; clear nb_ hb; clear BK0; have BK0 := nk0_; clear nk0_; obtain ⟨hcz4_0, hcz4_1, hcz4_2, hfz4_0, hfz4_1, hfz4_2⟩ := cz3 BK0) | ((with_reducible refine gate_callee (f := 21) rfl ?_); (try (refine gate_guard (by rfl) ?_; dsimp only)); refine goesL_ (some 27) rfl rfl Try.func21 Zj rfl #[.agg #[.slice A0_0 l0_0.length c0_0, .slice A0_1 l0_1.length c0_1, .slice A0_2 l0_2.length c0_2], .bool false] rfl Zo ?_; (with_reducible refine (full_toShow.calls k _ _ l0_0 _ _ l0_1 _ _ l0_2 false L0_0 L0_1 L0_2 _ (Kd.C_below HR0_0.out Zc) HC0_0.out (Kd.C_below HR0_1.out Zc) HC0_1.out (Kd.C_below HR0_2.out Zc) HC0_2.out HF.out.fu0 HF.out.ne0_0 HF.out.ne0_1 HF.out.ne0_2).mono ?_); rintro e w1 ⟨a_4, b_4, a_5, b_5, a_6, b_6, he_, ho0, ho1, ho2, hb⟩; rw [← HF.out.ln0_0, ← HF.out.ln0_1, ← HF.out.ln0_2] at he_; subst he_; refine ⟨_, rfl, ?_⟩; obtain ⟨lo4, hi4, hx0_, hx1_, hx2_, ha_, hz_, _⟩ := Ob_mk3 (base := w.heap.size) ho0 ho1 ho2 hb (below_le Zc) (Ob_hi (have z0_ := X1; Zbk)); have X4 := Aside0.mk hx0_; have X5 := Aside0.mk hx1_; have X6 := Aside0.mk hx2_; have OX4 := Aside0.mk (And.intro ha_ hz_); clear hx0_ hx1_ hx2_ ha_ hz_ ho0 ho1 ho2; have n0_ := Aside0.mk (Ob_below (have z0_ := X1; Zbk) hb); have n1_ := Aside0.mk (Ob_below (have z0_ := X2; Zbk) hb); have n2_ := Aside0.mk (Ob_below (have z0_ := X3; Zbk) hb); have nb_ := Aside0.mk (below_step Zc hb); have nk0_ := Aside0.mk (blk_below (g := g_0) (o := .cells #[.slice A0_0 l0_0.length c0_0, .slice A0_1 l0_1.length c0_1, .slice A0_2 l0_2.length c0_2] 26 (0, 0)) (have z0_ := BK0; Ze) hb); clear X1; clear X2; clear X3; clear HB; have X1 := n0_; clear n0_; have X2 := n1_; clear n1_; have X3 := n2_; clear n2_; have HB := nb_; clear nb_ hb; clear BK0; have BK0 := nk0_; clear nk0_; obtain ⟨hcz5_0, hcz5_1, hcz5_2, hfz5_0, hfz5_1, hfz5_2⟩ := cz3 BK0) | ((with_reducible refine gate_dst (N := 7) rfl ?_); refine box_event ?hg (N := 7) ?hd (cs := #[.slice none 0 0, .slice none 0 0, .slice none 0 0]) (t := 32) ?hr ?_; (case hd => rfl); (case hg => rfl); (case hr => first | (go_simp; done) | (go_simp; rfl)); intro g_91 hg w1 hbox hb; have nk_ := Aside0.mk hbox; have ne_ := Aside0.mk (Zd : w.heap.size ≤ g_91); have OB91 := Aside0.mk (by rw [hg]; exact (Ob_hi (have z0_ := X4; Zbk)) : hi4 ≤ g_91); clear hbox hg; have n0_ := Aside0.mk (Ob_below (have z0_ := X1; Zbk) hb); have n1_ := Aside0.mk (Ob_below (have z0_ := X2; Zbk) hb); have n2_ := Aside0.mk (Ob_below (have z0_ := X3; Zbk) hb); have n3_ := Aside0.mk (Ob_below (have z0_ := X4; Zbk) hb); have n4_ := Aside0.mk (Ob_below (have z0_ := X5; Zbk) hb); have n5_ := Aside0.mk (Ob_below (have z0_ := X6; Zbk) hb); have nb_ := Aside0.mk (below_step Zc hb); have nk0_ := Aside0.mk (blk_below (g := g_0) (o := .cells #[.slice A0_0 l0_0.length c0_0, .slice A0_1 l0_1.length c0_1, .slice A0_2 l0_2.length c0_2] 26 (0, 0)) (have z0_ := BK0; Ze) hb); clear X1; clear X2; clear X3; clear X4; clear X5; clear X6; clear HB; have X1 := n0_; clear n0_; have X2 := n1_; clear n1_; have X3 := n2_; clear n2_; have X4 := n3_; clear n3_; have X5 := n4_; clear n4_; have X6 := n5_; clear n5_; have HB := nb_; clear nb_ hb; clear BK0; have BK0 := nk0_; clear nk0_; obtain ⟨hcz6_0, hcz6_1, hcz6_2, hfz6_0, hfz6_1, hfz6_2⟩ := cz3 BK0; have BK91 := nk_; have GE91 := ne_; clear nk_ ne_; skip) | ((with_reducible refine gate_store (t := 32) (p := 7) rfl ?_); obtain ⟨hcz7_0, hcz7_1, hcz7_2, hfz7_0, hfz7_1, hfz7_2⟩ := cz3 BK91; refine store_event (t := 32) (p := 7) (v := ?vo) (w1 := (((w1.setCell ⟨g_91, 0, none⟩ (.slice a_4 M0_0.length b_4)).setCell ⟨g_91, 1, none⟩ (.slice a_5 M0_1.length b_5)).setCell ⟨g_91, 2, none⟩ (.slice a_6 M0_2.length b_6))) ?hg ?ho ?hn ?hr ?_; (case ho => rfl); (case hg => rfl); (case hn => rfl); (case hr => first | (go_simp; done) | (go_simp; rfl)); intro w2 hw; clear hcz7_0 hfz7_0 hcz7_1 hfz7_1 hcz7_2 hfz7_2; have n0_ := Aside0.mk (Ob_set (g := g_91) (j := 2) (Ob_set (g := g_91) (j := 1) (Ob_set (g := g_91) (j := 0) (X1.out) Zbl (.slice a_4 M0_0.length b_4)) Zbl (.slice a_5 M0_1.length b_5)) Zbl (.slice a_6 M0_2.length b_6)); rw [← hw] at n0_; have n1_ := Aside0.mk (Ob_set (g := g_91) (j := 2) (Ob_set (g := g_91) (j := 1) (Ob_set (g := g_91) (j := 0) (X2.out) Zbl (.slice a_4 M0_0.length b_4)) Zbl (.slice a_5 M0_1.length b_5)) Zbl (.slice a_6 M0_2.length b_6)); rw [← hw] at n1_; have n2_ := Aside0.mk (Ob_set (g := g_91) (j := 2) (Ob_set (g := g_91) (j := 1) (Ob_set (g := g_91) (j := 0) (X3.out) Zbl (.slice a_4 M0_0.length b_4)) Zbl (.slice a_5 M0_1.length b_5)) Zbl (.slice a_6 M0_2.length b_6)); rw [← hw] at n2_; have n3_ := Aside0.mk (Ob_set (g := g_91) (j := 2) (Ob_set (g := g_91) (j := 1) (Ob_set (g := g_91) (j := 0) (X4.out) Zbl (.slice a_4 M0_0.length b_4)) Zbl (.slice a_5 M0_1.length b_5)) Zbl (.slice a_6 M0_2.length b_6)); rw [← hw] at n3_; have n4_ := Aside0.mk (Ob_set (g := g_91) (j := 2) (Ob_set (g := g_91) (j := 1) (Ob_set (g := g_91) (j := 0) (X5.out) Zbl (.slice a_4 M0_0.length b_4)) Zbl (.slice a_5 M0_1.length b_5)) Zbl (.slice a_6 M0_2.length b_6)); rw [← hw] at n4_; have n5_ := Aside0.mk (Ob_set (g := g_91) (j := 2) (Ob_set (g := g_91) (j := 1) (Ob_set (g := g_91) (j := 0) (X6.out) Zbl (.slice a_4 M0_0.length b_4)) Zbl (.slice a_5 M0_1.length b_5)) Zbl (.slice a_6 M0_2.length b_6)); rw [← hw] at n5_; have nb_ : Aside0 (Below w.heap.size w w2) := ⟨by rw [hw]; exact below_set (below_set (below_set (HB.out) GE91.out) GE91.out) GE91.out⟩; have nk0_ : Aside0 (w2.heap[g_0]? = some (.cells #[.slice A0_0 l0_0.length c0_0, .slice A0_1 l0_1.length c0_1, .slice A0_2 l0_2.length c0_2] 26 (0, 0))) := ⟨by rw [hw]; exact blk_far (blk_far (blk_far (BK0.out) (show g_0 ≠ g_91 from Zbl) _) (show g_0 ≠ g_91 from Zbl) _) (show g_0 ≠ g_91 from Zbl) _⟩; have nk91_ : Aside0 (w2.heap[g_91]? = some (.cells #[.slice a_4 M0_0.length b_4, .slice a_5 M0_1.length b_5, .slice a_6 M0_2.length b_6] 32 (0, 0))) := ⟨by rw [hw]; exact blk_put (cs := #[.slice a_4 M0_0.length b_4, .slice a_5 M0_1.length b_5, .slice none 0 0]) (blk_put (cs := #[.slice a_4 M0_0.length b_4, .slice none 0 0, .slice none 0 0]) (blk_put (cs := #[.slice none 0 0, .slice none 0 0, .slice none 0 0]) (BK91.out) 0 _ rfl) 1 _ rfl) 2 _ rfl⟩; clear X1; clear X2; clear X3; clear X4; clear X5; clear X6; clear HB; have X1 := n0_; clear n0_; have X2 := n1_; clear n1_; have X3 := n2_; clear n2_; have X4 := n3_; clear n3_; have X5 := n4_; clear n4_; have X6 := n5_; clear n5_; have HB := nb_; clear nb_ hw; clear BK0; have BK0 := nk0_; clear nk0_; clear BK91; have BK91 := nk91_; clear nk91_; obtain ⟨hcz8_0, hcz8_1, hcz8_2, hfz8_0, hfz8_1, hfz8_2⟩ := cz3 BK0; obtain ⟨hcz9_0, hcz9_1, hcz9_2, hfz9_0, hfz9_1, hfz9_2⟩ := cz3 BK91) | ((with_reducible refine gate_callee (f := 47) rfl ?_); (try (refine gate_guard (by rfl) ?_; dsimp only)); refine goesL_ (some 30) rfl rfl Try.func47 Zj rfl #[.agg #[.slice a_4 M0_0.length b_4, .slice a_5 M0_1.length b_5, .slice a_6 M0_2.length b_6]] rfl Zo ?_; (with_reducible refine (impl_MostAtOnce.calls k _ _ M0_0 _ _ M0_1 _ _ M0_2 q1 q2 q3 _ (fullC (have z0_ := X4; Zbk) HF.out.tk0_0).1 (fullC X4.out HF.out.tk0_0).2.1 (fullC (have z0_ := X5; Zbk) HF.out.tk0_1).1 (fullC X5.out HF.out.tk0_1).2.1 (fullC (have z0_ := X6; Zbk) HF.out.tk0_2).1 (fullC X6.out HF.out.tk0_2).2.1 HF.out.im).mono ?_); rintro e w1 ⟨rfl, hb⟩; refine ⟨_, rfl, ?_⟩; have n0_ := Aside0.mk (Ob_below (have z0_ := X1; Zbk) hb); have n1_ := Aside0.mk (Ob_below (have z0_ := X2; Zbk) hb); have n2_ := Aside0.mk (Ob_below (have z0_ := X3; Zbk) hb); have n3_ := Aside0.mk (Ob_below (have z0_ := X4; Zbk) hb); have n4_ := Aside0.mk (Ob_below (have z0_ := X5; Zbk) hb); have n5_ := Aside0.mk (Ob_below (have z0_ := X6; Zbk) hb); have nb_ := Aside0.mk (below_step Zc hb); have nk0_ := Aside0.mk (blk_below (g := g_0) (o := .cells #[.slice A0_0 l0_0.length c0_0, .slice A0_1 l0_1.length c0_1, .slice A0_2 l0_2.length c0_2] 26 (0, 0)) (have z0_ := BK0; Ze) hb); have nk91_ := Aside0.mk (blk_below (g := g_91) (o := .cells #[.slice a_4 M0_0.length b_4, .slice a_5 M0_1.length b_5, .slice a_6 M0_2.length b_6] 32 (0, 0)) (have z0_ := BK91; Ze) hb); clear X1; clear X2; clear X3; clear X4; clear X5; clear X6; clear HB; have X1 := n0_; clear n0_; have X2 := n1_; clear n1_; have X3 := n2_; clear n2_; have X4 := n3_; clear n3_; have X5 := n4_; clear n4_; have X6 := n5_; clear n5_; have HB := nb_; clear nb_ hb; clear BK0; have BK0 := nk0_; clear nk0_; clear BK91; have BK91 := nk91_; clear nk91_; obtain ⟨hcz10_0, hcz10_1, hcz10_2, hfz10_0, hfz10_1, hfz10_2⟩ := cz3 BK0; obtain ⟨hcz11_0, hcz11_1, hcz11_2, hfz11_0, hfz11_1, hfz11_2⟩ := cz3 BK91))
 refine start_w (n := 5) (S := fun w' => w'.cell? ⟨g_91, 0, none⟩ = some (.slice a_4 M0_0.length b_4) ∧ w'.cell? ⟨g_91, 1, none⟩ = some (.slice a_5 M0_1.length b_5) ∧ w'.cell? ⟨g_91, 2, none⟩ = some (.slice a_6 M0_2.length b_6) ∧ w'.cell? ⟨g_0, 0, none⟩ = some (.slice A0_0 l0_0.length c0_0) ∧ w'.cell? ⟨g_0, 1, none⟩ = some (.slice A0_1 l0_1.length c0_1) ∧ w'.cell? ⟨g_0, 2, none⟩ = some (.slice A0_2 l0_2.length c0_2)) (ds := []) (bT 5 0) Zj rfl rfl (fun w1 hb => ?_)
 have n0_ := Aside0.mk (Ob_below (have z0_ := X1; Zbk) hb); have n1_ := Aside0.mk (Ob_below (have z0_ := X2; Zbk) hb); have n2_ := Aside0.mk (Ob_below (have z0_ := X3; Zbk) hb); have n3_ := Aside0.mk (Ob_below (have z0_ := X4; Zbk) hb); have n4_ := Aside0.mk (Ob_below (have z0_ := X5; Zbk) hb); have n5_ := Aside0.mk (Ob_below (have z0_ := X6; Zbk) hb); have nb_ := Aside0.mk (below_step Zc hb); have nk0_ := Aside0.mk (blk_below (g := g_0) (o := .cells #[.slice A0_0 l0_0.length c0_0, .slice A0_1 l0_1.length c0_1, .slice A0_2 l0_2.length c0_2] 26 (0, 0)) (have z0_ := BK0; Ze) hb); have nk91_ := Aside0.mk (blk_below (g := g_91) (o := .cells #[.slice a_4 M0_0.length b_4, .slice a_5 M0_1.length b_5, .slice a_6 M0_2.length b_6] 32 (0, 0)) (have z0_ := BK91; Ze) hb); clear X1; clear X2; clear X3; clear X4; clear X5; clear X6; clear HB; have X1 := n0_; clear n0_; have X2 := n1_; clear n1_; have X3 := n2_; clear n2_; have X4 := n3_; clear n3_; have X5 := n4_; clear n4_; have X6 := n5_; clear n5_; have HB := nb_; clear nb_ hb; clear BK0; have BK0 := nk0_; clear nk0_; clear BK91; have BK91 := nk91_; clear nk91_; obtain ⟨hcz12_0, hcz12_1, hcz12_2, hfz12_0, hfz12_1, hfz12_2⟩ := cz3 BK0; obtain ⟨hcz13_0, hcz13_1, hcz13_2, hfz13_0, hfz13_1, hfz13_2⟩ := cz3 BK91
 refine ⟨⟨(blk_cell BK91.out 0).trans rfl, (blk_cell BK91.out 1).trans rfl, (blk_cell BK91.out 2).trans rfl, (blk_cell BK0.out 0).trans rfl, (blk_cell BK0.out 1).trans rfl, (blk_cell BK0.out 2).trans rfl⟩, fun hHeld => ?_⟩
 refine with_tabW law_FnExactMostAtOnce.tab law_FnExactMostAtOnce.bits (fun HT_ HW_ => ?_)
 refine take_ (i := 0) (N := some 47) (v := ?_) (a' := ?_) (bT 5 1) rfl rfl (take_ofW HT_.out HW_.out Zj) (fun _ _ _ h => h) (Or.inl ⟨by rfl, ?_⟩) hHeld ?_ ?_
 rotate_left
 ·rintro w' ⟨s0, s1, s2, s3, s4, s5⟩
  go_simp
  with_reducible rfl
 rotate_left
 ·exact Zput
 refine take_ (i := 1) (N := some 48) (v := ?_) (a' := ?_) (bT 5 2) rfl rfl (take_ofW HT_.out HW_.out Zj) (fun _ _ _ h => h) (Or.inl ⟨by rfl, ?_⟩) hHeld ?_ ?_
 rotate_left
 ·rintro w' ⟨s0, s1, s2, s3, s4, s5⟩
  go_simp
  with_reducible rfl
 rotate_left
 ·exact Zput
 refine one_ (i := 2) (N := some 49) (bT 5 3) rfl rfl (one_of HT_.out Zj) (by decide) (fun K hK => ?_)
 refine goes_ Try.func21 Zj rfl #[.agg #[.slice A0_0 l0_0.length c0_0, .slice A0_1 l0_1.length c0_1, .slice A0_2 l0_2.length c0_2], .bool false] (by rfl) rfl rfl Zo ?_
 (with_reducible refine (full_toShow.calls k _ _ l0_0 _ _ l0_1 _ _ l0_2 false L0_0 L0_1 L0_2 _ (Kd.C_below HR0_0.out Zc) HC0_0.out (Kd.C_below HR0_1.out Zc) HC0_1.out (Kd.C_below HR0_2.out Zc) HC0_2.out HF.out.fu0 HF.out.ne0_0 HF.out.ne0_1 HF.out.ne0_2).mono ?_)
 rintro e w1 ⟨a_7, b_7, a_8, b_8, a_9, b_9, he_, ho0, ho1, ho2, hb⟩; rw [← HF.out.ln0_0, ← HF.out.ln0_1, ← HF.out.ln0_2] at he_; subst he_; refine ⟨_, rfl, ?_⟩; obtain ⟨lo7, hi7, hx0_, hx1_, hx2_, ha_, hz_, _⟩ := Ob_mk3 (base := w.heap.size) ho0 ho1 ho2 hb (below_le Zc) (Nat.succ_le_of_lt (blk_lt (have z0_ := BK91; Ze))); have X7 := Aside0.mk hx0_; have X8 := Aside0.mk hx1_; have X9 := Aside0.mk hx2_; have OX7 := Aside0.mk (And.intro ha_ hz_); clear hx0_ hx1_ hx2_ ha_ hz_ ho0 ho1 ho2; have n0_ := Aside0.mk (Ob_below (have z0_ := X1; Zbk) hb); have n1_ := Aside0.mk (Ob_below (have z0_ := X2; Zbk) hb); have n2_ := Aside0.mk (Ob_below (have z0_ := X3; Zbk) hb); have n3_ := Aside0.mk (Ob_below (have z0_ := X4; Zbk) hb); have n4_ := Aside0.mk (Ob_below (have z0_ := X5; Zbk) hb); have n5_ := Aside0.mk (Ob_below (have z0_ := X6; Zbk) hb); have nb_ := Aside0.mk (below_step Zc hb); have nk0_ := Aside0.mk (blk_below (g := g_0) (o := .cells #[.slice A0_0 l0_0.length c0_0, .slice A0_1 l0_1.length c0_1, .slice A0_2 l0_2.length c0_2] 26 (0, 0)) (have z0_ := BK0; Ze) hb); have nk91_ := Aside0.mk (blk_below (g := g_91) (o := .cells #[.slice a_4 M0_0.length b_4, .slice a_5 M0_1.length b_5, .slice a_6 M0_2.length b_6] 32 (0, 0)) (have z0_ := BK91; Ze) hb); clear X1; clear X2; clear X3; clear X4; clear X5; clear X6; clear HB; have X1 := n0_; clear n0_; have X2 := n1_; clear n1_; have X3 := n2_; clear n2_; have X4 := n3_; clear n3_; have X5 := n4_; clear n4_; have X6 := n5_; clear n5_; have HB := nb_; clear nb_ hb; clear BK0; have BK0 := nk0_; clear nk0_; clear BK91; have BK91 := nk91_; clear nk91_; obtain ⟨hcz14_0, hcz14_1, hcz14_2, hfz14_0, hfz14_1, hfz14_2⟩ := cz3 BK0; obtain ⟨hcz15_0, hcz15_1, hcz15_2, hfz15_0, hfz15_1, hfz15_2⟩ := cz3 BK91
 clear hHeld
 refine hK.out _ _ ⟨(blk_cell BK91.out 0).trans rfl, (blk_cell BK91.out 1).trans rfl, (blk_cell BK91.out 2).trans rfl, (blk_cell BK0.out 0).trans rfl, (blk_cell BK0.out 1).trans rfl, (blk_cell BK0.out 2).trans rfl⟩ (fun hHeld => ?_)
 clear hK K
 refine norm_ (a' := ?_) ?_ ?_
 rotate_left
 ·show Act.put _ (some 49) _ = _
  simp only [Act.put, List.setIfInBounds_toArray, List.set_cons_zero, List.set_cons_succ, i64_w, i32_w]
  rfl
 refine one_ (i := 3) (N := some 50) (bT 5 4) rfl rfl (one_of HT_.out Zj) (by decide) (fun K hK => ?_)
 refine goes_ Try.func24 Zj rfl #[.agg #[.slice a_4 M0_0.length b_4, .slice a_5 M0_1.length b_5, .slice a_6 M0_2.length b_6], .agg #[.slice a_7 M0_0.length b_7, .slice a_8 M0_1.length b_8, .slice a_9 M0_2.length b_9]] (by rfl) rfl rfl Zo ?_
 (with_reducible refine (same_intactShow k M0_0.length M0_1.length M0_2.length _ _ _ _ _ _ _ _ _ _ _ _ L0_0 L0_1 L0_2 t0_0 t0_1 t0_2 _ (fullC (have z0_ := X4; Zbk) HF.out.tk0_0).2.2.2 (fullC X4.out HF.out.tk0_0).2.2.1 (fullC (have z0_ := X7; Zbk) HF.out.tk0_0).2.2.2 (fullC X7.out HF.out.tk0_0).2.2.1 HF.out.rm0_0 HF.out.jn0_0 HF.out.eq0_0 (fullC (have z0_ := X5; Zbk) HF.out.tk0_1).2.2.2 (fullC X5.out HF.out.tk0_1).2.2.1 (fullC (have z0_ := X8; Zbk) HF.out.tk0_1).2.2.2 (fullC X8.out HF.out.tk0_1).2.2.1 HF.out.rm0_1 HF.out.jn0_1 HF.out.eq0_1 (fullC (have z0_ := X6; Zbk) HF.out.tk0_2).2.2.2 (fullC X6.out HF.out.tk0_2).2.2.1 (fullC (have z0_ := X9; Zbk) HF.out.tk0_2).2.2.2 (fullC X9.out HF.out.tk0_2).2.2.1 HF.out.rm0_2 HF.out.jn0_2 HF.out.eq0_2).mono ?_)
 rintro e w1 ⟨rfl, hb⟩; refine ⟨_, rfl, ?_⟩; have n0_ := Aside0.mk (Ob_below (have z0_ := X1; Zbk) hb); have n1_ := Aside0.mk (Ob_below (have z0_ := X2; Zbk) hb); have n2_ := Aside0.mk (Ob_below (have z0_ := X3; Zbk) hb); have n3_ := Aside0.mk (Ob_below (have z0_ := X4; Zbk) hb); have n4_ := Aside0.mk (Ob_below (have z0_ := X5; Zbk) hb); have n5_ := Aside0.mk (Ob_below (have z0_ := X6; Zbk) hb); have n6_ := Aside0.mk (Ob_below (have z0_ := X7; Zbk) hb); have n7_ := Aside0.mk (Ob_below (have z0_ := X8; Zbk) hb); have n8_ := Aside0.mk (Ob_below (have z0_ := X9; Zbk) hb); have nb_ := Aside0.mk (below_step Zc hb); have nk0_ := Aside0.mk (blk_below (g := g_0) (o := .cells #[.slice A0_0 l0_0.length c0_0, .slice A0_1 l0_1.length c0_1, .slice A0_2 l0_2.length c0_2] 26 (0, 0)) (have z0_ := BK0; Ze) hb); have nk91_ := Aside0.mk (blk_below (g := g_91) (o := .cells #[.slice a_4 M0_0.length b_4, .slice a_5 M0_1.length b_5, .slice a_6 M0_2.length b_6] 32 (0, 0)) (have z0_ := BK91; Ze) hb); clear X1; clear X2; clear X3; clear X4; clear X5; clear X6; clear X7; clear X8; clear X9; clear HB; have X1 := n0_; clear n0_; have X2 := n1_; clear n1_; have X3 := n2_; clear n2_; have X4 := n3_; clear n3_; have X5 := n4_; clear n4_; have X6 := n5_; clear n5_; have X7 := n6_; clear n6_; have X8 := n7_; clear n7_; have X9 := n8_; clear n8_; have HB := nb_; clear nb_ hb; clear BK0; have BK0 := nk0_; clear nk0_; clear BK91; have BK91 := nk91_; clear nk91_; obtain ⟨hcz16_0, hcz16_1, hcz16_2, hfz16_0, hfz16_1, hfz16_2⟩ := cz3 BK0; obtain ⟨hcz17_0, hcz17_1, hcz17_2, hfz17_0, hfz17_1, hfz17_2⟩ := cz3 BK91
 clear hHeld
 refine hK.out _ _ ⟨(blk_cell BK91.out 0).trans rfl, (blk_cell BK91.out 1).trans rfl, (blk_cell BK91.out 2).trans rfl, (blk_cell BK0.out 0).trans rfl, (blk_cell BK0.out 1).trans rfl, (blk_cell BK0.out 2).trans rfl⟩ (fun hHeld => ?_)
 clear hK K
 refine norm_ (a' := ?_) ?_ ?_
 rotate_left
 ·show Act.put _ (some 50) _ = _
  simp only [Act.put, List.setIfInBounds_toArray, List.set_cons_zero, List.set_cons_succ, i64_w, i32_w]
  rfl
 refine pureZ HT_ 4 (some 51) (bT 5 5) ?_
 refine done_ (done_of HT_.out Zj) ?_
 clear hHeld HT_ HW_
 go_wp2_with (first | ((with_reducible refine gate_callee (f := 21) rfl ?_); (try (refine gate_guard (by rfl) ?_; dsimp only)); refine goesL_ (some 54) rfl rfl Try.func21 Zj rfl #[.agg #[.slice A0_0 l0_0.length c0_0, .slice A0_1 l0_1.length c0_1, .slice A0_2 l0_2.length c0_2], .bool true] rfl Zo ?_; (with_reducible refine (laws_toShow.calls k _ _ l0_0 _ _ l0_1 _ _ l0_2 true M0_0 M0_1 M0_2 _ (Kd.C_below HR0_0.out Zc) HC0_0.out (Kd.C_below HR0_1.out Zc) HC0_1.out (Kd.C_below HR0_2.out Zc) HC0_2.out HF.out.to0).mono ?_); rintro e w1 ⟨v0_, v1_, v2_, rfl, ho0, ho1, ho2, hb⟩; refine ⟨_, rfl, ?_⟩; obtain ⟨lo10, hi10, hx0_, hx1_, hx2_, ha_, hz_, _⟩ := Ob_mk3 (base := w.heap.size) ho0 ho1 ho2 hb (below_le Zc) (Ob_hi (have z0_ := X7; Zbk)); have X10 := Aside0.mk hx0_; have X11 := Aside0.mk hx1_; have X12 := Aside0.mk hx2_; have OX10 := Aside0.mk (And.intro ha_ hz_); clear hx0_ hx1_ hx2_ ha_ hz_ ho0 ho1 ho2; have n0_ := Aside0.mk (Ob_below (have z0_ := X1; Zbk) hb); have n1_ := Aside0.mk (Ob_below (have z0_ := X2; Zbk) hb); have n2_ := Aside0.mk (Ob_below (have z0_ := X3; Zbk) hb); have n3_ := Aside0.mk (Ob_below (have z0_ := X4; Zbk) hb); have n4_ := Aside0.mk (Ob_below (have z0_ := X5; Zbk) hb); have n5_ := Aside0.mk (Ob_below (have z0_ := X6; Zbk) hb); have n6_ := Aside0.mk (Ob_below (have z0_ := X7; Zbk) hb); have n7_ := Aside0.mk (Ob_below (have z0_ := X8; Zbk) hb); have n8_ := Aside0.mk (Ob_below (have z0_ := X9; Zbk) hb); have nb_ := Aside0.mk (below_step Zc hb); have nk0_ := Aside0.mk (blk_below (g := g_0) (o := .cells #[.slice A0_0 l0_0.length c0_0, .slice A0_1 l0_1.length c0_1, .slice A0_2 l0_2.length c0_2] 26 (0, 0)) (have z0_ := BK0; Ze) hb); have nk91_ := Aside0.mk (blk_below (g := g_91) (o := .cells #[.slice a_4 M0_0.length b_4, .slice a_5 M0_1.length b_5, .slice a_6 M0_2.length b_6] 32 (0, 0)) (have z0_ := BK91; Ze) hb); clear X1; clear X2; clear X3; clear X4; clear X5; clear X6; clear X7; clear X8; clear X9; clear HB; have X1 := n0_; clear n0_; have X2 := n1_; clear n1_; have X3 := n2_; clear n2_; have X4 := n3_; clear n3_; have X5 := n4_; clear n4_; have X6 := n5_; clear n5_; have X7 := n6_; clear n6_; have X8 := n7_; clear n7_; have X9 := n8_; clear n8_; have HB := nb_; clear nb_ hb; clear BK0; have BK0 := nk0_; clear nk0_; clear BK91; have BK91 := nk91_; clear nk91_; obtain ⟨hcz18_0, hcz18_1, hcz18_2, hfz18_0, hfz18_1, hfz18_2⟩ := cz3 BK0; obtain ⟨hcz19_0, hcz19_1, hcz19_2, hfz19_0, hfz19_1, hfz19_2⟩ := cz3 BK91; obtain ⟨a_10, b_10, e_⟩ := Ob_slice X10.out; subst e_; obtain ⟨a_11, b_11, e_⟩ := Ob_slice X11.out; subst e_; obtain ⟨a_12, b_12, e_⟩ := Ob_slice X12.out; subst e_) | ((with_reducible refine gate_callee (f := 47) rfl ?_); (try (refine gate_guard (by rfl) ?_; dsimp only)); refine goesL_ (some 55) rfl rfl Try.func47 Zj rfl #[.agg #[.slice a_10 M0_0.length b_10, .slice a_11 M0_1.length b_11, .slice a_12 M0_2.length b_12]] rfl Zo ?_; (with_reducible refine (impl_MostAtOnce.calls k _ _ M0_0 _ _ M0_1 _ _ M0_2 q1 q2 q3 _ (Ob_C (have z0_ := X10; Zbk)).2.2 (Ob_C X10.out).2.1 (Ob_C (have z0_ := X11; Zbk)).2.2 (Ob_C X11.out).2.1 (Ob_C (have z0_ := X12; Zbk)).2.2 (Ob_C X12.out).2.1 HF.out.im).mono ?_); rintro e w1 ⟨rfl, hb⟩; refine ⟨_, rfl, ?_⟩; have n0_ := Aside0.mk (Ob_below (have z0_ := X1; Zbk) hb); have n1_ := Aside0.mk (Ob_below (have z0_ := X2; Zbk) hb); have n2_ := Aside0.mk (Ob_below (have z0_ := X3; Zbk) hb); have n3_ := Aside0.mk (Ob_below (have z0_ := X4; Zbk) hb); have n4_ := Aside0.mk (Ob_below (have z0_ := X5; Zbk) hb); have n5_ := Aside0.mk (Ob_below (have z0_ := X6; Zbk) hb); have n6_ := Aside0.mk (Ob_below (have z0_ := X7; Zbk) hb); have n7_ := Aside0.mk (Ob_below (have z0_ := X8; Zbk) hb); have n8_ := Aside0.mk (Ob_below (have z0_ := X9; Zbk) hb); have n9_ := Aside0.mk (Ob_below (have z0_ := X10; Zbk) hb); have n10_ := Aside0.mk (Ob_below (have z0_ := X11; Zbk) hb); have n11_ := Aside0.mk (Ob_below (have z0_ := X12; Zbk) hb); have nb_ := Aside0.mk (below_step Zc hb); have nk0_ := Aside0.mk (blk_below (g := g_0) (o := .cells #[.slice A0_0 l0_0.length c0_0, .slice A0_1 l0_1.length c0_1, .slice A0_2 l0_2.length c0_2] 26 (0, 0)) (have z0_ := BK0; Ze) hb); have nk91_ := Aside0.mk (blk_below (g := g_91) (o := .cells #[.slice a_4 M0_0.length b_4, .slice a_5 M0_1.length b_5, .slice a_6 M0_2.length b_6] 32 (0, 0)) (have z0_ := BK91; Ze) hb); clear X1; clear X2; clear X3; clear X4; clear X5; clear X6; clear X7; clear X8; clear X9; clear X10; clear X11; clear X12; clear HB; have X1 := n0_; clear n0_; have X2 := n1_; clear n1_; have X3 := n2_; clear n2_; have X4 := n3_; clear n3_; have X5 := n4_; clear n4_; have X6 := n5_; clear n5_; have X7 := n6_; clear n6_; have X8 := n7_; clear n7_; have X9 := n8_; clear n8_; have X10 := n9_; clear n9_; have X11 := n10_; clear n10_; have X12 := n11_; clear n11_; have HB := nb_; clear nb_ hb; clear BK0; have BK0 := nk0_; clear nk0_; clear BK91; have BK91 := nk91_; clear nk91_; obtain ⟨hcz20_0, hcz20_1, hcz20_2, hfz20_0, hfz20_1, hfz20_2⟩ := cz3 BK0; obtain ⟨hcz21_0, hcz21_1, hcz21_2, hfz21_0, hfz21_1, hfz21_2⟩ := cz3 BK91))
 go_ret
 exact ⟨rfl, Zc⟩
end Go.Proofs.Ytnlbaflbhicooaa.F
namespace Go.Proofs.Ytnlbaflbhicooaa.F
open Go.RowKit Go.Proofs.YtnlbaflbhicooaaW.PrintWords Go.Proofs.YtnlbaflbhicooaaW.PrintLast Go.Proofs.YtnlbaflbhicooaaW.PrintMore
set_option linter.unusedVariables false
set_option linter.unusedSimpArgs false
def Evt (P : Nat → Prop) : Prop := ∃ K, ∀ k, K ≤ k → P k
theorem Evt.and {P Q : Nat → Prop} (h : Evt P) (h' : Evt Q) : Evt (fun k => P k ∧ Q k) := by
 obtain ⟨K, h⟩ := h
 obtain ⟨K', h'⟩ := h'
 exact ⟨K + K', fun k hk => ⟨h k (by omega), h' k (by omega)⟩⟩
theorem Evt.mono {P Q : Nat → Prop} (h : Evt P) (hq : ∀ k, P k → Q k) : Evt Q := by
 obtain ⟨K, h⟩ := h
 exact ⟨K, fun k hk => hq k (h k hk)⟩
theorem Evt.of {P : Nat → Prop} (h : ∀ k, P k) : Evt P := ⟨0, fun k _ => h k⟩
theorem Evt.ex {P : Nat → Prop} (h : Evt P) : ∃ k, P k := by
 obtain ⟨K, h⟩ := h
 exact ⟨K, h K (Nat.le_refl _)⟩
theorem Evt.succ {P : Nat → Prop} (h : Evt (fun k => P (k + 1))) : Evt P := by
 obtain ⟨K, h⟩ := h
 refine ⟨K + 1, fun k hk => ?_⟩
 obtain ⟨m, rfl⟩ : ∃ m, k = m + 1 := ⟨k - 1, by omega⟩
 exact h m (by omega)
theorem w64 {n : Int} (h : -9223372036854775808 ≤ n ∧ n ≤ 9223372036854775807) : wrap64 n = n := by unfold wrap64; omega
theorem room_some (n : Nat) : ∃ t : Int, laws_roomBehind.f (n : Int) = some t ∧ 0 ≤ t ∧ t ≤ n + 1 ∧ (n = 0 → 1 ≤ t) := by
 unfold laws_roomBehind.f
 have h6 : Int.tmod (n : Int) 6 = (n : Int) % 6 := Int.tmod_eq_emod_of_nonneg (by omega)
 have h3 : Int.tmod (n : Int) 3 = (n : Int) % 3 := Int.tmod_eq_emod_of_nonneg (by omega)
 rw [h6, h3]
 by_cases a : (n : Int) % 6 = 5
 ·rw [if_pos a]
  exact ⟨0, rfl, by omega, by omega, by omega⟩
 ·rw [if_neg a]
  by_cases b : (n : Int) % 3 = 0
  ·rw [if_pos b]
   exact ⟨1, rfl, by omega, by omega, by omega⟩
  ·rw [if_neg b]
   exact ⟨n, rfl, by omega, by omega, by omega⟩
theorem getD_at {α : Type} (xs : List α) (z : α) (i : Nat) (h : i < xs.length) : xs.getD ((i : Int)).toNat z = xs[i] := by
 rw [Int.toNat_natCast, List.getD_eq_getElem?_getD, List.getElem?_eq_getElem h]; rfl
theorem take_set_ge {α : Type} (xs : List α) (n i : Nat) (v : α) (h : n ≤ i) : (xs.set i v).take n = xs.take n := by
 apply List.ext_getElem?
 intro j
 simp only [List.getElem?_take, List.getElem?_set]
 by_cases hj : j < n
 ·rw [if_pos hj, if_pos hj, if_neg (by omega)]
 ·rw [if_neg hj, if_neg hj]
theorem take_set_snoc {α : Type} (xs : List α) (i : Nat) (v : α) (h : i < xs.length) : (xs.set i v).take (i + 1) = xs.take i ++ [v] := by
 rw [List.take_succ_eq_append_getElem (by simpa using h), take_set_ge _ _ _ _ (Nat.le_refl _), List.getElem_set_self]
def allF (p : Nat → Bool) : Nat → Nat → Bool
 | _, 0 => true
 | i, d + 1 => p i && allF p (i + 1) d
theorem allF_true {p : Nat → Bool} : ∀ (d i : Nat), allF p i d = true ↔ ∀ j, i ≤ j → j < i + d → p j = true
 | 0, i => by simp [allF]; intro j h1 h2; omega
 | d + 1, i => by
  unfold allF
  rw [Bool.and_eq_true, allF_true d (i + 1)]
  constructor
  ·rintro ⟨h1, h2⟩ j h3 h4
   rcases Nat.eq_or_lt_of_le h3 with e | e
   ·exact e ▸ h1
   ·exact h2 j e (by omega)
  ·exact fun h => ⟨h i (Nat.le_refl _) (by omega), fun j h1 h2 => h j (by omega) (by omega)⟩
theorem all_loopF {f : Nat → Nat → Option Bool} {p : Nat → Bool} {e : Bool} (a n : Nat) (hs : ∀ k i, a ≤ i → i < n → f (k + 1) i = if p i = true then f k (i + 1) else some false) (he : ∀ k, f (k + 1) n = some e) :
  ∀ d k i, a ≤ i → n - i = d → i ≤ n → d < k → f k i = some (allF p i d && e) := by
 intro d
 induction d with
 | zero =>
  intro k i ha hd hi hk
  obtain ⟨k, rfl⟩ : ∃ m, k = m + 1 := ⟨k - 1, by omega⟩
  have : i = n := by omega
  subst this
  rw [he]
  rfl
 | succ d ih =>
  intro k i ha hd hi hk
  obtain ⟨k, rfl⟩ : ∃ m, k = m + 1 := ⟨k - 1, by omega⟩
  rw [hs k i ha (by omega)]
  unfold allF
  by_cases hp : p i = true
  ·rw [if_pos hp, ih k (i + 1) (by omega) (by omega) (by omega) (by omega), hp, Bool.true_and]
  ·rw [if_neg hp]
   replace hp := Bool.eq_false_iff.mpr hp
   rw [hp, Bool.false_and, Bool.false_and]
theorem all_loop {f : Nat → Nat → Option Bool} {p : Nat → Bool} {e : Bool} (n : Nat) (hs : ∀ k i, i < n → f (k + 1) i = if p i = true then f k (i + 1) else some false) (he : ∀ k, f (k + 1) n = some e) :
  ∀ d k i, n - i = d → i ≤ n → d < k → f k i = some (allF p i d && e) := fun d k i => all_loopF 0 n (fun k i _ h => hs k i h) he d k i (Nat.zero_le _)
def foldF {σ : Type} (step : Nat → σ → σ) : Nat → Nat → σ → σ
 | _, 0, s => s
 | i, d + 1, s => foldF step (i + 1) d (step i s)
theorem foldF_snoc {σ : Type} (f : Nat → σ → σ) : ∀ (d i : Nat) (s : σ), foldF f i (d + 1) s = f (i + d) (foldF f i d s)
 | 0, i, s => rfl
 | d + 1, i, s => by
  have h := foldF_snoc f d (i + 1) (f i s)
  rw [show i + 1 + d = i + (d + 1) by omega] at h
  exact h
theorem fold_loop {σ β : Type} {f : Nat → Nat → σ → Option β} {step : Nat → σ → σ} {I : Nat → σ → Prop} {e : σ → Option β} (n : Nat) (hs : ∀ k i s, i < n → I i s → f (k + 1) i s = f k (i + 1) (step i s)) (hI : ∀ i s, i < n → I i s → I (i + 1) (step i s)) (he : ∀ k s, I n s → f (k + 1) n s = e s) :
  ∀ d k i s, n - i = d → i ≤ n → I i s → d < k → f k i s = e (foldF step i d s) := by
 intro d
 induction d with
 | zero =>
  intro k i s hd hi h0 hk
  obtain ⟨k, rfl⟩ : ∃ m, k = m + 1 := ⟨k - 1, by omega⟩
  have : i = n := by omega
  subst this
  exact he k s h0
 | succ d ih =>
  intro k i s hd hi h0 hk
  obtain ⟨k, rfl⟩ : ∃ m, k = m + 1 := ⟨k - 1, by omega⟩
  rw [hs k i s (by omega) h0]
  exact ih k (i + 1) _ (by omega) (by omega) (hI i s (by omega) h0) (by omega)
def inB (n lo hi : Int) : Bool := decide (lo ≤ n ∧ n ≤ hi)
theorem inB_true {n lo hi : Int} : inB n lo hi = true ↔ lo ≤ n ∧ n ≤ hi := by unfold inB; exact decide_eq_true_iff
theorem inB_false {n lo hi : Int} : inB n lo hi = false ↔ ¬ (lo ≤ n ∧ n ≤ hi) := by unfold inB; exact decide_eq_false_iff_not
theorem getD_take {α : Type} (xs : List α) (z : α) (n i : Nat) (h : i < n) : (xs.take n).getD i z = xs.getD i z := by
 rw [List.getD_eq_getElem?_getD, List.getD_eq_getElem?_getD, List.getElem?_take, if_pos h]
end Go.Proofs.Ytnlbaflbhicooaa.F
namespace Go.Proofs.Ytnlbaflbhicooaa.F
open Go.RowKit Go.Proofs.YtnlbaflbhicooaaW.PrintWords Go.Proofs.YtnlbaflbhicooaaW.PrintLast Go.Proofs.YtnlbaflbhicooaaW.PrintMore
set_option linter.unusedVariables false
set_option linter.unusedSimpArgs false
def conv_BarS (x : S110) : S108 := ⟨x.f0, x.f1⟩
theorem full_BarS_l1 (d : Nat) : ∀ (k : Nat) (x0 : List S110) (x5 : List S108) (i : Nat), x5.length - i = d → x0.length ≤ i → i ≤ x5.length → x5.length ≤ 4000000 → d < k →
  full_toBarS.l1 k x0 x5 (i : Int) = some (x5.take i ++ List.replicate d (⟨(-7000000000000000101), (-7000000000000000101)⟩ : S108)) := by
 induction d with
 | zero =>
  intro k x0 x5 i hd h1 h2 h3 hk
  obtain ⟨k, rfl⟩ : ∃ m, k = m + 1 := ⟨k - 1, by omega⟩
  simp only [full_toBarS.l1]
  rw [if_neg (by omega), if_pos (by omega), if_pos (by omega), List.take_of_length_le (by omega)]
  simp
 | succ d ih =>
  intro k x0 x5 i hd h1 h2 h3 hk
  obtain ⟨k, rfl⟩ : ∃ m, k = m + 1 := ⟨k - 1, by omega⟩
  have hr := ih k x0 (x5.set i (⟨(-7000000000000000101), (-7000000000000000101)⟩ : S108)) (i + 1) Zbm (by omega) Zbm Zbm (by omega)
  rw [take_set_snoc _ _ _ (by omega), List.append_assoc, List.singleton_append, ← List.replicate_succ] at hr
  rw [← hr]
  simp only [full_toBarS.l1, laws_fillerBar.f, Option.bind_some]
  rw [if_pos (by omega)]
  rw [if_pos (by omega), w64 (by omega)]
  rfl
theorem full_BarS_l0 (d : Nat) : ∀ (k : Nat) (x0 : List S110) (x5 : List S108) (i : Nat), x0.length - i = d → i ≤ x0.length → x0.length ≤ x5.length → x5.length ≤ 4000000 → x5.take i = (x0.take i).map conv_BarS → d + x5.length + 1 < k →
  full_toBarS.l0 k x0 x5 (i : Int) = some (x0.map conv_BarS ++ List.replicate (x5.length - x0.length) (⟨(-7000000000000000101), (-7000000000000000101)⟩ : S108)) := by
 induction d with
 | zero =>
  intro k x0 x5 i hd h1 h2 h3 h4 hk
  obtain ⟨k, rfl⟩ : ∃ m, k = m + 1 := ⟨k - 1, by omega⟩
  simp only [full_toBarS.l0]
  rw [if_neg (by omega), full_BarS_l1 (x5.length - x0.length) k x0 x5 x0.length rfl (Nat.le_refl _) h2 h3 (by omega)]
  have e : i = x0.length := by omega
  subst e
  rw [h4, List.take_length]
 | succ d ih =>
  intro k x0 x5 i hd h1 h2 h3 h4 hk
  obtain ⟨k, rfl⟩ : ∃ m, k = m + 1 := ⟨k - 1, by omega⟩
  have hi : i < x0.length := by omega
  have h5 : (x5.set i (conv_BarS x0[i])).take (i + 1) = (x0.take (i + 1)).map conv_BarS := by
   rw [take_set_snoc _ _ _ (by omega), h4, List.take_succ_eq_append_getElem hi, List.map_append]; rfl
  have hr := ih k x0 (x5.set i (conv_BarS x0[i])) (i + 1) (by omega) (by omega) Zbm Zbm h5 Zbm
  rw [List.length_set] at hr
  rw [← hr]
  simp only [full_toBarS.l0, laws_toBar.f, Option.bind_some]
  rw [if_pos (by omega), if_pos (by omega)]
  rw [if_pos (by omega), w64 (by omega), rd_T110, getD_at _ _ _ hi]
  rfl
theorem to_BarS_l1 (d : Nat) : ∀ (k : Nat) (x0 : List S110) (x5 : List S108) (i : Nat), x5.length - i = d → x0.length ≤ i → i ≤ x5.length → x5.length ≤ 4000000 → d < k →
  laws_toBarS.l1 k x0 x5 (i : Int) = some (x5.take x0.length) := by
 induction d with
 | zero =>
  intro k x0 x5 i hd h1 h2 h3 hk
  obtain ⟨k, rfl⟩ : ∃ m, k = m + 1 := ⟨k - 1, by omega⟩
  simp only [laws_toBarS.l1]; rw [if_neg (by omega), if_pos (by omega), if_pos (by omega), Int.toNat_natCast]
 | succ d ih =>
  intro k x0 x5 i hd h1 h2 h3 hk
  obtain ⟨k, rfl⟩ : ∃ m, k = m + 1 := ⟨k - 1, by omega⟩
  have hr := ih k x0 (x5.set i (⟨(-7000000000000000101), (-7000000000000000101)⟩ : S108)) (i + 1) Zbm (by omega) Zbm Zbm (by omega)
  rw [take_set_ge _ _ _ _ h1] at hr
  rw [← hr]
  simp only [laws_toBarS.l1, laws_fillerBar.f, Option.bind_some]
  rw [if_pos (by omega)]
  rw [if_pos (by omega), w64 (by omega)]
  rfl
theorem to_BarS_l0 (d : Nat) : ∀ (k : Nat) (x0 : List S110) (x5 : List S108) (i : Nat), x0.length - i = d → i ≤ x0.length → x0.length ≤ x5.length → x5.length ≤ 4000000 → x5.take i = (x0.take i).map conv_BarS → d + x5.length + 1 < k →
  laws_toBarS.l0 k x0 x5 (i : Int) = some (x0.map conv_BarS) := by
 induction d with
 | zero =>
  intro k x0 x5 i hd h1 h2 h3 h4 hk
  obtain ⟨k, rfl⟩ : ∃ m, k = m + 1 := ⟨k - 1, by omega⟩
  simp only [laws_toBarS.l0]
  rw [if_neg (by omega), to_BarS_l1 (x5.length - x0.length) k x0 x5 x0.length rfl (Nat.le_refl _) h2 h3 (by omega)]
  have e : i = x0.length := by omega
  subst e
  rw [h4, List.take_length]
 | succ d ih =>
  intro k x0 x5 i hd h1 h2 h3 h4 hk
  obtain ⟨k, rfl⟩ : ∃ m, k = m + 1 := ⟨k - 1, by omega⟩
  have hi : i < x0.length := by omega
  have h5 : (x5.set i (conv_BarS x0[i])).take (i + 1) = (x0.take (i + 1)).map conv_BarS := by
   rw [take_set_snoc _ _ _ (by omega), h4, List.take_succ_eq_append_getElem hi, List.map_append]; rfl
  have hr := ih k x0 (x5.set i (conv_BarS x0[i])) (i + 1) (by omega) (by omega) Zbm Zbm h5 Zbm
  rw [← hr]
  simp only [laws_toBarS.l0, laws_toBar.f, Option.bind_some]
  rw [if_pos (by omega), if_pos (by omega)]
  rw [if_pos (by omega), w64 (by omega), rd_T110, getD_at _ _ _ hi]
  rfl
theorem to_BarS (l : List S110) (hl : l.length ≤ 1000000) : ∃ (L : List S108) (t : Int), L ≠ [] ∧ (l.map conv_BarS = L.take l.length ∧ l.length ≤ L.length) ∧ (l.map conv_BarS).length = l.length ∧ L.length ≤ 2000001 ∧
  laws_roomBehind.f ((l.map conv_BarS).length : Int) = some t ∧ wrap64 (((l.map conv_BarS).length : Int) + t) = (L.length : Int) ∧
  Evt (fun k => full_toBarS.f k l false = some L) ∧ Evt (fun k => laws_toBarS.f k l true = some (l.map conv_BarS)) := by
 obtain ⟨t, ht, h0, h1, h2⟩ := room_some l.length
 have hw : wrap64 ((l.length : Int) + t) = (l.length : Int) + t := w64 (by omega)
 have hn : ((l.length : Int) + t).toNat = l.length + t.toNat := by omega
 have hm : (l.map conv_BarS).length = l.length := List.length_map _
 have hlen : (l.map conv_BarS ++ List.replicate (l.length + t.toNat - l.length) (⟨(-7000000000000000101), (-7000000000000000101)⟩ : S108)).length = l.length + t.toNat := by rw [List.length_append, List.length_replicate, hm]; omega
 refine ⟨l.map conv_BarS ++ List.replicate (l.length + t.toNat - l.length) (⟨(-7000000000000000101), (-7000000000000000101)⟩ : S108), t, ?_, ⟨?_, by omega⟩, hm, by omega, by rw [hm]; exact ht, by rw [hm, hw, hlen]; omega, ?_, ?_⟩
 ·intro e
  rw [e] at hlen
  simp at hlen
  have := h2 (by omega)
  omega
 ·rw [← hm, List.take_left]
 ·refine Evt.succ ⟨l.length + (l.length + t.toNat) + 2, fun k hk => ?_⟩
  show full_toBarS.f (k + 1) l false = _
  unfold full_toBarS.f
  rw [if_neg (by decide)]
  simp only [full_toBarS.j0]
  rw [if_neg (by decide), ht]
  simp only [Option.bind_some]
  rw [hw, if_pos (by omega), hn, if_pos (by omega)]
  have z := full_BarS_l0 l.length k l (List.replicate (l.length + t.toNat) z108) 0 (by omega) (by omega) Zbn Zbn (by simp) Zbn
  rw [List.length_replicate] at z
  exact z
 ·refine Evt.succ ⟨l.length + (l.length + t.toNat) + 2, fun k hk => ?_⟩
  show laws_toBarS.f (k + 1) l true = _
  unfold laws_toBarS.f
  rw [if_pos rfl]
  simp only [laws_toBarS.j0]
  by_cases e : l.length = 0
  ·have e2 : l = [] := List.length_eq_zero_iff.mp e
   subst e2
   rfl
  ·have e3 : ((l.length : Int) == 0) = false := by rw [beq_eq_false_iff_ne]; omega
   rw [e3, if_neg (by decide), ht]
   simp only [Option.bind_some]
   rw [hw, if_pos (by omega), hn, if_pos (by omega)]
   exact to_BarS_l0 l.length k l (List.replicate (l.length + t.toNat) z108) 0 (by omega) (by omega) Zbn Zbn (by simp) Zbn
theorem eq_BarS_l0 (d : Nat) : ∀ (k : Nat) (xs : List S108) (i : Nat), xs.length - i = d → i ≤ xs.length → xs.length ≤ 4000000 → d < k → laws_eqBarS.l0 k xs xs (i : Int) = some true := by
 induction d with
 | zero =>
  intro k xs i hd h1 h2 hk
  obtain ⟨k, rfl⟩ : ∃ m, k = m + 1 := ⟨k - 1, by omega⟩
  simp only [laws_eqBarS.l0]; rw [if_neg (by omega)]
 | succ d ih =>
  intro k xs i hd h1 h2 hk
  obtain ⟨k, rfl⟩ : ∃ m, k = m + 1 := ⟨k - 1, by omega⟩
  have hr := ih k xs (i + 1) (by omega) (by omega) h2 (by omega)
  simp only [laws_eqBarS.l0, laws_eqBar.f, if_true, Option.bind_some]
  rw [if_pos (by omega), if_pos (by omega), if_pos (by omega), w64 (by omega)]
  exact hr
theorem eq_BarS (xs : List S108) (h : xs.length ≤ 4000000) : Evt (fun k => laws_eqBarS.f k xs xs = some true) := by
 refine ⟨xs.length + 1, fun k hk => ?_⟩
 show laws_eqBarS.f k xs xs = _
 unfold laws_eqBarS.f
 rw [if_pos rfl]
 exact eq_BarS_l0 xs.length k xs 0 (by omega) (by omega) h (by omega)
theorem sz_BarS (l : List S110) (a : Int) (h0 : 0 ≤ a) (h1 : a ≤ 1000000) (hl : l.length ≤ maxLen) :
  (l.length ≤ a ∧ laws_szBarS.f l a = some (a - l.length)) ∨ laws_szBarS.f l a = some (-1) := by
 unfold maxLen at hl
 unfold laws_szBarS.f
 rw [w64 (by omega)]
 by_cases h : a - (l.length : Int) < 0
 ·rw [if_pos h]
  exact .inr rfl
 ·rw [if_neg h]
  exact .inl ⟨by omega, rfl⟩
end Go.Proofs.Ytnlbaflbhicooaa.F
namespace Go.Proofs.Ytnlbaflbhicooaa.F
open Go.RowKit Go.Proofs.YtnlbaflbhicooaaW.PrintWords Go.Proofs.YtnlbaflbhicooaaW.PrintLast Go.Proofs.YtnlbaflbhicooaaW.PrintMore
set_option linter.unusedVariables false
set_option linter.unusedSimpArgs false
end Go.Proofs.Ytnlbaflbhicooaa.F
namespace Go.Proofs.Ytnlbaflbhicooaa.F
open Go.RowKit Go.Proofs.YtnlbaflbhicooaaW.PrintWords Go.Proofs.YtnlbaflbhicooaaW.PrintLast Go.Proofs.YtnlbaflbhicooaaW.PrintMore
set_option linter.unusedVariables false
set_option linter.unusedSimpArgs false
def conv_ArticleS (x : S105) : S92 := ⟨x.f0, x.f1, x.f2, x.f3, x.f4, x.f5, x.f6, x.f7, x.f8⟩
theorem full_ArticleS_l1 (d : Nat) : ∀ (k : Nat) (x0 : List S105) (x5 : List S92) (i : Nat), x5.length - i = d → x0.length ≤ i → i ≤ x5.length → x5.length ≤ 4000000 → d < k →
  full_toArticleS.l1 k x0 x5 (i : Int) = some (x5.take i ++ List.replicate d (⟨(⟨#[126, 115, 112, 97, 114, 101, 126]⟩ : ByteArray), (-7000000000000000101), (-7000000000000000101), (-7000000000000000101), (-7000000000000000101), (-7000000000000000101), (-7000000000000000101), (-7000000000000000101), (-7000000000000000101)⟩ : S92)) := by
 induction d with
 | zero =>
  intro k x0 x5 i hd h1 h2 h3 hk
  obtain ⟨k, rfl⟩ : ∃ m, k = m + 1 := ⟨k - 1, by omega⟩
  simp only [full_toArticleS.l1]
  rw [if_neg (by omega), if_pos (by omega), if_pos (by omega), List.take_of_length_le (by omega)]
  simp
 | succ d ih =>
  intro k x0 x5 i hd h1 h2 h3 hk
  obtain ⟨k, rfl⟩ : ∃ m, k = m + 1 := ⟨k - 1, by omega⟩
  have hr := ih k x0 (x5.set i (⟨(⟨#[126, 115, 112, 97, 114, 101, 126]⟩ : ByteArray), (-7000000000000000101), (-7000000000000000101), (-7000000000000000101), (-7000000000000000101), (-7000000000000000101), (-7000000000000000101), (-7000000000000000101), (-7000000000000000101)⟩ : S92)) (i + 1) Zbm (by omega) Zbm Zbm (by omega)
  rw [take_set_snoc _ _ _ (by omega), List.append_assoc, List.singleton_append, ← List.replicate_succ] at hr
  rw [← hr]
  simp only [full_toArticleS.l1, laws_fillerArticle.f, Option.bind_some]
  rw [if_pos (by omega)]
  rw [if_pos (by omega), w64 (by omega)]
  rfl
theorem full_ArticleS_l0 (d : Nat) : ∀ (k : Nat) (x0 : List S105) (x5 : List S92) (i : Nat), x0.length - i = d → i ≤ x0.length → x0.length ≤ x5.length → x5.length ≤ 4000000 → x5.take i = (x0.take i).map conv_ArticleS → d + x5.length + 1 < k →
  full_toArticleS.l0 k x0 x5 (i : Int) = some (x0.map conv_ArticleS ++ List.replicate (x5.length - x0.length) (⟨(⟨#[126, 115, 112, 97, 114, 101, 126]⟩ : ByteArray), (-7000000000000000101), (-7000000000000000101), (-7000000000000000101), (-7000000000000000101), (-7000000000000000101), (-7000000000000000101), (-7000000000000000101), (-7000000000000000101)⟩ : S92)) := by
 induction d with
 | zero =>
  intro k x0 x5 i hd h1 h2 h3 h4 hk
  obtain ⟨k, rfl⟩ : ∃ m, k = m + 1 := ⟨k - 1, by omega⟩
  simp only [full_toArticleS.l0]
  rw [if_neg (by omega), full_ArticleS_l1 (x5.length - x0.length) k x0 x5 x0.length rfl (Nat.le_refl _) h2 h3 (by omega)]
  have e : i = x0.length := by omega
  subst e
  rw [h4, List.take_length]
 | succ d ih =>
  intro k x0 x5 i hd h1 h2 h3 h4 hk
  obtain ⟨k, rfl⟩ : ∃ m, k = m + 1 := ⟨k - 1, by omega⟩
  have hi : i < x0.length := by omega
  have h5 : (x5.set i (conv_ArticleS x0[i])).take (i + 1) = (x0.take (i + 1)).map conv_ArticleS := by
   rw [take_set_snoc _ _ _ (by omega), h4, List.take_succ_eq_append_getElem hi, List.map_append]; rfl
  have hr := ih k x0 (x5.set i (conv_ArticleS x0[i])) (i + 1) (by omega) (by omega) Zbm Zbm h5 Zbm
  rw [List.length_set] at hr
  rw [← hr]
  simp only [full_toArticleS.l0, laws_toArticle.f, Option.bind_some]
  rw [if_pos (by omega), if_pos (by omega)]
  rw [if_pos (by omega), w64 (by omega), rd_T105, getD_at _ _ _ hi]
  rfl
theorem to_ArticleS_l1 (d : Nat) : ∀ (k : Nat) (x0 : List S105) (x5 : List S92) (i : Nat), x5.length - i = d → x0.length ≤ i → i ≤ x5.length → x5.length ≤ 4000000 → d < k →
  laws_toArticleS.l1 k x0 x5 (i : Int) = some (x5.take x0.length) := by
 induction d with
 | zero =>
  intro k x0 x5 i hd h1 h2 h3 hk
  obtain ⟨k, rfl⟩ : ∃ m, k = m + 1 := ⟨k - 1, by omega⟩
  simp only [laws_toArticleS.l1]; rw [if_neg (by omega), if_pos (by omega), if_pos (by omega), Int.toNat_natCast]
 | succ d ih =>
  intro k x0 x5 i hd h1 h2 h3 hk
  obtain ⟨k, rfl⟩ : ∃ m, k = m + 1 := ⟨k - 1, by omega⟩
  have hr := ih k x0 (x5.set i (⟨(⟨#[126, 115, 112, 97, 114, 101, 126]⟩ : ByteArray), (-7000000000000000101), (-7000000000000000101), (-7000000000000000101), (-7000000000000000101), (-7000000000000000101), (-7000000000000000101), (-7000000000000000101), (-7000000000000000101)⟩ : S92)) (i + 1) Zbm (by omega) Zbm Zbm (by omega)
  rw [take_set_ge _ _ _ _ h1] at hr
  rw [← hr]
  simp only [laws_toArticleS.l1, laws_fillerArticle.f, Option.bind_some]
  rw [if_pos (by omega)]
  rw [if_pos (by omega), w64 (by omega)]
  rfl
theorem to_ArticleS_l0 (d : Nat) : ∀ (k : Nat) (x0 : List S105) (x5 : List S92) (i : Nat), x0.length - i = d → i ≤ x0.length → x0.length ≤ x5.length → x5.length ≤ 4000000 → x5.take i = (x0.take i).map conv_ArticleS → d + x5.length + 1 < k →
  laws_toArticleS.l0 k x0 x5 (i : Int) = some (x0.map conv_ArticleS) := by
 induction d with
 | zero =>
  intro k x0 x5 i hd h1 h2 h3 h4 hk
  obtain ⟨k, rfl⟩ : ∃ m, k = m + 1 := ⟨k - 1, by omega⟩
  simp only [laws_toArticleS.l0]
  rw [if_neg (by omega), to_ArticleS_l1 (x5.length - x0.length) k x0 x5 x0.length rfl (Nat.le_refl _) h2 h3 (by omega)]
  have e : i = x0.length := by omega
  subst e
  rw [h4, List.take_length]
 | succ d ih =>
  intro k x0 x5 i hd h1 h2 h3 h4 hk
  obtain ⟨k, rfl⟩ : ∃ m, k = m + 1 := ⟨k - 1, by omega⟩
  have hi : i < x0.length := by omega
  have h5 : (x5.set i (conv_ArticleS x0[i])).take (i + 1) = (x0.take (i + 1)).map conv_ArticleS := by
   rw [take_set_snoc _ _ _ (by omega), h4, List.take_succ_eq_append_getElem hi, List.map_append]; rfl
  have hr := ih k x0 (x5.set i (conv_ArticleS x0[i])) (i + 1) (by omega) (by omega) Zbm Zbm h5 Zbm
  rw [← hr]
  simp only [laws_toArticleS.l0, laws_toArticle.f, Option.bind_some]
  rw [if_pos (by omega), if_pos (by omega)]
  rw [if_pos (by omega), w64 (by omega), rd_T105, getD_at _ _ _ hi]
  rfl
theorem to_ArticleS (l : List S105) (hl : l.length ≤ 1000000) : ∃ (L : List S92) (t : Int), L ≠ [] ∧ (l.map conv_ArticleS = L.take l.length ∧ l.length ≤ L.length) ∧ (l.map conv_ArticleS).length = l.length ∧ L.length ≤ 2000001 ∧
  laws_roomBehind.f ((l.map conv_ArticleS).length : Int) = some t ∧ wrap64 (((l.map conv_ArticleS).length : Int) + t) = (L.length : Int) ∧
  Evt (fun k => full_toArticleS.f k l false = some L) ∧ Evt (fun k => laws_toArticleS.f k l true = some (l.map conv_ArticleS)) := by
 obtain ⟨t, ht, h0, h1, h2⟩ := room_some l.length
 have hw : wrap64 ((l.length : Int) + t) = (l.length : Int) + t := w64 (by omega)
 have hn : ((l.length : Int) + t).toNat = l.length + t.toNat := by omega
 have hm : (l.map conv_ArticleS).length = l.length := List.length_map _
 have hlen : (l.map conv_ArticleS ++ List.replicate (l.length + t.toNat - l.length) (⟨(⟨#[126, 115, 112, 97, 114, 101, 126]⟩ : ByteArray), (-7000000000000000101), (-7000000000000000101), (-7000000000000000101), (-7000000000000000101), (-7000000000000000101), (-7000000000000000101), (-7000000000000000101), (-7000000000000000101)⟩ : S92)).length = l.length + t.toNat := by rw [List.length_append, List.length_replicate, hm]; omega
 refine ⟨l.map conv_ArticleS ++ List.replicate (l.length + t.toNat - l.length) (⟨(⟨#[126, 115, 112, 97, 114, 101, 126]⟩ : ByteArray), (-7000000000000000101), (-7000000000000000101), (-7000000000000000101), (-7000000000000000101), (-7000000000000000101), (-7000000000000000101), (-7000000000000000101), (-7000000000000000101)⟩ : S92), t, ?_, ⟨?_, by omega⟩, hm, by omega, by rw [hm]; exact ht, by rw [hm, hw, hlen]; omega, ?_, ?_⟩
 ·intro e
  rw [e] at hlen
  simp at hlen
  have := h2 (by omega)
  omega
 ·rw [← hm, List.take_left]
 ·refine Evt.succ ⟨l.length + (l.length + t.toNat) + 2, fun k hk => ?_⟩
  show full_toArticleS.f (k + 1) l false = _
  unfold full_toArticleS.f
  rw [if_neg (by decide)]
  simp only [full_toArticleS.j0]
  rw [if_neg (by decide), ht]
  simp only [Option.bind_some]
  rw [hw, if_pos (by omega), hn, if_pos (by omega)]
  have z := full_ArticleS_l0 l.length k l (List.replicate (l.length + t.toNat) z92) 0 (by omega) (by omega) Zbn Zbn (by simp) Zbn
  rw [List.length_replicate] at z
  exact z
 ·refine Evt.succ ⟨l.length + (l.length + t.toNat) + 2, fun k hk => ?_⟩
  show laws_toArticleS.f (k + 1) l true = _
  unfold laws_toArticleS.f
  rw [if_pos rfl]
  simp only [laws_toArticleS.j0]
  by_cases e : l.length = 0
  ·have e2 : l = [] := List.length_eq_zero_iff.mp e
   subst e2
   rfl
  ·have e3 : ((l.length : Int) == 0) = false := by rw [beq_eq_false_iff_ne]; omega
   rw [e3, if_neg (by decide), ht]
   simp only [Option.bind_some]
   rw [hw, if_pos (by omega), hn, if_pos (by omega)]
   exact to_ArticleS_l0 l.length k l (List.replicate (l.length + t.toNat) z92) 0 (by omega) (by omega) Zbn Zbn (by simp) Zbn
theorem eq_ArticleS_l0 (d : Nat) : ∀ (k : Nat) (xs : List S92) (i : Nat), xs.length - i = d → i ≤ xs.length → xs.length ≤ 4000000 → d < k → laws_eqArticleS.l0 k xs xs (i : Int) = some true := by
 induction d with
 | zero =>
  intro k xs i hd h1 h2 hk
  obtain ⟨k, rfl⟩ : ∃ m, k = m + 1 := ⟨k - 1, by omega⟩
  simp only [laws_eqArticleS.l0]; rw [if_neg (by omega)]
 | succ d ih =>
  intro k xs i hd h1 h2 hk
  obtain ⟨k, rfl⟩ : ∃ m, k = m + 1 := ⟨k - 1, by omega⟩
  have hr := ih k xs (i + 1) (by omega) (by omega) h2 (by omega)
  simp only [laws_eqArticleS.l0, laws_eqArticle.f, if_true, Option.bind_some]
  rw [if_pos (by omega), if_pos (by omega), if_pos (by omega), w64 (by omega)]
  exact hr
theorem eq_ArticleS (xs : List S92) (h : xs.length ≤ 4000000) : Evt (fun k => laws_eqArticleS.f k xs xs = some true) := by
 refine ⟨xs.length + 1, fun k hk => ?_⟩
 show laws_eqArticleS.f k xs xs = _
 unfold laws_eqArticleS.f
 rw [if_pos rfl]
 exact eq_ArticleS_l0 xs.length k xs 0 (by omega) (by omega) h (by omega)
theorem sz_ArticleS_l0 (d : Nat) : ∀ (k : Nat) (l : List S105) (a : Int) (i : Nat), l.length - i = d → i ≤ l.length → l.length ≤ 1000000 → 0 ≤ a → a ≤ 1000000 → (∀ x ∈ l, x.f0.size ≤ maxLen) → d < k →
  ∃ s, laws_szArticleS.l0 k l a (i : Int) = some s ∧ (∀ m, k ≤ m → laws_szArticleS.l0 m l a (i : Int) = some s) ∧ (s < 0 ∨ (0 ≤ s ∧ s ≤ a ∧ ∀ j, i ≤ j → (h : j < l.length) → (l[j]).f0.size ≤ 1000000)) := by
 induction d with
 | zero =>
  intro k l a i hd h1 h2 h3 h4 hp hk
  have e : ∀ m, k ≤ m → laws_szArticleS.l0 m l a (i : Int) = some a := fun m hm => by
   obtain ⟨m, rfl⟩ : ∃ q, m = q + 1 := ⟨m - 1, by omega⟩
   simp only [laws_szArticleS.l0]
   rw [if_neg (by omega)]
  exact ⟨a, e k (Nat.le_refl _), e, .inr ⟨h3, Int.le_refl _, fun j h5 h6 => absurd h6 (by omega)⟩⟩
 | succ d ih =>
  intro k l a i hd h1 h2 h3 h4 hp hk
  have hi : i < l.length := by omega
  have hs := hp l[i] (List.getElem_mem hi)
  have hm : maxLen = 9223372036854775807 := rfl
  have er : rd_T105 l (i : Int) = l[i] := by unfold rd_T105; exact getD_at _ _ _ hi
  by_cases c : a - ((l[i]).f0.size : Int) < 0
  ·have e : ∀ m, k ≤ m → laws_szArticleS.l0 m l a (i : Int) = some (-1) := fun m hm => by
    obtain ⟨m, rfl⟩ : ∃ q, m = q + 1 := ⟨m - 1, by omega⟩
    simp only [laws_szArticleS.l0, laws_szArticle.f]
    rw [if_pos (by omega), if_pos (by omega), er, w64 (n := a - ((l[i]).f0.size : Int)) (by omega), if_pos c]
    rfl
   exact ⟨-1, e k (Nat.le_refl _), e, .inl (by omega)⟩
  ·obtain ⟨s, _, e2, e3⟩ := ih (k - 1) l (a - ((l[i]).f0.size : Int)) (i + 1) (by omega) (by omega) h2 (by omega) (by omega) hp (by omega)
   have e : ∀ m, k ≤ m → laws_szArticleS.l0 m l a (i : Int) = some s := fun m hm => by
    obtain ⟨m, rfl⟩ : ∃ q, m = q + 1 := ⟨m - 1, by omega⟩
    simp only [laws_szArticleS.l0, laws_szArticle.f]
    rw [if_pos (by omega), if_pos (by omega), er, w64 (n := a - ((l[i]).f0.size : Int)) (by omega), if_neg c, Option.bind_some, if_neg c, w64 (n := (i : Int) + 1) (by omega)]
    exact e2 m (by omega)
   refine ⟨s, e k (Nat.le_refl _), e, ?_⟩
   rcases e3 with e3 | ⟨e3, e4, e5⟩
   ·exact .inl e3
   ·refine .inr ⟨e3, by omega, fun j h5 h6 => ?_⟩
    by_cases q : j = i
    ·subst q; omega
    ·exact e5 j (by omega) h6
theorem sz_ArticleS (l : List S105) (a : Int) (h0 : 0 ≤ a) (h1 : a ≤ 1000000) (hl : l.length ≤ maxLen) (hp : ∀ x ∈ l, x.f0.size ≤ maxLen) :
  ∃ s, Evt (fun k => laws_szArticleS.f k l a = some s) ∧ (s < 0 ∨ (0 ≤ s ∧ s ≤ a ∧ l.length ≤ 1000000 ∧ ∀ x ∈ l, x.f0.size ≤ 1000000)) := by
 have hm : maxLen = 9223372036854775807 := rfl
 by_cases h : a - (l.length : Int) < 0
 ·refine ⟨-1, Evt.of fun k => ?_, .inl (by omega)⟩
  unfold laws_szArticleS.f
  rw [w64 (by omega), if_pos h]
 ·obtain ⟨s, _, e2, e3⟩ := sz_ArticleS_l0 l.length (l.length + 1) l (a - (l.length : Int)) 0 (by omega) (by omega) (by omega) (by omega) (by omega) hp (by omega)
  refine ⟨s, ⟨l.length + 1, fun k hk => ?_⟩, ?_⟩
  ·show laws_szArticleS.f k l a = _
   unfold laws_szArticleS.f
   rw [w64 (by omega), if_neg h]
   exact e2 k hk
  ·rcases e3 with e3 | ⟨e3, e4, e5⟩
   ·exact .inl e3
   ·refine .inr ⟨e3, by omega, by omega, fun x hx => ?_⟩
    obtain ⟨j, hj, rfl⟩ := List.getElem_of_mem hx
    exact e5 j (by omega) hj
end Go.Proofs.Ytnlbaflbhicooaa.F
namespace Go.Proofs.Ytnlbaflbhicooaa.F
open Go.RowKit Go.Proofs.YtnlbaflbhicooaaW.PrintWords Go.Proofs.YtnlbaflbhicooaaW.PrintLast Go.Proofs.YtnlbaflbhicooaaW.PrintMore
set_option linter.unusedVariables false
set_option linter.unusedSimpArgs false
def conv_CueS (x : S40) : S43 := ⟨x.f0, x.f1, x.f2, x.f3⟩
theorem full_CueS_l1 (d : Nat) : ∀ (k : Nat) (x0 : List S40) (x5 : List S43) (i : Nat), x5.length - i = d → x0.length ≤ i → i ≤ x5.length → x5.length ≤ 4000000 → d < k →
  full_toCueS.l1 k x0 x5 (i : Int) = some (x5.take i ++ List.replicate d (⟨(-7000000000000000101), (-7000000000000000101), (⟨#[126, 115, 112, 97, 114, 101, 126]⟩ : ByteArray), (-7000000000000000101)⟩ : S43)) := by
 induction d with
 | zero =>
  intro k x0 x5 i hd h1 h2 h3 hk
  obtain ⟨k, rfl⟩ : ∃ m, k = m + 1 := ⟨k - 1, by omega⟩
  simp only [full_toCueS.l1]
  rw [if_neg (by omega), if_pos (by omega), if_pos (by omega), List.take_of_length_le (by omega)]
  simp
 | succ d ih =>
  intro k x0 x5 i hd h1 h2 h3 hk
  obtain ⟨k, rfl⟩ : ∃ m, k = m + 1 := ⟨k - 1, by omega⟩
  have hr := ih k x0 (x5.set i (⟨(-7000000000000000101), (-7000000000000000101), (⟨#[126, 115, 112, 97, 114, 101, 126]⟩ : ByteArray), (-7000000000000000101)⟩ : S43)) (i + 1) Zbm (by omega) Zbm Zbm (by omega)
  rw [take_set_snoc _ _ _ (by omega), List.append_assoc, List.singleton_append, ← List.replicate_succ] at hr
  rw [← hr]
  simp only [full_toCueS.l1, laws_fillerCue.f, Option.bind_some]
  rw [if_pos (by omega)]
  rw [if_pos (by omega), w64 (by omega)]
  rfl
theorem full_CueS_l0 (d : Nat) : ∀ (k : Nat) (x0 : List S40) (x5 : List S43) (i : Nat), x0.length - i = d → i ≤ x0.length → x0.length ≤ x5.length → x5.length ≤ 4000000 → x5.take i = (x0.take i).map conv_CueS → d + x5.length + 1 < k →
  full_toCueS.l0 k x0 x5 (i : Int) = some (x0.map conv_CueS ++ List.replicate (x5.length - x0.length) (⟨(-7000000000000000101), (-7000000000000000101), (⟨#[126, 115, 112, 97, 114, 101, 126]⟩ : ByteArray), (-7000000000000000101)⟩ : S43)) := by
 induction d with
 | zero =>
  intro k x0 x5 i hd h1 h2 h3 h4 hk
  obtain ⟨k, rfl⟩ : ∃ m, k = m + 1 := ⟨k - 1, by omega⟩
  simp only [full_toCueS.l0]
  rw [if_neg (by omega), full_CueS_l1 (x5.length - x0.length) k x0 x5 x0.length rfl (Nat.le_refl _) h2 h3 (by omega)]
  have e : i = x0.length := by omega
  subst e
  rw [h4, List.take_length]
 | succ d ih =>
  intro k x0 x5 i hd h1 h2 h3 h4 hk
  obtain ⟨k, rfl⟩ : ∃ m, k = m + 1 := ⟨k - 1, by omega⟩
  have hi : i < x0.length := by omega
  have h5 : (x5.set i (conv_CueS x0[i])).take (i + 1) = (x0.take (i + 1)).map conv_CueS := by
   rw [take_set_snoc _ _ _ (by omega), h4, List.take_succ_eq_append_getElem hi, List.map_append]; rfl
  have hr := ih k x0 (x5.set i (conv_CueS x0[i])) (i + 1) (by omega) (by omega) Zbm Zbm h5 Zbm
  rw [List.length_set] at hr
  rw [← hr]
  simp only [full_toCueS.l0, laws_toCue.f, Option.bind_some]
  rw [if_pos (by omega), if_pos (by omega)]
  rw [if_pos (by omega), w64 (by omega), rd_T40, getD_at _ _ _ hi]
  rfl
theorem to_CueS_l1 (d : Nat) : ∀ (k : Nat) (x0 : List S40) (x5 : List S43) (i : Nat), x5.length - i = d → x0.length ≤ i → i ≤ x5.length → x5.length ≤ 4000000 → d < k →
  laws_toCueS.l1 k x0 x5 (i : Int) = some (x5.take x0.length) := by
 induction d with
 | zero =>
  intro k x0 x5 i hd h1 h2 h3 hk
  obtain ⟨k, rfl⟩ : ∃ m, k = m + 1 := ⟨k - 1, by omega⟩
  simp only [laws_toCueS.l1]; rw [if_neg (by omega), if_pos (by omega), if_pos (by omega), Int.toNat_natCast]
 | succ d ih =>
  intro k x0 x5 i hd h1 h2 h3 hk
  obtain ⟨k, rfl⟩ : ∃ m, k = m + 1 := ⟨k - 1, by omega⟩
  have hr := ih k x0 (x5.set i (⟨(-7000000000000000101), (-7000000000000000101), (⟨#[126, 115, 112, 97, 114, 101, 126]⟩ : ByteArray), (-7000000000000000101)⟩ : S43)) (i + 1) Zbm (by omega) Zbm Zbm (by omega)
  rw [take_set_ge _ _ _ _ h1] at hr
  rw [← hr]
  simp only [laws_toCueS.l1, laws_fillerCue.f, Option.bind_some]
  rw [if_pos (by omega)]
  rw [if_pos (by omega), w64 (by omega)]
  rfl
theorem to_CueS_l0 (d : Nat) : ∀ (k : Nat) (x0 : List S40) (x5 : List S43) (i : Nat), x0.length - i = d → i ≤ x0.length → x0.length ≤ x5.length → x5.length ≤ 4000000 → x5.take i = (x0.take i).map conv_CueS → d + x5.length + 1 < k →
  laws_toCueS.l0 k x0 x5 (i : Int) = some (x0.map conv_CueS) := by
 induction d with
 | zero =>
  intro k x0 x5 i hd h1 h2 h3 h4 hk
  obtain ⟨k, rfl⟩ : ∃ m, k = m + 1 := ⟨k - 1, by omega⟩
  simp only [laws_toCueS.l0]
  rw [if_neg (by omega), to_CueS_l1 (x5.length - x0.length) k x0 x5 x0.length rfl (Nat.le_refl _) h2 h3 (by omega)]
  have e : i = x0.length := by omega
  subst e
  rw [h4, List.take_length]
 | succ d ih =>
  intro k x0 x5 i hd h1 h2 h3 h4 hk
  obtain ⟨k, rfl⟩ : ∃ m, k = m + 1 := ⟨k - 1, by omega⟩
  have hi : i < x0.length := by omega
  have h5 : (x5.set i (conv_CueS x0[i])).take (i + 1) = (x0.take (i + 1)).map conv_CueS := by
   rw [take_set_snoc _ _ _ (by omega), h4, List.take_succ_eq_append_getElem hi, List.map_append]; rfl
  have hr := ih k x0 (x5.set i (conv_CueS x0[i])) (i + 1) (by omega) (by omega) Zbm Zbm h5 Zbm
  rw [← hr]
  simp only [laws_toCueS.l0, laws_toCue.f, Option.bind_some]
  rw [if_pos (by omega), if_pos (by omega)]
  rw [if_pos (by omega), w64 (by omega), rd_T40, getD_at _ _ _ hi]
  rfl
theorem to_CueS (l : List S40) (hl : l.length ≤ 1000000) : ∃ (L : List S43) (t : Int), L ≠ [] ∧ (l.map conv_CueS = L.take l.length ∧ l.length ≤ L.length) ∧ (l.map conv_CueS).length = l.length ∧ L.length ≤ 2000001 ∧
  laws_roomBehind.f ((l.map conv_CueS).length : Int) = some t ∧ wrap64 (((l.map conv_CueS).length : Int) + t) = (L.length : Int) ∧
  Evt (fun k => full_toCueS.f k l false = some L) ∧ Evt (fun k => laws_toCueS.f k l true = some (l.map conv_CueS)) := by
 obtain ⟨t, ht, h0, h1, h2⟩ := room_some l.length
 have hw : wrap64 ((l.length : Int) + t) = (l.length : Int) + t := w64 (by omega)
 have hn : ((l.length : Int) + t).toNat = l.length + t.toNat := by omega
 have hm : (l.map conv_CueS).length = l.length := List.length_map _
 have hlen : (l.map conv_CueS ++ List.replicate (l.length + t.toNat - l.length) (⟨(-7000000000000000101), (-7000000000000000101), (⟨#[126, 115, 112, 97, 114, 101, 126]⟩ : ByteArray), (-7000000000000000101)⟩ : S43)).length = l.length + t.toNat := by rw [List.length_append, List.length_replicate, hm]; omega
 refine ⟨l.map conv_CueS ++ List.replicate (l.length + t.toNat - l.length) (⟨(-7000000000000000101), (-7000000000000000101), (⟨#[126, 115, 112, 97, 114, 101, 126]⟩ : ByteArray), (-7000000000000000101)⟩ : S43), t, ?_, ⟨?_, by omega⟩, hm, by omega, by rw [hm]; exact ht, by rw [hm, hw, hlen]; omega, ?_, ?_⟩
 ·intro e
  rw [e] at hlen
  simp at hlen
  have := h2 (by omega)
  omega
 ·rw [← hm, List.take_left]
 ·refine Evt.succ ⟨l.length + (l.length + t.toNat) + 2, fun k hk => ?_⟩
  show full_toCueS.f (k + 1) l false = _
  unfold full_toCueS.f
  rw [if_neg (by decide)]
  simp only [full_toCueS.j0]
  rw [if_neg (by decide), ht]
  simp only [Option.bind_some]
  rw [hw, if_pos (by omega), hn, if_pos (by omega)]
  have z := full_CueS_l0 l.length k l (List.replicate (l.length + t.toNat) z43) 0 (by omega) (by omega) Zbn Zbn (by simp) Zbn
  rw [List.length_replicate] at z
  exact z
 ·refine Evt.succ ⟨l.length + (l.length + t.toNat) + 2, fun k hk => ?_⟩
  show laws_toCueS.f (k + 1) l true = _
  unfold laws_toCueS.f
  rw [if_pos rfl]
  simp only [laws_toCueS.j0]
  by_cases e : l.length = 0
  ·have e2 : l = [] := List.length_eq_zero_iff.mp e
   subst e2
   rfl
  ·have e3 : ((l.length : Int) == 0) = false := by rw [beq_eq_false_iff_ne]; omega
   rw [e3, if_neg (by decide), ht]
   simp only [Option.bind_some]
   rw [hw, if_pos (by omega), hn, if_pos (by omega)]
   exact to_CueS_l0 l.length k l (List.replicate (l.length + t.toNat) z43) 0 (by omega) (by omega) Zbn Zbn (by simp) Zbn
theorem eq_CueS_l0 (d : Nat) : ∀ (k : Nat) (xs : List S43) (i : Nat), xs.length - i = d → i ≤ xs.length → xs.length ≤ 4000000 → d < k → laws_eqCueS.l0 k xs xs (i : Int) = some true := by
 induction d with
 | zero =>
  intro k xs i hd h1 h2 hk
  obtain ⟨k, rfl⟩ : ∃ m, k = m + 1 := ⟨k - 1, by omega⟩
  simp only [laws_eqCueS.l0]; rw [if_neg (by omega)]
 | succ d ih =>
  intro k xs i hd h1 h2 hk
  obtain ⟨k, rfl⟩ : ∃ m, k = m + 1 := ⟨k - 1, by omega⟩
  have hr := ih k xs (i + 1) (by omega) (by omega) h2 (by omega)
  simp only [laws_eqCueS.l0, laws_eqCue.f, if_true, Option.bind_some]
  rw [if_pos (by omega), if_pos (by omega), if_pos (by omega), w64 (by omega)]
  exact hr
theorem eq_CueS (xs : List S43) (h : xs.length ≤ 4000000) : Evt (fun k => laws_eqCueS.f k xs xs = some true) := by
 refine ⟨xs.length + 1, fun k hk => ?_⟩
 show laws_eqCueS.f k xs xs = _
 unfold laws_eqCueS.f
 rw [if_pos rfl]
 exact eq_CueS_l0 xs.length k xs 0 (by omega) (by omega) h (by omega)
theorem sz_CueS_l0 (d : Nat) : ∀ (k : Nat) (l : List S40) (a : Int) (i : Nat), l.length - i = d → i ≤ l.length → l.length ≤ 1000000 → 0 ≤ a → a ≤ 1000000 → (∀ x ∈ l, x.f2.size ≤ maxLen) → d < k →
  ∃ s, laws_szCueS.l0 k l a (i : Int) = some s ∧ (∀ m, k ≤ m → laws_szCueS.l0 m l a (i : Int) = some s) ∧ (s < 0 ∨ (0 ≤ s ∧ s ≤ a ∧ ∀ j, i ≤ j → (h : j < l.length) → (l[j]).f2.size ≤ 1000000)) := by
 induction d with
 | zero =>
  intro k l a i hd h1 h2 h3 h4 hp hk
  have e : ∀ m, k ≤ m → laws_szCueS.l0 m l a (i : Int) = some a := fun m hm => by
   obtain ⟨m, rfl⟩ : ∃ q, m = q + 1 := ⟨m - 1, by omega⟩
   simp only [laws_szCueS.l0]
   rw [if_neg (by omega)]
  exact ⟨a, e k (Nat.le_refl _), e, .inr ⟨h3, Int.le_refl _, fun j h5 h6 => absurd h6 (by omega)⟩⟩
 | succ d ih =>
  intro k l a i hd h1 h2 h3 h4 hp hk
  have hi : i < l.length := by omega
  have hs := hp l[i] (List.getElem_mem hi)
  have hm : maxLen = 9223372036854775807 := rfl
  have er : rd_T40 l (i : Int) = l[i] := by unfold rd_T40; exact getD_at _ _ _ hi
  by_cases c : a - ((l[i]).f2.size : Int) < 0
  ·have e : ∀ m, k ≤ m → laws_szCueS.l0 m l a (i : Int) = some (-1) := fun m hm => by
    obtain ⟨m, rfl⟩ : ∃ q, m = q + 1 := ⟨m - 1, by omega⟩
    simp only [laws_szCueS.l0, laws_szCue.f]
    rw [if_pos (by omega), if_pos (by omega), er, w64 (n := a - ((l[i]).f2.size : Int)) (by omega), if_pos c]
    rfl
   exact ⟨-1, e k (Nat.le_refl _), e, .inl (by omega)⟩
  ·obtain ⟨s, _, e2, e3⟩ := ih (k - 1) l (a - ((l[i]).f2.size : Int)) (i + 1) (by omega) (by omega) h2 (by omega) (by omega) hp (by omega)
   have e : ∀ m, k ≤ m → laws_szCueS.l0 m l a (i : Int) = some s := fun m hm => by
    obtain ⟨m, rfl⟩ : ∃ q, m = q + 1 := ⟨m - 1, by omega⟩
    simp only [laws_szCueS.l0, laws_szCue.f]
    rw [if_pos (by omega), if_pos (by omega), er, w64 (n := a - ((l[i]).f2.size : Int)) (by omega), if_neg c, Option.bind_some, if_neg c, w64 (n := (i : Int) + 1) (by omega)]
    exact e2 m (by omega)
   refine ⟨s, e k (Nat.le_refl _), e, ?_⟩
   rcases e3 with e3 | ⟨e3, e4, e5⟩
   ·exact .inl e3
   ·refine .inr ⟨e3, by omega, fun j h5 h6 => ?_⟩
    by_cases q : j = i
    ·subst q; omega
    ·exact e5 j (by omega) h6
theorem sz_CueS (l : List S40) (a : Int) (h0 : 0 ≤ a) (h1 : a ≤ 1000000) (hl : l.length ≤ maxLen) (hp : ∀ x ∈ l, x.f2.size ≤ maxLen) :
  ∃ s, Evt (fun k => laws_szCueS.f k l a = some s) ∧ (s < 0 ∨ (0 ≤ s ∧ s ≤ a ∧ l.length ≤ 1000000 ∧ ∀ x ∈ l, x.f2.size ≤ 1000000)) := by
 have hm : maxLen = 9223372036854775807 := rfl
 by_cases h : a - (l.length : Int) < 0
 ·refine ⟨-1, Evt.of fun k => ?_, .inl (by omega)⟩
  unfold laws_szCueS.f
  rw [w64 (by omega), if_pos h]
 ·obtain ⟨s, _, e2, e3⟩ := sz_CueS_l0 l.length (l.length + 1) l (a - (l.length : Int)) 0 (by omega) (by omega) (by omega) (by omega) (by omega) hp (by omega)
  refine ⟨s, ⟨l.length + 1, fun k hk => ?_⟩, ?_⟩
  ·show laws_szCueS.f k l a = _
   unfold laws_szCueS.f
   rw [w64 (by omega), if_neg h]
   exact e2 k hk
  ·rcases e3 with e3 | ⟨e3, e4, e5⟩
   ·exact .inl e3
   ·refine .inr ⟨e3, by omega, by omega, fun x hx => ?_⟩
    obtain ⟨j, hj, rfl⟩ := List.getElem_of_mem hx
    exact e5 j (by omega) hj
end Go.Proofs.Ytnlbaflbhicooaa.F
namespace Go.Proofs.Ytnlbaflbhicooaa.F
open Go.RowKit Go.Proofs.YtnlbaflbhicooaaW.PrintWords Go.Proofs.YtnlbaflbhicooaaW.PrintLast Go.Proofs.YtnlbaflbhicooaaW.PrintMore
set_option linter.unusedVariables false
set_option linter.unusedSimpArgs false
theorem sz_Show (l0 : List S110) (l1 : List S105) (l2 : List S40) (n0 : l0.length ≤ maxLen) (n1 : l1.length ≤ maxLen) (p1 : ∀ x ∈ l1, x.f0.size ≤ maxLen) (n2 : l2.length ≤ maxLen) (p2 : ∀ x ∈ l2, x.f2.size ≤ maxLen) :
  ∃ s, Evt (fun k => laws_szShow.f k l0 l1 l2 1000000 = some s) ∧ (s < 0 ∨ (0 ≤ s ∧ s ≤ 1000000 ∧ l0.length ≤ 1000000 ∧ (l1.length ≤ 1000000 ∧ ∀ x ∈ l1, x.f0.size ≤ 1000000) ∧ l2.length ≤ 1000000 ∧ ∀ x ∈ l2, x.f2.size ≤ 1000000)) := by
 rcases sz_BarS l0 1000000 (by omega) (by omega) n0 with ⟨z0, e0⟩ | e0
 rotate_left
 ·refine ⟨-1, Evt.of fun k => ?_, .inl (by omega)⟩
  unfold laws_szShow.f
  rw [e0]; rfl
 ·obtain ⟨s1, e1, h1⟩ := sz_ArticleS l1 (1000000 - (l0.length : Int)) (by omega) (by omega) n1 p1
  rcases h1 with h1 | ⟨h1, h2, h3, h4⟩
  ·refine ⟨-1, e1.mono fun k hk => ?_, .inl (by omega)⟩
   unfold laws_szShow.f
   rw [e0]
   simp only [Option.bind_some]
   rw [if_neg (by omega), hk]
   simp only [Option.bind_some]
   rw [if_pos h1]
  ·obtain ⟨s2, e2, g1⟩ := sz_CueS l2 s1 h1 (by omega) n2 p2
   rcases g1 with g1 | ⟨g1, g2, g3, g4⟩
   ·refine ⟨-1, (e1.and e2).mono fun k hk => ?_, .inl (by omega)⟩
    unfold laws_szShow.f
    rw [e0]
    simp only [Option.bind_some]
    rw [if_neg (by omega), hk.1]
    simp only [Option.bind_some]
    rw [if_neg (by omega), hk.2]
    simp only [Option.bind_some]
    rw [if_pos g1]
   ·refine ⟨s2, (e1.and e2).mono fun k hk => ?_, .inr ⟨g1, by omega, by omega, ⟨h3, h4⟩, g3, g4⟩⟩
    unfold laws_szShow.f
    rw [e0]
    simp only [Option.bind_some]
    rw [if_neg (by omega), hk.1]
    simp only [Option.bind_some]
    rw [if_neg (by omega), hk.2]
    simp only [Option.bind_some]
    rw [if_neg (by omega)]
theorem full_Show {l0 : List S110} {l1 : List S105} {l2 : List S40} {L0 : List S108} {L1 : List S92} {L2 : List S43} (h0 : Evt (fun k => full_toBarS.f k l0 false = some L0)) (h1 : Evt (fun k => full_toArticleS.f k l1 false = some L1)) (h2 : Evt (fun k => full_toCueS.f k l2 false = some L2)) : Evt (fun k => full_toShow.f k l0 l1 l2 false = some (L0, L1, L2)) :=
 (h0.and (h1.and h2)).mono fun k h => by
  unfold full_toShow.f
  rw [h.1, h.2.1, h.2.2]; rfl
theorem bare_Show {l0 : List S110} {l1 : List S105} {l2 : List S40} {L0 : List S108} {L1 : List S92} {L2 : List S43} (h0 : Evt (fun k => laws_toBarS.f k l0 true = some L0)) (h1 : Evt (fun k => laws_toArticleS.f k l1 true = some L1)) (h2 : Evt (fun k => laws_toCueS.f k l2 true = some L2)) : Evt (fun k => laws_toShow.f k l0 l1 l2 true = some (L0, L1, L2)) :=
 (h0.and (h1.and h2)).mono fun k h => by
  unfold laws_toShow.f
  rw [h.1, h.2.1, h.2.2]; rfl
end Go.Proofs.Ytnlbaflbhicooaa.F
namespace Go.Proofs.Ytnlbaflbhicooaa.F
open Go.RowKit Go.Proofs.YtnlbaflbhicooaaW.PrintWords Go.Proofs.YtnlbaflbhicooaaW.PrintLast Go.Proofs.YtnlbaflbhicooaaW.PrintMore
set_option linter.unusedVariables false
set_option linter.unusedSimpArgs false
theorem In_eq (n lo hi : Int) : spec_l01In.f n lo hi = some (inB n lo hi) := by
 unfold spec_l01In.f inB
 by_cases h : n ≥ lo
 ·rw [if_pos h]; congr 1; simp; omega
 ·rw [if_neg h]; congr 1; simp; omega
theorem Wi_eq (n lo hi : Int) : impl_within.f n lo hi = some (inB n lo hi) := by
 unfold impl_within.f inB
 by_cases h : lo ≤ n
 ·rw [if_pos h]; congr 1; simp; omega
 ·rw [if_neg h]; congr 1; simp; omega
end Go.Proofs.Ytnlbaflbhicooaa.F
namespace Go.Proofs.Ytnlbaflbhicooaa.F
open Go.RowKit Go.Proofs.YtnlbaflbhicooaaW.PrintWords Go.Proofs.YtnlbaflbhicooaaW.PrintLast Go.Proofs.YtnlbaflbhicooaaW.PrintMore
set_option linter.unusedVariables false
set_option linter.unusedSimpArgs false
def word (s : ByteArray) : Bool := allF (fun j => inB (bt s (j : Int)) 97 122) 0 s.size && inB (s.size : Int) 1 16
theorem spec_word (s : ByteArray) (hs : s.size ≤ 4000000) (k : Nat) (hk : s.size < k) : spec_IsWord.f k s = some (word s) := by
 refine all_loop (f := fun k i => spec_IsWord.l0 k s (i : Int)) s.size (fun k i hi => ?_) (fun k => ?_) s.size k 0 (by omega) (by omega) (by omega)
 ·show spec_IsWord.l0 (k + 1) s i = _
  simp only [spec_IsWord.l0]
  rw [if_pos (by omega), if_pos (by omega), w64 (n := (i : Int) + 1) (by omega)]
  by_cases c1 : bt s (i : Int) < 97
  ·rw [if_pos c1, inB_false.2 (by omega), if_neg (by decide)]
  ·rw [if_neg c1]
   by_cases c2 : bt s (i : Int) > 122
   ·rw [if_pos c2, inB_false.2 (by omega), if_neg (by decide)]
   ·rw [if_neg c2, inB_true.2 (by omega), if_pos rfl]; rfl
 ·show spec_IsWord.l0 (k + 1) s _ = _
  simp only [spec_IsWord.l0]
  rw [if_neg (by omega), In_eq]; rfl
theorem impl_word (s : ByteArray) (hs : s.size ≤ 4000000) (k : Nat) (hk : s.size + 1 < k) : impl_IsWord.f k s = some (word s) := by
 obtain ⟨k, rfl⟩ : ∃ m, k = m + 1 := ⟨k - 1, by omega⟩
 unfold impl_IsWord.f word
 simp only [impl_IsWord.j0]
 by_cases h1 : (s.size : Int) < 1
 ·rw [if_pos h1, if_pos trivial, inB_false.2 (by omega), Bool.and_false]
 ·rw [if_neg h1]
  by_cases h2 : (s.size : Int) > 16
  ·rw [if_pos (decide_eq_true h2), inB_false.2 (by omega), Bool.and_false]
  ·rw [if_neg (by simpa using h2), inB_true.2 (by omega)]
   refine all_loop (f := fun k i => impl_IsWord.l0 k s (i : Int)) s.size (fun k i hi => ?_) (fun k => ?_) s.size k 0 (by omega) (by omega) (by omega)
   ·show impl_IsWord.l0 (k + 1) s i = _
    simp only [impl_IsWord.l0]
    rw [if_pos (by omega), if_pos (by omega), w64 (n := (i : Int) + 1) (by omega)]
    by_cases c1 : bt s (i : Int) < 97
    ·rw [if_pos c1, inB_false.2 (by omega), if_neg (by decide)]
    ·rw [if_neg c1]
     by_cases c2 : bt s (i : Int) > 122
     ·rw [if_pos c2, inB_false.2 (by omega), if_neg (by decide)]
     ·rw [if_neg c2, inB_true.2 (by omega), if_pos rfl]; rfl
   ·show impl_IsWord.l0 (k + 1) s _ = _
    simp only [impl_IsWord.l0]
    rw [if_neg (by omega)]
def art (a : S92) : Bool := word a.f0 && (inB a.f1 0 3 && (inB a.f2 20 300 && (inB a.f3 0 10000 && (inB a.f4 0 a.f3 && (inB a.f5 1 50 && (inB a.f6 0 10000 && (inB a.f7 1 100000 && inB a.f8 0 3)))))))
theorem spec_art (a : S92) (hs : a.f0.size ≤ 4000000) (k : Nat) (hk : a.f0.size < k) : spec_IsArticle.f k a.f0 a.f1 a.f2 a.f3 a.f4 a.f5 a.f6 a.f7 a.f8 = some (art a) := by
 unfold spec_IsArticle.f art
 rw [spec_word a.f0 hs k hk]
 simp only [In_eq, Option.bind_some]
 cases word a.f0 <;> cases inB a.f1 0 3 <;> cases inB a.f2 20 300 <;> cases inB a.f3 0 10000 <;> cases inB a.f4 0 a.f3 <;> cases inB a.f5 1 50 <;> cases inB a.f6 0 10000 <;> cases inB a.f7 1 100000 <;> rfl
theorem impl_art (a : S92) (hs : a.f0.size ≤ 4000000) (k : Nat) (hk : a.f0.size + 1 < k) : impl_IsArticle.f k a.f0 a.f1 a.f2 a.f3 a.f4 a.f5 a.f6 a.f7 a.f8 = some (art a) := by
 unfold impl_IsArticle.f art
 rw [impl_word a.f0 hs k hk]
 simp only [Wi_eq, Option.bind_some]
 cases word a.f0 <;> cases inB a.f1 0 3 <;> cases inB a.f2 20 300 <;> cases inB a.f3 0 10000 <;> cases inB a.f4 0 a.f3 <;> cases inB a.f5 1 50 <;> cases inB a.f6 0 10000 <;> cases inB a.f7 1 100000 <;> rfl
def ar_at (xs : List S92) (i : Nat) : S92 := xs.getD i z92
theorem rd_art (xs : List S92) (i : Nat) : rd_T92 xs (i : Int) = ar_at xs i := by unfold rd_T92 ar_at; rw [Int.toNat_natCast]
def artAt (xs : List S92) (i : Nat) : Bool := art (ar_at xs i) && (decide (i = 0) || Op.bytesLess (ar_at xs (i - 1)).f0.toList (ar_at xs i).f0.toList)
def areArts (xs : List S92) : Bool := allF (artAt xs) 0 xs.length && decide ((xs.length : Int) ≤ 12)
def Small (B : Nat) (xs : List S92) : Prop := B ≤ 1000000 ∧ ∀ x ∈ xs, x.f0.size ≤ B
theorem small_at {B : Nat} {xs : List S92} (h : Small B xs) (i : Nat) (hi : i < xs.length) : (ar_at xs i).f0.size ≤ B := by
 unfold ar_at
 rw [List.getD_eq_getElem?_getD, List.getElem?_eq_getElem hi]
 exact h.2 _ (List.getElem_mem hi)
theorem spec_arts (B : Nat) (xs : List S92) (hx : xs.length ≤ 4000000) (hB : Small B xs) (k : Nat) (hk : xs.length + B < k) : spec_AreArticles.f k xs = some (areArts xs) := by
 have loop : ∀ d k i, xs.length - i = d → i ≤ xs.length → d + B < k → spec_AreArticles.l0 k xs (i : Int) = some (allF (artAt xs) i d && decide ((xs.length : Int) ≤ 12)) := by
  intro d
  induction d with
  | zero =>
   intro k i hd hi hk
   obtain ⟨k, rfl⟩ : ∃ m, k = m + 1 := ⟨k - 1, by omega⟩
   simp only [spec_AreArticles.l0]
   rw [if_neg (by omega)]
   rfl
  | succ d ih =>
   intro k i hd hi hk
   obtain ⟨k, rfl⟩ : ∃ m, k = m + 1 := ⟨k - 1, by omega⟩
   have hb := small_at hB i (by omega)
   have hB1 := hB.1
   have nx := ih k (i + 1) (by omega) (by omega) (by omega)
   simp only [spec_AreArticles.l0]
   rw [if_pos (by omega), if_pos (by omega), rd_art, spec_art _ (by omega) k (by omega), w64 (n := (i : Int) + 1) (by omega)]
   simp only [Option.bind_some]
   unfold allF artAt
   cases ha : art (ar_at xs i) with
   | false => rfl
   | true =>
    rw [if_pos rfl, Bool.true_and]
    by_cases i0 : i = 0
    ·subst i0
     rw [if_neg (by omega), decide_eq_true rfl, Bool.true_or, Bool.true_and]
     exact nx
    ·rw [if_pos (by omega), w64 (n := (i : Int) - 1) (by omega), if_pos (by omega), if_pos (by omega), show (i : Int) - 1 = ((i - 1 : Nat) : Int) by omega, rd_art, decide_eq_false i0, Bool.false_or]
     cases hl : Op.bytesLess (ar_at xs (i - 1)).f0.toList (ar_at xs i).f0.toList with
     | false => rfl
     | true => rw [if_pos rfl, Bool.true_and]; exact nx
 unfold spec_AreArticles.f
 exact loop xs.length k 0 (by omega) (by omega) hk
theorem impl_arts (B : Nat) (xs : List S92) (hx : xs.length ≤ 4000000) (hB : Small B xs) (k : Nat) (hk : xs.length + B + 1 < k) : impl_AreArticles.f k xs = some (areArts xs) := by
 have loop : ∀ d k i, xs.length - i = d → i ≤ xs.length → d + B + 1 < k → impl_AreArticles.l0 k xs xs (xs.length : Int) (i : Int) = some (allF (artAt xs) i d && true) := by
  intro d
  induction d with
  | zero =>
   intro k i hd hi hk
   obtain ⟨k, rfl⟩ : ∃ m, k = m + 1 := ⟨k - 1, by omega⟩
   simp only [impl_AreArticles.l0]
   rw [if_neg (by omega)]
   rfl
  | succ d ih =>
   intro k i hd hi hk
   obtain ⟨k, rfl⟩ : ∃ m, k = m + 1 := ⟨k - 1, by omega⟩
   have hb := small_at hB i (by omega)
   have hB1 := hB.1
   have nx := ih k (i + 1) (by omega) (by omega) (by omega)
   simp only [impl_AreArticles.l0]
   rw [if_pos (by omega), if_pos (by omega), if_pos (by omega), rd_art, impl_art _ (by omega) k (by omega), w64 (n := (i : Int) + 1) (by omega)]
   simp only [Option.bind_some]
   unfold allF artAt
   cases ha : art (ar_at xs i) with
   | false => rfl
   | true =>
    rw [if_pos rfl, Bool.true_and]
    by_cases i0 : i = 0
    ·subst i0
     rw [if_neg (by omega), decide_eq_true rfl, Bool.true_or, Bool.true_and]
     exact nx
    ·rw [if_pos (by omega), w64 (n := (i : Int) - 1) (by omega), if_pos (by omega), if_pos (by omega), show (i : Int) - 1 = ((i - 1 : Nat) : Int) by omega, rd_art, decide_eq_false i0, Bool.false_or]
     cases hl : Op.bytesLess (ar_at xs (i - 1)).f0.toList (ar_at xs i).f0.toList with
     | false => rfl
     | true => rw [if_pos rfl, Bool.true_and]; exact nx
 unfold impl_AreArticles.f areArts
 by_cases c : (xs.length : Int) > 12
 ·rw [if_pos c, decide_eq_false (by omega), Bool.and_false]
 ·rw [if_neg c, decide_eq_true (by omega)]
  exact loop xs.length k 0 (by omega) (by omega) hk
def findF (xs : List S92) (s : ByteArray) : Nat → Nat → Int
 | _, 0 => -1
 | i, d + 1 => if (ar_at xs i).f0.toList = s.toList then (i : Int) else findF xs s (i + 1) d
def find (xs : List S92) (s : ByteArray) : Int := findF xs s 0 xs.length
theorem find_go (xs : List S92) (hx : xs.length ≤ 4000000) (s : ByteArray) : ∀ d k i, xs.length - i = d → i ≤ xs.length → d < k → spec_l03Find.l0 k xs s (i : Int) = some (findF xs s i d) ∧ impl_articleOf.l0 k s xs (xs.length : Int) (i : Int) = some (findF xs s i d) := by
 intro d
 induction d with
 | zero =>
  intro k i hd hi hk
  obtain ⟨k, rfl⟩ : ∃ m, k = m + 1 := ⟨k - 1, by omega⟩
  simp only [spec_l03Find.l0, impl_articleOf.l0]
  rw [if_neg (by omega), if_neg (by omega)]
  exact ⟨rfl, rfl⟩
 | succ d ih =>
  intro k i hd hi hk
  obtain ⟨k, rfl⟩ : ∃ m, k = m + 1 := ⟨k - 1, by omega⟩
  obtain ⟨a, b⟩ := ih k (i + 1) (by omega) (by omega) (by omega)
  have w : wrap64 ((i : Int) + 1) = ((i + 1 : Nat) : Int) := w64 (by omega)
  have g1 : (i : Int) < (xs.length : Int) := by clear w; omega
  have g2 : 0 ≤ (i : Int) := by clear w; omega
  simp only [spec_l03Find.l0, impl_articleOf.l0, if_pos g1, if_pos g2, rd_art, w]
  unfold findF
  by_cases c : (ar_at xs i).f0.toList = s.toList
  ·rw [if_pos c, if_pos c, if_pos c]; exact ⟨rfl, rfl⟩
  ·rw [if_neg c, if_neg c, if_neg c]; exact ⟨a, b⟩
theorem spec_find (xs : List S92) (hx : xs.length ≤ 4000000) (s : ByteArray) (k : Nat) (hk : xs.length < k) : spec_l03Find.f k xs s = some (find xs s) := (find_go xs hx s xs.length k 0 (by omega) (by omega) hk).1
theorem impl_find (xs : List S92) (hx : xs.length ≤ 4000000) (s : ByteArray) (k : Nat) (hk : xs.length < k) : impl_articleOf.f k xs s = some (find xs s) := (find_go xs hx s xs.length k 0 (by omega) (by omega) hk).2
theorem findF_range (xs : List S92) (s : ByteArray) : ∀ d i, findF xs s i d = -1 ∨ ((i : Int) ≤ findF xs s i d ∧ findF xs s i d < (i : Int) + d)
 | 0, _ => .inl rfl
 | d + 1, i => by
  unfold findF
  by_cases c : (ar_at xs i).f0.toList = s.toList
  ·rw [if_pos c]; exact .inr ⟨Int.le_refl _, by omega⟩
  ·rw [if_neg c]
   rcases findF_range xs s d (i + 1) with h | h
   ·exact .inl h
   ·exact .inr ⟨by omega, by omega⟩
theorem find_range (xs : List S92) (s : ByteArray) : find xs s = -1 ∨ (0 ≤ find xs s ∧ find xs s < (xs.length : Int)) := by
 have := findF_range xs s xs.length 0
 unfold find
 omega
end Go.Proofs.Ytnlbaflbhicooaa.F
namespace Go.Proofs.Ytnlbaflbhicooaa.F
open Go.RowKit Go.Proofs.YtnlbaflbhicooaaW.PrintWords Go.Proofs.YtnlbaflbhicooaaW.PrintLast Go.Proofs.YtnlbaflbhicooaaW.PrintMore
set_option linter.unusedVariables false
set_option linter.unusedSimpArgs false
def bt_at (xs : List S108) (i : Nat) : Int := (xs.getD i z108).f0
def ln_at (xs : List S108) (i : Nat) : Int := (xs.getD i z108).f1
def barAt (xs : List S108) (i : Nat) : Bool := inB (bt_at xs i) 1 16 && inB (ln_at xs i) 100 5000
def isScore (xs : List S108) : Bool := allF (barAt xs) 0 xs.length && inB (xs.length : Int) 1 20
theorem rd_bar (xs : List S108) (i : Nat) : rd_T108 xs (i : Int) = xs.getD i z108 := by unfold rd_T108; rw [Int.toNat_natCast]
theorem spec_score (xs : List S108) (hx : xs.length ≤ 4000000) (k : Nat) (hk : xs.length < k) : spec_IsScore.f k xs = some (isScore xs) := by
 refine all_loop (f := fun k i => spec_IsScore.l0 k xs (i : Int)) xs.length (fun k i hi => ?_) (fun k => ?_) xs.length k 0 (by omega) (by omega) (by omega)
 ·show spec_IsScore.l0 (k + 1) xs i = _
  simp only [spec_IsScore.l0, In_eq, Option.bind_some]
  rw [if_pos (by omega), if_pos (by omega), w64 (by omega), rd_bar]
  unfold barAt bt_at ln_at
  cases inB (xs.getD i z108).f0 1 16 <;> cases inB (xs.getD i z108).f1 100 5000 <;> rfl
 ·show spec_IsScore.l0 (k + 1) xs _ = _
  simp only [spec_IsScore.l0, In_eq, Option.bind_some]
  rw [if_neg (by omega)]
theorem impl_score (xs : List S108) (hx : xs.length ≤ 4000000) (k : Nat) (hk : xs.length + 1 < k) : impl_IsScore.f k xs = some (isScore xs) := by
 obtain ⟨k, rfl⟩ : ∃ m, k = m + 1 := ⟨k - 1, by omega⟩
 unfold impl_IsScore.f isScore
 simp only [impl_IsScore.j0]
 by_cases h1 : (xs.length : Int) < 1
 ·rw [if_pos h1, if_pos trivial, inB_false.2 (by omega), Bool.and_false]
 ·rw [if_neg h1]
  by_cases h2 : (xs.length : Int) > 20
  ·rw [if_pos (decide_eq_true h2), inB_false.2 (by omega), Bool.and_false]
  ·rw [if_neg (by simpa using h2), inB_true.2 (by omega)]
   refine all_loop (f := fun k i => impl_IsScore.l0 k xs (xs.length : Int) (i : Int)) xs.length (fun k i hi => ?_) (fun k => ?_) xs.length k 0 (by omega) (by omega) (by omega)
   ·show impl_IsScore.l0 (k + 1) xs (xs.length : Int) i = _
    simp only [impl_IsScore.l0, Wi_eq, Option.bind_some]
    rw [if_pos (by omega), if_pos (by omega), if_pos (by omega), w64 (by omega), rd_bar]
    unfold barAt bt_at ln_at
    cases inB (xs.getD i z108).f0 1 16 <;> cases inB (xs.getD i z108).f1 100 5000 <;> rfl
   ·show impl_IsScore.l0 (k + 1) xs (xs.length : Int) _ = _
    simp only [impl_IsScore.l0]
    rw [if_neg (by omega)]
theorem isScore_true {xs : List S108} (h : isScore xs = true) : 1 ≤ xs.length ∧ xs.length ≤ 20 ∧ ∀ i, i < xs.length → 1 ≤ bt_at xs i ∧ bt_at xs i ≤ 16 ∧ 100 ≤ ln_at xs i ∧ ln_at xs i ≤ 5000 := by
 unfold isScore at h
 rw [Bool.and_eq_true, allF_true, inB_true] at h
 refine ⟨by omega, by omega, fun i hi => ?_⟩
 have := h.1 i (by omega) (by omega)
 unfold barAt at this
 rw [Bool.and_eq_true, inB_true, inB_true] at this
 omega
def tm (xs : List S108) (i : Nat) : Int := foldF (fun j s => s + bt_at xs j * ln_at xs j) 0 i 0
theorem tm_succ (xs : List S108) (i : Nat) : tm xs (i + 1) = tm xs i + bt_at xs i * ln_at xs i := by
 unfold tm
 rw [foldF_snoc, Nat.zero_add]
theorem prod_le {a b : Int} (h : 1 ≤ a ∧ a ≤ 16 ∧ 100 ≤ b ∧ b ≤ 5000) : 100 ≤ a * b ∧ a * b ≤ 80000 := by
 have h1 : 1 * b ≤ a * b := Int.mul_le_mul_of_nonneg_right h.1 (by omega)
 have h2 : a * b ≤ 16 * b := Int.mul_le_mul_of_nonneg_right h.2.1 (by omega)
 omega
theorem tm_le {xs : List S108} (h : isScore xs = true) : ∀ i, i ≤ xs.length → 0 ≤ tm xs i ∧ tm xs i ≤ 80000 * i
 | 0, _ => by unfold tm foldF; omega
 | i + 1, hi => by
  have h1 := tm_le h i (by omega)
  have h2 := prod_le ((isScore_true h).2.2 i (by omega))
  rw [tm_succ]
  omega
end Go.Proofs.Ytnlbaflbhicooaa.F
namespace Go.Proofs.Ytnlbaflbhicooaa.F
open Go.RowKit Go.Proofs.YtnlbaflbhicooaaW.PrintWords Go.Proofs.YtnlbaflbhicooaaW.PrintLast Go.Proofs.YtnlbaflbhicooaaW.PrintMore
set_option linter.unusedVariables false
set_option linter.unusedSimpArgs false
theorem spec_time {xs : List S108} (h : isScore xs = true) (bar : Nat) (hb : bar < xs.length) (beat : Int) (h0 : 0 ≤ beat ∧ beat ≤ 16) (k : Nat) (hk : bar < k) : spec_l07Time.f k xs (bar : Int) beat = some (tm xs bar + beat * ln_at xs bar) := by
 have hs := isScore_true h
 have hl := hs.2.2 bar hb
 have hb2 : 0 ≤ beat * ln_at xs bar ∧ beat * ln_at xs bar ≤ 80000 := by
  have h1 : 0 * ln_at xs bar ≤ beat * ln_at xs bar := Int.mul_le_mul_of_nonneg_right h0.1 (by omega)
  have h2 : beat * ln_at xs bar ≤ 16 * ln_at xs bar := Int.mul_le_mul_of_nonneg_right h0.2 (by omega)
  omega
 refine fold_loop (f := fun k i s => spec_l07Time.l0 k xs (bar : Int) beat s (i : Int)) (step := fun j s => s + bt_at xs j * ln_at xs j) (I := fun i s => s = tm xs i) (e := fun s => some (s + beat * ln_at xs bar)) bar (fun k i s hi hI => ?_) (fun i s hi hI => ?_) (fun k s hI => ?_) bar k 0 0 (by omega) (by omega) rfl hk
 ·have h1 := tm_le h i (by omega)
  have h2 := prod_le (hs.2.2 i (by omega))
  show spec_l07Time.l0 (k + 1) xs (bar : Int) beat s (i : Int) = spec_l07Time.l0 k xs (bar : Int) beat (s + bt_at xs i * ln_at xs i) ((i + 1 : Nat) : Int)
  simp only [spec_l07Time.l0]
  rw [if_pos (by omega), if_pos (by omega), if_pos (by omega), rd_bar]
  show spec_l07Time.l0 k xs (bar : Int) beat (wrap64 (s + wrap64 (bt_at xs i * ln_at xs i))) (wrap64 ((i : Int) + 1)) = _
  rw [w64 (n := bt_at xs i * ln_at xs i) (by omega), w64 (n := s + _) (by omega), w64 (by omega)]
  rfl
 ·show s + bt_at xs i * ln_at xs i = tm xs (i + 1)
  rw [tm_succ, hI]
 ·have h1 := tm_le h bar (by omega)
  show spec_l07Time.l0 (k + 1) xs (bar : Int) beat s (bar : Int) = some (s + beat * ln_at xs bar)
  simp only [spec_l07Time.l0]
  rw [if_neg (by omega), if_pos (by omega), if_pos (by omega), rd_bar]
  show some (wrap64 (s + wrap64 (beat * ln_at xs bar))) = _
  rw [w64 (n := beat * ln_at xs bar) (by omega), w64 (by omega)]
theorem impl_time {xs : List S108} (h : isScore xs = true) (bar : Nat) (beat : Int) (hb : bar < xs.length ∨ (bar = xs.length ∧ beat = 0)) (h0 : 0 ≤ beat ∧ beat ≤ 16) (k : Nat) (hk : bar < k) : impl_beatTime.f k xs (bar : Int) beat = some (tm xs bar + beat * ln_at xs bar) := by
 have hs := isScore_true h
 have hlen : (xs.take bar).length = bar := by rw [List.length_take]; omega
 unfold impl_beatTime.f
 rw [if_pos (by omega), if_pos (by omega), Int.toNat_natCast]
 simp only [Option.bind_some]
 rw [hlen]
 refine fold_loop (f := fun k i s => impl_beatTime.l0 k xs (bar : Int) beat s (xs.take bar) (bar : Int) (i : Int)) (step := fun j s => s + bt_at xs j * ln_at xs j) (I := fun i s => s = tm xs i) (e := fun s => some (s + beat * ln_at xs bar)) bar (fun k i s hi hI => ?_) (fun i s hi hI => ?_) (fun k s hI => ?_) bar k 0 0 (by omega) (by omega) rfl hk
 ·have h1 := tm_le h i (by omega)
  have h2 := prod_le (hs.2.2 i (by omega))
  show impl_beatTime.l0 (k + 1) xs (bar : Int) beat s (xs.take bar) (bar : Int) (i : Int) = impl_beatTime.l0 k xs (bar : Int) beat (s + bt_at xs i * ln_at xs i) (xs.take bar) (bar : Int) ((i + 1 : Nat) : Int)
  simp only [impl_beatTime.l0]
  rw [if_pos (by omega), if_pos (by omega), if_pos (by rw [hlen]; omega), rd_bar, getD_take _ _ _ _ hi]
  show impl_beatTime.l0 k xs (bar : Int) beat (wrap64 (s + wrap64 (bt_at xs i * ln_at xs i))) (xs.take bar) (bar : Int) (wrap64 ((i : Int) + 1)) = _
  rw [w64 (n := bt_at xs i * ln_at xs i) (by omega), w64 (n := s + _) (by omega), w64 (by omega)]
  rfl
 ·show s + bt_at xs i * ln_at xs i = tm xs (i + 1)
  rw [tm_succ, hI]
 ·have h1 := tm_le h bar (by omega)
  show impl_beatTime.l0 (k + 1) xs (bar : Int) beat s (xs.take bar) (bar : Int) (bar : Int) = some (s + beat * ln_at xs bar)
  simp only [impl_beatTime.l0]
  rw [if_neg (by omega)]
  by_cases hp : beat > 0
  ·have hlt : bar < xs.length := by omega
   have hl := hs.2.2 bar hlt
   have hb2 : 0 ≤ beat * ln_at xs bar ∧ beat * ln_at xs bar ≤ 80000 := by
    have h1 : 0 * ln_at xs bar ≤ beat * ln_at xs bar := Int.mul_le_mul_of_nonneg_right h0.1 (by omega)
    have h2 : beat * ln_at xs bar ≤ 16 * ln_at xs bar := Int.mul_le_mul_of_nonneg_right h0.2 (by omega)
    omega
   rw [if_pos hp, if_pos (by omega), if_pos (by omega), rd_bar]
   show some (wrap64 (s + wrap64 (beat * ln_at xs bar))) = _
   rw [w64 (n := beat * ln_at xs bar) (by omega), w64 (by omega)]
  ·have e : beat = 0 := by omega
   rw [if_neg hp, e, Int.zero_mul, Int.add_zero]
end Go.Proofs.Ytnlbaflbhicooaa.F
namespace Go.Proofs.Ytnlbaflbhicooaa.F
open Go.RowKit Go.Proofs.YtnlbaflbhicooaaW.PrintWords Go.Proofs.YtnlbaflbhicooaaW.PrintLast Go.Proofs.YtnlbaflbhicooaaW.PrintMore
set_option linter.unusedVariables false
set_option linter.unusedSimpArgs false
theorem index_eq (a n : Int) : impl_isIndex.f a n = some (inB a 0 (wrap64 (n - 1))) := by
 unfold impl_isIndex.f
 simp only [Wi_eq, Option.bind_some]
end Go.Proofs.Ytnlbaflbhicooaa.F
namespace Go.Proofs.Ytnlbaflbhicooaa.F
open Go.RowKit Go.Proofs.YtnlbaflbhicooaaW.PrintWords Go.Proofs.YtnlbaflbhicooaaW.PrintLast Go.Proofs.YtnlbaflbhicooaaW.PrintMore
set_option linter.unusedVariables false
set_option linter.unusedSimpArgs false
def hasBeat (xs : List S108) (bar beat : Int) : Bool := inB bar 0 ((xs.length : Int) - 1) && inB beat 0 (bt_at xs bar.toNat - 1)
theorem hasBeat_true {xs : List S108} {bar beat : Int} (h : hasBeat xs bar beat = true) : ∃ b : Nat, bar = b ∧ b < xs.length ∧ 0 ≤ beat ∧ beat ≤ bt_at xs b - 1 := by
 unfold hasBeat at h
 rw [Bool.and_eq_true, inB_true, inB_true] at h
 exact ⟨bar.toNat, by omega, by omega, h.2⟩
theorem spec_has {xs : List S108} (h : isScore xs = true) (bar beat : Int) : spec_l07Has.f xs bar beat = some (hasBeat xs bar beat) := by
 have hs := isScore_true h
 unfold spec_l07Has.f hasBeat
 rw [w64 (n := (xs.length : Int) - 1) (by omega), In_eq]
 simp only [Option.bind_some]
 cases g : inB bar 0 ((xs.length : Int) - 1) with
 | false => rfl
 | true =>
  rw [inB_true] at g
  obtain ⟨b, rfl⟩ : ∃ n : Nat, bar = n := ⟨bar.toNat, by omega⟩
  have hb := hs.2.2 b (by omega)
  rw [if_pos rfl, if_pos (by omega), if_pos (by omega), rd_bar]
  show ((spec_l01In.f beat 0 (wrap64 (bt_at xs b - 1))).bind fun t => some t) = _
  rw [w64 (by omega), In_eq]; rfl
theorem impl_has {xs : List S108} (h : isScore xs = true) (bar beat : Int) : impl_isBeat.f xs bar beat = some (hasBeat xs bar beat) := by
 have hs := isScore_true h
 unfold impl_isBeat.f hasBeat
 rw [index_eq, w64 (n := (xs.length : Int) - 1) (by omega)]
 simp only [Option.bind_some]
 cases g : inB bar 0 ((xs.length : Int) - 1) with
 | false => rfl
 | true =>
  rw [inB_true] at g
  obtain ⟨b, rfl⟩ : ∃ n : Nat, bar = n := ⟨bar.toNat, by omega⟩
  have hb := hs.2.2 b (by omega)
  rw [if_pos rfl, if_pos (by omega), if_pos (by omega), rd_bar]
  show ((impl_within.f beat 0 (wrap64 (bt_at xs b - 1))).bind fun t => some t) = _
  rw [w64 (by omega), Wi_eq]; rfl
end Go.Proofs.Ytnlbaflbhicooaa.F
namespace Go.Proofs.Ytnlbaflbhicooaa.F
open Go.RowKit Go.Proofs.YtnlbaflbhicooaaW.PrintWords Go.Proofs.YtnlbaflbhicooaaW.PrintLast Go.Proofs.YtnlbaflbhicooaaW.PrintMore
set_option linter.unusedVariables false
set_option linter.unusedSimpArgs false
def cu_at (C : List S43) (i : Nat) : S43 := C.getD i z43
theorem rd_cue (C : List S43) (i : Nat) : rd_T43 C (i : Int) = cu_at C i := by unfold rd_T43 cu_at; rw [Int.toNat_natCast]
def arOf (B : List S92) (c : S43) : S92 := ar_at B (find B c.f2).toNat
def ftime (A : List S108) (B : List S92) (c : S43) : Int := tm A c.f0.toNat + c.f1 * ln_at A c.f0.toNat - (arOf B c).f3
theorem areArts_true {xs : List S92} (h : areArts xs = true) : xs.length ≤ 12 ∧ ∀ i, i < xs.length → art (ar_at xs i) = true := by
 unfold areArts at h
 rw [Bool.and_eq_true, allF_true, decide_eq_true_iff] at h
 refine ⟨by omega, fun i hi => ?_⟩
 have := h.1 i (by omega) (by omega)
 unfold artAt at this
 rw [Bool.and_eq_true] at this
 exact this.1
theorem art_true {a : S92} (h : art a = true) : (0 ≤ a.f1 ∧ a.f1 ≤ 3) ∧ (20 ≤ a.f2 ∧ a.f2 ≤ 300) ∧ (0 ≤ a.f3 ∧ a.f3 ≤ 10000) ∧ (0 ≤ a.f4 ∧ a.f4 ≤ a.f3) ∧ (1 ≤ a.f5 ∧ a.f5 ≤ 50) ∧ (0 ≤ a.f6 ∧ a.f6 ≤ 10000) ∧ (1 ≤ a.f7 ∧ a.f7 ≤ 100000) ∧ 0 ≤ a.f8 ∧ a.f8 ≤ 3 := by
 unfold art at h
 simp only [Bool.and_eq_true, inB_true] at h
 exact h.2
theorem arOf_ok {B : List S92} (hB : areArts B = true) {c : S43} (hc : 0 ≤ find B c.f2) : art (arOf B c) = true ∧ find B c.f2 < (B.length : Int) := by
 rcases find_range B c.f2 with h | h
 ·omega
 ·exact ⟨(areArts_true hB).2 _ (by omega), h.2⟩
theorem time_range {A : List S108} (hA : isScore A = true) {b : Nat} (hb : b < A.length) {e : Int} (he : 0 ≤ e ∧ e ≤ bt_at A b - 1) : 0 ≤ tm A b + e * ln_at A b ∧ tm A b + e * ln_at A b ≤ 2000000 := by
 have hs := isScore_true hA
 have hl := hs.2.2 b hb
 have ht := tm_le hA b (by omega)
 have h1 : 0 ≤ e * ln_at A b := Int.mul_nonneg he.1 (by omega)
 have h2 : e * ln_at A b ≤ 16 * ln_at A b := Int.mul_le_mul_of_nonneg_right (by omega) (by omega)
 omega
theorem ftime_range {A : List S108} (hA : isScore A = true) {B : List S92} (hB : areArts B = true) {c : S43} (hc : 0 ≤ find B c.f2) (hb : hasBeat A c.f0 c.f1 = true) : -10000 ≤ ftime A B c ∧ ftime A B c ≤ 2000000 := by
 obtain ⟨b, e, h1, h2, h3⟩ := hasBeat_true hb
 have ha := art_true (arOf_ok hB hc).1
 have := time_range hA h1 ⟨h2, h3⟩
 unfold ftime
 rw [e, Int.toNat_natCast]
 omega
theorem spec_ftime {A : List S108} (hA : isScore A = true) {B : List S92} (hB : areArts B = true) (C : List S43) {c : S43} (hc : 0 ≤ find B c.f2) (hb : hasBeat A c.f0 c.f1 = true) (k : Nat) (hk : 100 ≤ k) : spec_l08Time.f k A B C c.f0 c.f1 c.f2 c.f3 = some (ftime A B c) := by
 obtain ⟨b, e, h1, h2, h3⟩ := hasBeat_true hb
 have hs := isScore_true hA
 have hl := hs.2.2 b h1
 have hf := arOf_ok hB hc
 have hr := time_range hA h1 ⟨h2, h3⟩
 have ha := art_true hf.1
 have hB12 := (areArts_true hB).1
 have ft : ftime A B c = tm A b + c.f1 * ln_at A b - (arOf B c).f3 := by unfold ftime; rw [e, Int.toNat_natCast]
 unfold spec_l08Time.f
 rw [e, spec_time hA b h1 c.f1 (by omega) k (by omega)]
 simp only [Option.bind_some]
 rw [spec_find B (by omega) c.f2 k (by omega)]
 simp only [Option.bind_some]
 rw [if_pos hc, if_pos hf.2, ft]
 have er : rd_T92 B (find B c.f2) = arOf B c := by
  have := rd_art B (find B c.f2).toNat
  rw [show ((find B c.f2).toNat : Int) = find B c.f2 by omega] at this
  exact this
 rw [er, w64 (by omega)]
theorem impl_ftime {A : List S108} (hA : isScore A = true) {B : List S92} (hB : areArts B = true) (C : List S43) (c : S43) (k : Nat) (hk : 100 ≤ k) : impl_firedAt.f k A B C c.f0 c.f1 c.f2 c.f3 = some (if 0 ≤ find B c.f2 ∧ hasBeat A c.f0 c.f1 = true then mx (-1) (ftime A B c) else -1) := by
 have hs := isScore_true hA
 have hB12 := (areArts_true hB).1
 unfold impl_firedAt.f
 rw [impl_find B (by omega) c.f2 k (by omega)]
 simp only [Option.bind_some]
 by_cases hc : 0 ≤ find B c.f2
 ·rw [if_neg (by omega), impl_has hA]
  simp only [Option.bind_some]
  by_cases hb : hasBeat A c.f0 c.f1 = true
  ·obtain ⟨b, e, h1, h2, h3⟩ := hasBeat_true hb
   have hl := hs.2.2 b h1
   have hf := arOf_ok hB hc
   have hr := time_range hA h1 ⟨h2, h3⟩
   have ha := art_true hf.1
   have ft : ftime A B c = tm A b + c.f1 * ln_at A b - (arOf B c).f3 := by unfold ftime; rw [e, Int.toNat_natCast]
   have er : rd_T92 B (find B c.f2) = arOf B c := by
    have := rd_art B (find B c.f2).toNat
    rw [show ((find B c.f2).toNat : Int) = find B c.f2 by omega] at this
    exact this
   rw [if_pos hb, if_pos (show 0 ≤ find B c.f2 ∧ hasBeat A c.f0 c.f1 = true from ⟨hc, hb⟩), e, impl_time hA b c.f1 (.inl h1) (by omega) k (by omega)]
   simp only [Option.bind_some]
   rw [if_pos hc, if_pos hf.2, er, ft, w64 (by omega)]
  ·rw [if_neg hb, if_neg (show ¬ (0 ≤ find B c.f2 ∧ hasBeat A c.f0 c.f1 = true) from fun x => hb x.2)]
 ·rw [if_pos (by omega), if_neg (show ¬ (0 ≤ find B c.f2 ∧ hasBeat A c.f0 c.f1 = true) from fun x => hc x.1)]
def cueOk (A : List S108) (B : List S92) (c : S43) : Bool := hasBeat A c.f0 c.f1 && (decide (0 ≤ find B c.f2) && (inB c.f3 0 11 && decide (0 ≤ ftime A B c)))
def isShow (A : List S108) (B : List S92) (C : List S43) : Bool := isScore A && (areArts B && (decide ((C.length : Int) ≤ 20) && allF (fun i => cueOk A B (cu_at C i)) 0 C.length))
theorem cueOk_true {A : List S108} {B : List S92} {c : S43} (h : cueOk A B c = true) : hasBeat A c.f0 c.f1 = true ∧ 0 ≤ find B c.f2 ∧ (0 ≤ c.f3 ∧ c.f3 ≤ 11) ∧ 0 ≤ ftime A B c := by
 unfold cueOk at h
 simpa only [Bool.and_eq_true, inB_true, decide_eq_true_iff] using h
theorem isShow_true {A : List S108} {B : List S92} {C : List S43} (h : isShow A B C = true) : isScore A = true ∧ areArts B = true ∧ C.length ≤ 20 ∧ ∀ i, i < C.length → cueOk A B (cu_at C i) = true := by
 unfold isShow at h
 rw [Bool.and_eq_true, Bool.and_eq_true, Bool.and_eq_true, allF_true, decide_eq_true_iff] at h
 exact ⟨h.1, h.2.1, by omega, fun i hi => h.2.2.2 i (by omega) (by omega)⟩
theorem spec_show (n : Nat) (A : List S108) (B : List S92) (C : List S43) (hA : A.length ≤ 1000000) (hB : B.length ≤ 1000000) (hC : C.length ≤ 1000000) (hS : Small n B) (k : Nat) (hk : A.length + B.length + C.length + n + 200 ≤ k) : spec_IsShow.f k A B C = some (isShow A B C) := by
 obtain ⟨k, rfl⟩ : ∃ m, k = m + 1 := ⟨k - 1, by omega⟩
 unfold spec_IsShow.f isShow
 rw [spec_score A (by omega) (k + 1) (by omega)]
 simp only [Option.bind_some]
 cases a : isScore A with
 | false => rfl
 | true =>
  rw [if_pos rfl, spec_arts n B (by omega) hS (k + 1) (by omega)]
  simp only [Option.bind_some]
  cases b : areArts B with
  | false => rfl
  | true =>
   rw [if_pos rfl]
   by_cases c : (C.length : Int) > 20
   ·rw [decide_eq_true c, decide_eq_false (by omega)]; rfl
   ·rw [decide_eq_false c, decide_eq_true (by omega)]
    simp only [spec_IsShow.j0, Bool.false_eq_true, if_false, Bool.true_and]
    have hB12 := (areArts_true b).1
    have loop : ∀ d k i, C.length - i = d → i ≤ C.length → d + 110 ≤ k → spec_IsShow.l0 k (i : Int) A B C = some (allF (fun i => cueOk A B (cu_at C i)) i d) := by
     intro d
     induction d with
     | zero =>
      intro k i hd hi hk
      obtain ⟨k, rfl⟩ : ∃ m, k = m + 1 := ⟨k - 1, by omega⟩
      simp only [spec_IsShow.l0]
      rw [if_neg (by omega)]
      rfl
     | succ d ih =>
      intro k i hd hi hk
      obtain ⟨k, rfl⟩ : ∃ m, k = m + 1 := ⟨k - 1, by omega⟩
      have nx := ih k (i + 1) (by omega) (by omega) (by omega)
      simp only [spec_IsShow.l0]
      rw [if_pos (by omega), if_pos (by omega), rd_cue, spec_has a, spec_find B (by omega) _ k (by omega), In_eq, w64 (n := (i : Int) + 1) (by omega)]
      simp only [Option.bind_some]
      unfold allF cueOk
      cases hb : hasBeat A (cu_at C i).f0 (cu_at C i).f1 with
      | false => rfl
      | true =>
       rw [if_pos rfl, Bool.true_and]
       by_cases hf : 0 ≤ find B (cu_at C i).f2
       ·rw [if_neg (by omega), decide_eq_true hf, Bool.true_and]
        cases hr : inB (cu_at C i).f3 0 11 with
        | false => rfl
        | true =>
         rw [if_pos rfl, Bool.true_and, spec_ftime a b C hf hb k (by omega)]
         simp only [Option.bind_some]
         by_cases ht : ftime A B (cu_at C i) < 0
         ·rw [if_pos ht, decide_eq_false (by omega)]; rfl
         ·rw [if_neg ht, decide_eq_true (by omega), Bool.true_and]
          exact nx
       ·rw [if_pos (by omega), decide_eq_false hf]; rfl
    exact loop C.length k 0 (by omega) (by omega) (by omega)
theorem impl_show (n : Nat) (A : List S108) (B : List S92) (C : List S43) (hA : A.length ≤ 1000000) (hB : B.length ≤ 1000000) (hC : C.length ≤ 1000000) (hS : Small n B) (k : Nat) (hk : A.length + B.length + C.length + n + 200 ≤ k) : impl_IsShow.f k A B C = some (isShow A B C) := by
 obtain ⟨k, rfl⟩ : ∃ m, k = m + 1 := ⟨k - 1, by omega⟩
 unfold impl_IsShow.f isShow
 rw [impl_score A (by omega) (k + 1) (by omega)]
 simp only [Option.bind_some]
 cases a : isScore A with
 | false => rfl
 | true =>
  rw [if_pos rfl, impl_arts n B (by omega) hS (k + 1) (by omega)]
  simp only [Option.bind_some]
  cases b : areArts B with
  | false => rfl
  | true =>
   rw [if_pos rfl]
   by_cases c : (C.length : Int) > 20
   ·rw [decide_eq_true c, decide_eq_false (by omega)]; rfl
   ·rw [decide_eq_false c, decide_eq_true (by omega)]
    simp only [impl_IsShow.j0, Bool.false_eq_true, if_false, Bool.true_and]
    have hB12 := (areArts_true b).1
    have loop : ∀ d k i, C.length - i = d → i ≤ C.length → d + 110 ≤ k → impl_IsShow.l0 k C (C.length : Int) (i : Int) A B C = some (allF (fun i => cueOk A B (cu_at C i)) i d) := by
     intro d
     induction d with
     | zero =>
      intro k i hd hi hk
      obtain ⟨k, rfl⟩ : ∃ m, k = m + 1 := ⟨k - 1, by omega⟩
      simp only [impl_IsShow.l0]
      rw [if_neg (by omega)]
      rfl
     | succ d ih =>
      intro k i hd hi hk
      obtain ⟨k, rfl⟩ : ∃ m, k = m + 1 := ⟨k - 1, by omega⟩
      have nx := ih k (i + 1) (by omega) (by omega) (by omega)
      simp only [impl_IsShow.l0]
      rw [if_pos (by omega), if_pos (by omega), if_pos (by omega), rd_cue, Wi_eq, impl_ftime a b C _ k (by omega), w64 (n := (i : Int) + 1) (by omega)]
      simp only [Option.bind_some]
      unfold allF cueOk
      cases hr : inB (cu_at C i).f3 0 11 with
      | false =>
       rw [if_neg (by decide)]
       simp
      | true =>
       rw [if_pos rfl]
       cases hb : hasBeat A (cu_at C i).f0 (cu_at C i).f1 with
       | false =>
        rw [if_neg (show ¬ (0 ≤ find B (cu_at C i).f2 ∧ false = true) from fun x => absurd x.2 (by decide)), if_pos (by omega)]; rfl
       | true =>
        by_cases hf : 0 ≤ find B (cu_at C i).f2
        ·rw [if_pos (show 0 ≤ find B (cu_at C i).f2 ∧ true = true from ⟨hf, rfl⟩), decide_eq_true hf]
         by_cases ht : ftime A B (cu_at C i) < 0
         ·rw [if_pos (by unfold mx; split <;> omega), decide_eq_false (by omega)]; rfl
         ·rw [if_neg (by unfold mx; split <;> omega), decide_eq_true (by omega)]
          exact nx
        ·rw [if_neg (show ¬ (0 ≤ find B (cu_at C i).f2 ∧ true = true) from fun x => hf x.1), if_pos (by omega), decide_eq_false hf]; rfl
    exact loop C.length k 0 (by omega) (by omega) (by omega)
end Go.Proofs.Ytnlbaflbhicooaa.F
namespace Go.Proofs.Ytnlbaflbhicooaa.F
open Go.RowKit Go.Proofs.YtnlbaflbhicooaaW.PrintWords Go.Proofs.YtnlbaflbhicooaaW.PrintLast Go.Proofs.YtnlbaflbhicooaaW.PrintMore
attribute [local go_sem] max2_int min2_int max_two min_two max_three min_three max_four min_four   -- for this text's walks alone
set_option linter.unusedVariables false
set_option linter.unusedSimpArgs false
end Go.Proofs.Ytnlbaflbhicooaa.F
namespace Go.Proofs.Ytnlbaflbhicooaa.F
open Go.RowKit Go.Proofs.YtnlbaflbhicooaaW.PrintWords Go.Proofs.YtnlbaflbhicooaaW.PrintLast Go.Proofs.YtnlbaflbhicooaaW.PrintMore
attribute [local go_sem] max2_int min2_int max_two min_two max_three min_three max_four min_four   -- for this text's walks alone
set_option linter.unusedVariables false
set_option linter.unusedSimpArgs false
end Go.Proofs.Ytnlbaflbhicooaa.F
namespace Go.Proofs.Ytnlbaflbhicooaa.F
open Go.RowKit Go.Proofs.YtnlbaflbhicooaaW.PrintWords Go.Proofs.YtnlbaflbhicooaaW.PrintLast Go.Proofs.YtnlbaflbhicooaaW.PrintMore
set_option linter.unusedVariables false
set_option linter.unusedSimpArgs false
end Go.Proofs.Ytnlbaflbhicooaa.F
namespace Go.Proofs.Ytnlbaflbhicooaa.F
open Go.RowKit Go.Proofs.YtnlbaflbhicooaaW.PrintWords Go.Proofs.YtnlbaflbhicooaaW.PrintLast Go.Proofs.YtnlbaflbhicooaaW.PrintMore
set_option linter.unusedVariables false
set_option linter.unusedSimpArgs false
def Frame (n0 : Nat) (A : List S108) (B : List S92) (C : List S43) : Prop := A.length ≤ 1000000 ∧ B.length ≤ 1000000 ∧ C.length ≤ 1000000 ∧ Small n0 B
theorem ss_ok {n0 : Nat} {A : List S108} {B : List S92} {C : List S43} (h : Frame n0 A B C) (k : Nat) (hk : 4000200 ≤ k) : spec_IsShow.f k A B C = some (isShow A B C) := spec_show n0 A B C h.1 h.2.1 h.2.2.1 h.2.2.2 k (by have := h.1; have := h.2.1; have := h.2.2.1; have := h.2.2.2.1; omega)
theorem si_ok {n0 : Nat} {A : List S108} {B : List S92} {C : List S43} (h : Frame n0 A B C) (k : Nat) (hk : 4000200 ≤ k) : impl_IsShow.f k A B C = some (isShow A B C) := impl_show n0 A B C h.1 h.2.1 h.2.2.1 h.2.2.2 k (by have := h.1; have := h.2.1; have := h.2.2.1; have := h.2.2.2.1; omega)
theorem cu_ok {A : List S108} {B : List S92} {C : List S43} (h : isShow A B C = true) {i : Nat} (hi : i < C.length) : hasBeat A (cu_at C i).f0 (cu_at C i).f1 = true ∧ 0 ≤ find B (cu_at C i).f2 ∧ find B (cu_at C i).f2 < (B.length : Int) ∧ 0 ≤ ftime A B (cu_at C i) ∧ ftime A B (cu_at C i) ≤ 2000000 ∧ art (arOf B (cu_at C i)) = true := by
 obtain ⟨hA, hB, hC, hc⟩ := isShow_true h
 obtain ⟨h1, h2, h3, h4⟩ := cueOk_true (hc i hi)
 have := ftime_range hA hB h2 h1
 have := arOf_ok hB h2
 exact ⟨h1, h2, this.2, h4, by omega, this.1⟩
theorem rd_arOf (B : List S92) (c : S43) (h : 0 ≤ find B c.f2) : rd_T92 B (find B c.f2) = arOf B c := by
 have := rd_art B (find B c.f2).toNat
 rw [show ((find B c.f2).toNat : Int) = find B c.f2 by omega] at this
 exact this
theorem cue_time {A : List S108} {B : List S92} {C : List S43} (h : isShow A B C = true) {i : Nat} (hi : i < C.length) (k : Nat) (hk : 100 ≤ k) : spec_l08Time.f k A B C (cu_at C i).f0 (cu_at C i).f1 (cu_at C i).f2 (cu_at C i).f3 = some (ftime A B (cu_at C i)) ∧ impl_firedAt.f k A B C (cu_at C i).f0 (cu_at C i).f1 (cu_at C i).f2 (cu_at C i).f3 = some (ftime A B (cu_at C i)) := by
 obtain ⟨hA, hB, hC, hc⟩ := isShow_true h
 obtain ⟨h1, h2, h3, h4⟩ := cueOk_true (hc i hi)
 refine ⟨spec_ftime hA hB C h2 h1 k hk, ?_⟩
 rw [impl_ftime hA hB C _ k hk, if_pos (show 0 ≤ find B (cu_at C i).f2 ∧ hasBeat A (cu_at C i).f0 (cu_at C i).f1 = true from ⟨h2, h1⟩)]
 unfold mx
 rw [if_pos (by omega)]
end Go.Proofs.Ytnlbaflbhicooaa.F
namespace Go.Proofs.Ytnlbaflbhicooaa.F
open Go.RowKit Go.Proofs.YtnlbaflbhicooaaW.PrintWords Go.Proofs.YtnlbaflbhicooaaW.PrintLast Go.Proofs.YtnlbaflbhicooaaW.PrintMore
attribute [local go_sem] max2_int min2_int max_two min_two max_three min_three max_four min_four   -- for this text's walks alone
set_option linter.unusedVariables false
set_option linter.unusedSimpArgs false
end Go.Proofs.Ytnlbaflbhicooaa.F
namespace Go.Proofs.Ytnlbaflbhicooaa.F
open Go.RowKit Go.Proofs.YtnlbaflbhicooaaW.PrintWords Go.Proofs.YtnlbaflbhicooaaW.PrintLast Go.Proofs.YtnlbaflbhicooaaW.PrintMore
attribute [local go_sem] max2_int min2_int max_two min_two max_three min_three max_four min_four   -- for this text's walks alone
set_option linter.unusedVariables false
set_option linter.unusedSimpArgs false
end Go.Proofs.Ytnlbaflbhicooaa.F
namespace Go.Proofs.Ytnlbaflbhicooaa.F
open Go.RowKit Go.Proofs.YtnlbaflbhicooaaW.PrintWords Go.Proofs.YtnlbaflbhicooaaW.PrintLast Go.Proofs.YtnlbaflbhicooaaW.PrintMore
set_option linter.unusedVariables false
set_option linter.unusedSimpArgs false
theorem artFor_ok {A : List S108} {B : List S92} {C : List S43} (h : isShow A B C = true) {i : Nat} (hi : i < C.length) (k : Nat) (hk : 100 ≤ k) : impl_articleFor.f k A B C (cu_at C i).f0 (cu_at C i).f1 (cu_at C i).f2 (cu_at C i).f3 = some ((arOf B (cu_at C i)).f0, (arOf B (cu_at C i)).f1, (arOf B (cu_at C i)).f2, (arOf B (cu_at C i)).f3, (arOf B (cu_at C i)).f4, (arOf B (cu_at C i)).f5, (arOf B (cu_at C i)).f6, (arOf B (cu_at C i)).f7, (arOf B (cu_at C i)).f8) := by
 obtain ⟨h1, h2, h3, _⟩ := cu_ok h hi
 have hB := (areArts_true (isShow_true h).2.1).1
 unfold impl_articleFor.f
 rw [impl_find B (by omega) _ k (by omega)]
 simp only [Option.bind_some]
 rw [if_pos h2, if_pos h3, rd_arOf B _ h2]
end Go.Proofs.Ytnlbaflbhicooaa.F
namespace Go.Proofs.Ytnlbaflbhicooaa.F
open Go.RowKit Go.Proofs.YtnlbaflbhicooaaW.PrintWords Go.Proofs.YtnlbaflbhicooaaW.PrintLast Go.Proofs.YtnlbaflbhicooaaW.PrintMore
attribute [local go_sem] max2_int min2_int max_two min_two max_three min_three max_four min_four   -- for this text's walks alone
set_option linter.unusedVariables false
set_option linter.unusedSimpArgs false
end Go.Proofs.Ytnlbaflbhicooaa.F
namespace Go.Proofs.Ytnlbaflbhicooaa.F
open Go.RowKit Go.Proofs.YtnlbaflbhicooaaW.PrintWords Go.Proofs.YtnlbaflbhicooaaW.PrintLast Go.Proofs.YtnlbaflbhicooaaW.PrintMore
attribute [local go_sem] max2_int min2_int max_two min_two max_three min_three max_four min_four   -- for this text's walks alone
set_option linter.unusedVariables false
set_option linter.unusedSimpArgs false
end Go.Proofs.Ytnlbaflbhicooaa.F
namespace Go.Proofs.Ytnlbaflbhicooaa.F
open Go.RowKit Go.Proofs.YtnlbaflbhicooaaW.PrintWords Go.Proofs.YtnlbaflbhicooaaW.PrintLast Go.Proofs.YtnlbaflbhicooaaW.PrintMore
attribute [local go_sem] max2_int min2_int max_two min_two max_three min_three max_four min_four   -- for this text's walks alone
set_option linter.unusedVariables false
set_option linter.unusedSimpArgs false
end Go.Proofs.Ytnlbaflbhicooaa.F
namespace Go.Proofs.Ytnlbaflbhicooaa.F
open Go.RowKit Go.Proofs.YtnlbaflbhicooaaW.PrintWords Go.Proofs.YtnlbaflbhicooaaW.PrintLast Go.Proofs.YtnlbaflbhicooaaW.PrintMore
set_option linter.unusedVariables false
set_option linter.unusedSimpArgs false
theorem shot_range {a : S92} (h : art a = true) {j : Int} (h0 : 0 ≤ j) (h1 : j < a.f5) : 0 ≤ j * a.f6 ∧ j * a.f6 ≤ 490000 := by
 have ha := art_true h
 have h2 : 0 ≤ j * a.f6 := Int.mul_nonneg h0 (by omega)
 have h3 : j * a.f6 ≤ 49 * a.f6 := Int.mul_le_mul_of_nonneg_right (by omega) (by omega)
 omega
end Go.Proofs.Ytnlbaflbhicooaa.F
namespace Go.Proofs.Ytnlbaflbhicooaa.F
open Go.RowKit Go.Proofs.YtnlbaflbhicooaaW.PrintWords Go.Proofs.YtnlbaflbhicooaaW.PrintLast Go.Proofs.YtnlbaflbhicooaaW.PrintMore
set_option linter.unusedVariables false
set_option linter.unusedSimpArgs false
def wlo (A : List S108) (B : List S92) (c : S43) (j : Nat) : Int := ftime A B c + (arOf B c).f3 + (j : Int) * (arOf B c).f6 - (arOf B c).f4
def whi (A : List S108) (B : List S92) (c : S43) (j : Nat) : Int := ftime A B c + (arOf B c).f3 + (j : Int) * (arOf B c).f6 + (arOf B c).f4
def wn (B : List S92) (c : S43) : Nat := (arOf B c).f5.toNat
def cueW2 (A : List S108) (B : List S92) (c : S43) : List (List Int) := (List.range (wn B c)).map (fun j => [wlo A B c j, whi A B c j])
def cueW3 (A : List S108) (B : List S92) (c : S43) (x : Int) : List (List Int) := (List.range (wn B c)).map (fun j => [wlo A B c j, whi A B c j, x])
theorem cueW2_len (A : List S108) (B : List S92) (c : S43) : (cueW2 A B c).length = wn B c := by unfold cueW2; rw [List.length_map, List.length_range]
theorem cueW3_len (A : List S108) (B : List S92) (c : S43) (x : Int) : (cueW3 A B c x).length = wn B c := by unfold cueW3; rw [List.length_map, List.length_range]
theorem rdL_map (f : Nat → List Int) (n j : Nat) (h : j < n) : rd_L9 ((List.range n).map f) (j : Int) = f j := by
 unfold rd_L9
 rw [Int.toNat_natCast, List.getD_eq_getElem?_getD, List.getElem?_map, List.getElem?_range h]; rfl
theorem rdL_cue2 (A : List S108) (B : List S92) (c : S43) {j : Nat} (h : j < wn B c) : rd_L9 (cueW2 A B c) (j : Int) = [wlo A B c j, whi A B c j] := rdL_map _ _ _ h
theorem rd_0 (a : Int) (l : List Int) : rd (a :: l) 0 = a := rfl
theorem rd_1 (a b : Int) (l : List Int) : rd (a :: b :: l) 1 = b := rfl
theorem wn_range {A : List S108} {B : List S92} {C : List S43} (h : isShow A B C = true) {i : Nat} (hi : i < C.length) : 1 ≤ wn B (cu_at C i) ∧ wn B (cu_at C i) ≤ 50 ∧ ((wn B (cu_at C i) : Nat) : Int) = (arOf B (cu_at C i)).f5 := by
 obtain ⟨h1, h2, h3, h4, h5, h6⟩ := cu_ok h hi
 have ha := art_true h6
 unfold wn
 omega
theorem w_range {A : List S108} {B : List S92} {C : List S43} (h : isShow A B C = true) {i : Nat} (hi : i < C.length) {j : Nat} (hj : j < wn B (cu_at C i)) : 0 ≤ wlo A B (cu_at C i) j ∧ wlo A B (cu_at C i) j ≤ whi A B (cu_at C i) j ∧ whi A B (cu_at C i) j ≤ 3000000 ∧ 0 ≤ (j : Int) * (arOf B (cu_at C i)).f6 ∧ (j : Int) * (arOf B (cu_at C i)).f6 ≤ 490000 := by
 obtain ⟨h1, h2, h3, h4, h5, h6⟩ := cu_ok h hi
 have ha := art_true h6
 have hn := wn_range h hi
 have hs := shot_range h6 (j := (j : Int)) (by omega) (by omega)
 unfold wlo whi
 omega
theorem spec_cue {A : List S108} {B : List S92} {C : List S43} (h : isShow A B C = true) {i : Nat} (hi : i < C.length) (k : Nat) (hk : 300 ≤ k) : spec_l09Cue.f k A B C (i : Int) = some (cueW3 A B (cu_at C i) (i : Int)) := by
 obtain ⟨h1, h2, h3, h4, h5, h6⟩ := cu_ok h hi
 have hn := wn_range h hi
 have ha := art_true h6
 have hB := (areArts_true (isShow_true h).2.1).1
 have hC := (isShow_true h).2.2.1
 unfold spec_l09Cue.f
 rw [if_pos (by omega), if_pos (by omega), rd_cue, spec_find B (by omega) _ k (by omega)]
 simp only [Option.bind_some]
 rw [if_pos h2, if_pos h3, rd_arOf B _ h2]
 have st : ∀ d k j, wn B (cu_at C i) - j = d → j ≤ wn B (cu_at C i) → d + 110 ≤ k → spec_l09Cue.l0 k (i : Int) ((List.range j).map (fun j => [wlo A B (cu_at C i) j, whi A B (cu_at C i) j, (i : Int)])) (j : Int) A B C (cu_at C i).f0 (cu_at C i).f1 (cu_at C i).f2 (cu_at C i).f3 (arOf B (cu_at C i)).f0 (arOf B (cu_at C i)).f1 (arOf B (cu_at C i)).f2 (arOf B (cu_at C i)).f3 (arOf B (cu_at C i)).f4 (arOf B (cu_at C i)).f5 (arOf B (cu_at C i)).f6 (arOf B (cu_at C i)).f7 (arOf B (cu_at C i)).f8 = some (cueW3 A B (cu_at C i) (i : Int)) := by
  intro d
  induction d with
  | zero =>
   intro k j hd hj hk
   obtain ⟨k, rfl⟩ : ∃ m, k = m + 1 := ⟨k - 1, by omega⟩
   simp only [spec_l09Cue.l0]
   rw [if_neg (by omega)]
   have e : j = wn B (cu_at C i) := by omega
   subst e
   rfl
  | succ d ih =>
   intro k j hd hj hk
   obtain ⟨k, rfl⟩ : ∃ m, k = m + 1 := ⟨k - 1, by omega⟩
   have r := w_range h hi (show j < wn B (cu_at C i) by omega)
   have nx := ih k (j + 1) (by omega) (by omega) (by omega)
   rw [List.range_succ, List.map_append, List.map_singleton] at nx
   simp only [spec_l09Cue.l0]
   rw [if_pos (by omega), (cue_time h hi k (by omega)).1, w64 (n := (j : Int) + 1) (by omega)]
   simp only [Option.bind_some, spec_l03Window.f]
   have el : wlo A B (cu_at C i) j = ftime A B (cu_at C i) + (arOf B (cu_at C i)).f3 + (j : Int) * (arOf B (cu_at C i)).f6 - (arOf B (cu_at C i)).f4 := rfl
   have eh : whi A B (cu_at C i) j = ftime A B (cu_at C i) + (arOf B (cu_at C i)).f3 + (j : Int) * (arOf B (cu_at C i)).f6 + (arOf B (cu_at C i)).f4 := rfl
   rw [w64 (n := ftime A B (cu_at C i) + (arOf B (cu_at C i)).f3) (by omega), w64 (n := (j : Int) * (arOf B (cu_at C i)).f6) (by omega), w64 (n := ftime A B (cu_at C i) + (arOf B (cu_at C i)).f3 + (j : Int) * (arOf B (cu_at C i)).f6) (by omega), ← el, ← eh, w64 (n := wlo A B (cu_at C i) j) (by omega), w64 (n := whi A B (cu_at C i) j) (by omega), rd_0, rd_1]
   rw [if_pos (by show (0 : Int) < ((2 : Nat) : Int); decide), if_pos (by show (1 : Int) < ((2 : Nat) : Int); decide), if_pos (by rw [List.length_map, List.length_range]; omega)]
   exact nx
 exact st (wn B (cu_at C i)) k 0 (by omega) (by omega) (by omega)
theorem impl_cue {A : List S108} {B : List S92} {C : List S43} (h : isShow A B C = true) {i : Nat} (hi : i < C.length) (k : Nat) (hk : 300 ≤ k) : impl_windowsOfCue.f k A B C (cu_at C i).f0 (cu_at C i).f1 (cu_at C i).f2 (cu_at C i).f3 = some (cueW2 A B (cu_at C i)) := by
 obtain ⟨h1, h2, h3, h4, h5, h6⟩ := cu_ok h hi
 have hn := wn_range h hi
 have ha := art_true h6
 unfold impl_windowsOfCue.f impl_shotWindows.f
 rw [artFor_ok h hi k (by omega)]
 simp only [Option.bind_some]
 rw [(cue_time h hi k (by omega)).2]
 simp only [Option.bind_some]
 have st : ∀ d k j, wn B (cu_at C i) - j = d → j ≤ wn B (cu_at C i) → d + 110 ≤ k → impl_shotWindows.l0 k (ftime A B (cu_at C i)) ((List.range j).map (fun j => [wlo A B (cu_at C i) j, whi A B (cu_at C i) j])) (j : Int) (arOf B (cu_at C i)).f0 (arOf B (cu_at C i)).f1 (arOf B (cu_at C i)).f2 (arOf B (cu_at C i)).f3 (arOf B (cu_at C i)).f4 (arOf B (cu_at C i)).f5 (arOf B (cu_at C i)).f6 (arOf B (cu_at C i)).f7 (arOf B (cu_at C i)).f8 = some (cueW2 A B (cu_at C i)) := by
  intro d
  induction d with
  | zero =>
   intro k j hd hj hk
   obtain ⟨k, rfl⟩ : ∃ m, k = m + 1 := ⟨k - 1, by omega⟩
   simp only [impl_shotWindows.l0]
   rw [if_neg (by omega)]
   have e : j = wn B (cu_at C i) := by omega
   subst e
   rfl
  | succ d ih =>
   intro k j hd hj hk
   obtain ⟨k, rfl⟩ : ∃ m, k = m + 1 := ⟨k - 1, by omega⟩
   have r := w_range h hi (show j < wn B (cu_at C i) by omega)
   have nx := ih k (j + 1) (by omega) (by omega) (by omega)
   rw [List.range_succ, List.map_append, List.map_singleton] at nx
   simp only [impl_shotWindows.l0]
   have el : wlo A B (cu_at C i) j = ftime A B (cu_at C i) + (arOf B (cu_at C i)).f3 + (j : Int) * (arOf B (cu_at C i)).f6 - (arOf B (cu_at C i)).f4 := rfl
   have eh : whi A B (cu_at C i) j = ftime A B (cu_at C i) + (arOf B (cu_at C i)).f3 + (j : Int) * (arOf B (cu_at C i)).f6 + (arOf B (cu_at C i)).f4 := rfl
   rw [if_pos (by omega), if_pos (by rw [List.length_map, List.length_range]; omega), w64 (n := (j : Int) + 1) (by omega), w64 (n := ftime A B (cu_at C i) + (arOf B (cu_at C i)).f3) (by omega), w64 (n := (j : Int) * (arOf B (cu_at C i)).f6) (by omega), w64 (n := ftime A B (cu_at C i) + (arOf B (cu_at C i)).f3 + (j : Int) * (arOf B (cu_at C i)).f6) (by omega), ← el, ← eh, w64 (n := wlo A B (cu_at C i) j) (by omega), w64 (n := whi A B (cu_at C i) j) (by omega)]
   exact nx
 rw [show impl_shotWindows.l0 k (ftime A B (cu_at C i)) ([] : List (List Int)) 0 (arOf B (cu_at C i)).f0 (arOf B (cu_at C i)).f1 (arOf B (cu_at C i)).f2 (arOf B (cu_at C i)).f3 (arOf B (cu_at C i)).f4 (arOf B (cu_at C i)).f5 (arOf B (cu_at C i)).f6 (arOf B (cu_at C i)).f7 (arOf B (cu_at C i)).f8 = some (cueW2 A B (cu_at C i)) from st (wn B (cu_at C i)) k 0 (by omega) (by omega) (by omega)]
 rfl
end Go.Proofs.Ytnlbaflbhicooaa.F
namespace Go.Proofs.Ytnlbaflbhicooaa.F
open Go.RowKit Go.Proofs.YtnlbaflbhicooaaW.PrintWords Go.Proofs.YtnlbaflbhicooaaW.PrintLast Go.Proofs.YtnlbaflbhicooaaW.PrintMore
set_option linter.unusedVariables false
set_option linter.unusedSimpArgs false
def allW (A : List S108) (B : List S92) (C : List S43) : Nat → List (List Int)
 | 0 => []
 | i + 1 => allW A B C i ++ cueW3 A B (cu_at C i) (i : Int)
theorem allW_len {A : List S108} {B : List S92} {C : List S43} (h : isShow A B C = true) : ∀ i, i ≤ C.length → (allW A B C i).length ≤ 50 * i
 | 0, _ => Nat.le_refl _
 | i + 1, hi => by
  have := allW_len h i (by omega)
  have := (wn_range h (show i < C.length by omega)).2.1
  unfold allW
  rw [List.length_append, cueW3_len]; omega
theorem allW_mem {A : List S108} {B : List S92} {C : List S43} : ∀ i w, w ∈ allW A B C i ↔ ∃ a j, a < i ∧ j < wn B (cu_at C a) ∧ w = [wlo A B (cu_at C a) j, whi A B (cu_at C a) j, (a : Int)]
 | 0, w => by
  unfold allW
  exact ⟨fun h => absurd h List.not_mem_nil, fun ⟨a, _, h, _⟩ => absurd h (by omega)⟩
 | i + 1, w => by
  unfold allW
  rw [List.mem_append, allW_mem i w]
  unfold cueW3
  rw [List.mem_map]
  constructor
  ·rintro (⟨a, j, h1, h2⟩ | ⟨j, h1, h2⟩)
   ·exact ⟨a, j, by omega, h2⟩
   ·exact ⟨i, j, by omega, List.mem_range.1 h1, h2.symm⟩
  ·rintro ⟨a, j, h1, h2, h3⟩
   by_cases c : a = i
   ·subst c
    exact .inr ⟨j, List.mem_range.2 h2, h3.symm⟩
   ·exact .inl ⟨a, j, by omega, h2, h3⟩
theorem spec_all {A : List S108} {B : List S92} {C : List S43} (h : isShow A B C = true) (k : Nat) (hk : 500 ≤ k) : spec_l09All.f k A B C = some (allW A B C C.length) := by
 have hC := (isShow_true h).2.2.1
 have st : ∀ d k i, C.length - i = d → i ≤ C.length → d + 310 ≤ k → spec_l09All.l0 k (allW A B C i) (i : Int) A B C = some (allW A B C C.length) := by
  intro d
  induction d with
  | zero =>
   intro k i hd hi hk
   obtain ⟨k, rfl⟩ : ∃ m, k = m + 1 := ⟨k - 1, by omega⟩
   simp only [spec_l09All.l0]
   rw [if_neg (by omega), show i = C.length by omega]
  | succ d ih =>
   intro k i hd hi hk
   obtain ⟨k, rfl⟩ : ∃ m, k = m + 1 := ⟨k - 1, by omega⟩
   have hl := allW_len h i hi
   have hw := (wn_range h (show i < C.length by omega)).2.1
   have nx := ih k (i + 1) (by omega) (by omega) (by omega)
   simp only [spec_l09All.l0]
   rw [if_pos (by omega), spec_cue h (show i < C.length by omega) k (by omega), w64 (n := (i : Int) + 1) (by omega)]
   simp only [Option.bind_some]
   rw [if_pos (by rw [cueW3_len]; omega)]
   exact nx
 exact st C.length k 0 (by omega) (by omega) (by omega)
theorem impl_all {A : List S108} {B : List S92} {C : List S43} (h : isShow A B C = true) : Evt (fun k => impl_windowsOf.f k A B C = some (allW A B C C.length)) := by
 have hC := (isShow_true h).2.2.1
 have inner : ∀ i, i < C.length → ∀ d j, wn B (cu_at C i) - j = d → j ≤ wn B (cu_at C i) → ∀ k, impl_windowsOf.l1 (k + (d + 1)) (allW A B C i ++ ((List.range j).map (fun j => [wlo A B (cu_at C i) j, whi A B (cu_at C i) j, (i : Int)]))) (i : Int) C (C.length : Int) (i : Int) (cueW2 A B (cu_at C i)) ((wn B (cu_at C i) : Nat) : Int) (j : Int) A B C = impl_windowsOf.l0 k (allW A B C (i + 1)) C (C.length : Int) ((i + 1 : Nat) : Int) A B C := by
  intro i hi d
  have hl := allW_len h i (by omega)
  have hw := (wn_range h hi).2.1
  induction d with
  | zero =>
   intro j hd hj k
   simp only [impl_windowsOf.l1]
   rw [if_neg (by omega), w64 (n := (i : Int) + 1) (by omega), show j = wn B (cu_at C i) by omega]
   rfl
  | succ d ih =>
   intro j hd hj k
   have nx := ih (j + 1) (by omega) (by omega) k
   rw [List.range_succ, List.map_append, List.map_singleton, ← List.append_assoc] at nx
   rw [← nx, show k + (d + 1 + 1) = (k + (d + 1)) + 1 by omega]
   simp only [impl_windowsOf.l1]
   rw [if_pos (by omega), if_pos (by omega), cueW2_len, if_pos (by omega), rdL_cue2 _ _ _ (show j < wn B (cu_at C i) by omega), w64 (n := (j : Int) + 1) (by omega), rd_0, rd_1, if_pos (by show (0 : Int) < ((2 : Nat) : Int); decide), if_pos (by show (1 : Int) < ((2 : Nat) : Int); decide), if_pos (by rw [List.length_append, List.length_map, List.length_range]; omega)]
   rfl
 have st : ∀ d i, C.length - i = d → i ≤ C.length → Evt (fun k => impl_windowsOf.l0 k (allW A B C i) C (C.length : Int) (i : Int) A B C = some (allW A B C C.length)) := by
  intro d
  induction d with
  | zero =>
   intro i hd hi
   refine Evt.succ (Evt.of fun k => ?_)
   show impl_windowsOf.l0 (k + 1) _ _ _ (i : Int) _ _ _ = _
   simp only [impl_windowsOf.l0]
   rw [if_neg (by omega), show i = C.length by omega]
  | succ d ih =>
   intro i hd hi
   have hw := (wn_range h (show i < C.length by omega)).2.1
   obtain ⟨K, hK⟩ := ih (i + 1) (by omega) (by omega)
   refine ⟨K + 400, fun k hk => ?_⟩
   obtain ⟨k, rfl⟩ : ∃ m, k = (m + (wn B (cu_at C i) + 1)) + 1 := ⟨k - wn B (cu_at C i) - 2, by omega⟩
   show impl_windowsOf.l0 (k + (wn B (cu_at C i) + 1) + 1) _ _ _ (i : Int) _ _ _ = _
   simp only [impl_windowsOf.l0]
   rw [if_pos (by omega), if_pos (by omega), if_pos (by omega), rd_cue, impl_cue h (show i < C.length by omega) _ (by omega)]
   simp only [Option.bind_some]
   rw [cueW2_len]
   have z := inner i (by omega) (wn B (cu_at C i)) 0 (by omega) (by omega) k
   rw [show (List.range 0).map (fun j => [wlo A B (cu_at C i) j, whi A B (cu_at C i) j, (i : Int)]) = [] from rfl, List.append_nil] at z
   exact z.trans (hK k (by omega))
 obtain ⟨K, hK⟩ := st C.length 0 (by omega) (by omega)
 exact ⟨K, fun k hk => hK k hk⟩
end Go.Proofs.Ytnlbaflbhicooaa.F
namespace Go.Proofs.Ytnlbaflbhicooaa.F
open Go.RowKit Go.Proofs.YtnlbaflbhicooaaW.PrintWords Go.Proofs.YtnlbaflbhicooaaW.PrintLast Go.Proofs.YtnlbaflbhicooaaW.PrintMore
set_option linter.unusedVariables false
set_option linter.unusedSimpArgs false
def BestP (C : Int → Int) (S : List Int) (i : Nat) (t n : Int) : Prop := (i = 0 ∧ n = 0 ∧ t = 0) ∨ (1 ≤ n ∧ (∃ j : Nat, j < i ∧ rd S (j : Int) = t ∧ n = C t) ∧ ∀ j : Nat, j < i → C (rd S (j : Int)) ≤ n ∧ (C (rd S (j : Int)) = n → t ≤ rd S (j : Int)))
theorem best_new {C : Int → Int} {S : List Int} {i : Nat} {t n : Int} (h : BestP C S i t n) (hp : 1 ≤ C (rd S (i : Int))) (hn : C (rd S (i : Int)) > n ∨ (C (rd S (i : Int)) = n ∧ rd S (i : Int) < t)) : BestP C S (i + 1) (rd S (i : Int)) (C (rd S (i : Int))) := by
 refine .inr ⟨hp, ⟨i, by omega, rfl, rfl⟩, fun j hj => ?_⟩
 by_cases e : j = i
 ·subst e; exact ⟨Int.le_refl _, fun _ => Int.le_refl _⟩
 ·rcases h with ⟨h1, h2, h3⟩ | ⟨h1, h2, h3⟩
  ·omega
  ·have := h3 j (by omega)
   refine ⟨by omega, fun x => ?_⟩
   rcases hn with y | ⟨y1, y2⟩
   ·omega
   ·have := this.2 (by omega); omega
theorem best_old {C : Int → Int} {S : List Int} {i : Nat} {t n : Int} (h : BestP C S i t n) (hp : 1 ≤ C (rd S (i : Int))) (hn : ¬ C (rd S (i : Int)) > n) (ht : C (rd S (i : Int)) = n → t ≤ rd S (i : Int)) : BestP C S (i + 1) t n := by
 rcases h with ⟨h1, h2, h3⟩ | ⟨h1, ⟨j0, j1, j2⟩, h3⟩
 ·omega
 ·refine .inr ⟨h1, ⟨j0, by omega, j2⟩, fun j hj => ?_⟩
  by_cases e : j = i
  ·subst e; exact ⟨by omega, ht⟩
  ·exact h3 j (by omega)
end Go.Proofs.Ytnlbaflbhicooaa.F
namespace Go.Proofs.Ytnlbaflbhicooaa.F
open Go.RowKit Go.Proofs.YtnlbaflbhicooaaW.PrintWords Go.Proofs.YtnlbaflbhicooaaW.PrintLast Go.Proofs.YtnlbaflbhicooaaW.PrintMore
set_option linter.unusedVariables false
set_option linter.unusedSimpArgs false
def inW (t : Int) (w : List Int) : Bool := inB t (rd w 0) (rd w 1)
def cntW (W : List (List Int)) (t : Int) : Nat → Nat → Int
 | _, 0 => 0
 | i, d + 1 => (if inW t (rd_L9 W (i : Int)) = true then 1 else 0) + cntW W t (i + 1) d
theorem cntW_le (W : List (List Int)) (t : Int) : ∀ (d i : Nat), 0 ≤ cntW W t i d ∧ cntW W t i d ≤ (d : Int)
 | 0, _ => by unfold cntW; omega
 | d + 1, i => by
  have := cntW_le W t d (i + 1)
  unfold cntW
  split <;> omega
theorem cntW_pos (W : List (List Int)) (t : Int) : ∀ (d i j : Nat), i ≤ j → j < i + d → inW t (rd_L9 W (j : Int)) = true → 1 ≤ cntW W t i d
 | 0, i, j, h1, h2, _ => absurd h2 (by omega)
 | d + 1, i, j, h1, h2, h3 => by
  unfold cntW
  have z := cntW_le W t d (i + 1)
  by_cases c : j = i
  ·subst c
   rw [if_pos h3]; omega
  ·have := cntW_pos W t d (i + 1) j (by omega) (by omega) h3
   split <;> omega
def starts (W : List (List Int)) : List Int := W.map (fun w => rd w 0)
theorem rdL_get {W : List (List Int)} {i : Nat} (h : i < W.length) : rd_L9 W (i : Int) = W[i] := by
 unfold rd_L9
 rw [Int.toNat_natCast, List.getD_eq_getElem?_getD, List.getElem?_eq_getElem h]; rfl
theorem rd_starts (W : List (List Int)) (i : Nat) (h : i < W.length) : rd (starts W) (i : Int) = rd (rd_L9 W (i : Int)) 0 := by
 rw [rdL_get h]
 show (starts W).getD ((i : Int)).toNat 0 = _
 unfold starts
 rw [Int.toNat_natCast, List.getD_eq_getElem?_getD, List.getElem?_map, List.getElem?_eq_getElem h]; rfl
def AreW (W : List (List Int)) : Prop := W.length ≤ 1000 ∧ ∀ i, i < W.length → 2 ≤ (rd_L9 W (i : Int)).length ∧ rd (rd_L9 W (i : Int)) 0 ≤ rd (rd_L9 W (i : Int)) 1
theorem rdL_mem {W : List (List Int)} {i : Nat} (h : i < W.length) : rd_L9 W (i : Int) ∈ W := by
 unfold rd_L9
 rw [Int.toNat_natCast, List.getD_eq_getElem?_getD, List.getElem?_eq_getElem h]
 exact List.getElem_mem h
theorem allW_are {A : List S108} {B : List S92} {C : List S43} (h : isShow A B C = true) : AreW (allW A B C C.length) := by
 have hC := (isShow_true h).2.2.1
 refine ⟨by have := allW_len h C.length (Nat.le_refl _); omega, fun i hi => ?_⟩
 obtain ⟨a, j, h1, h2, e⟩ := (allW_mem _ _).1 (rdL_mem hi)
 rw [e, rd_0, rd_1]
 exact ⟨by show 2 ≤ 3; omega, (w_range h h1 h2).2.1⟩
theorem inW_own {W : List (List Int)} (h : AreW W) {i : Nat} (hi : i < W.length) : inW (rd (rd_L9 W (i : Int)) 0) (rd_L9 W (i : Int)) = true := by
 unfold inW
 rw [inB_true]
 exact ⟨Int.le_refl _, (h.2 i hi).2⟩
def CW (W : List (List Int)) (t : Int) : Int := cntW W t 0 W.length
theorem spec_cnt {W : List (List Int)} (h : AreW W) (t : Int) : ∀ d i (n : Int), W.length - i = d → i ≤ W.length → (0 ≤ n ∧ n ≤ i) → ∀ k, d < k → spec_l09Count.l0 k W t n (i : Int) = some (n + cntW W t i d) := by
 have hl := h.1
 intro d
 induction d with
 | zero =>
  intro i n hd hi hn k hk
  obtain ⟨k, rfl⟩ : ∃ m, k = m + 1 := ⟨k - 1, by omega⟩
  simp only [spec_l09Count.l0]
  rw [if_neg (by omega)]
  unfold cntW
  rw [Int.add_zero]
 | succ d ih =>
  intro i n hd hi hn k hk
  obtain ⟨k, rfl⟩ : ∃ m, k = m + 1 := ⟨k - 1, by omega⟩
  have hw := h.2 i (by omega)
  simp only [spec_l09Count.l0]
  rw [if_pos (by omega), if_pos (by omega), if_pos (by omega), if_pos (by omega), In_eq, w64 (n := n + 1) (by omega), w64 (n := (i : Int) + 1) (by omega)]
  simp only [Option.bind_some]
  unfold cntW inW
  by_cases c : inB t (rd (rd_L9 W (i : Int)) 0) (rd (rd_L9 W (i : Int)) 1) = true
  ·rw [if_pos c, if_pos c]
   have nx := ih (i + 1) (n + 1) (by omega) (by omega) (by omega) k (by omega)
   rw [show n + (1 + cntW W t (i + 1) d) = n + 1 + cntW W t (i + 1) d by omega]
   exact nx
  ·rw [if_neg c, if_neg c]
   have nx := ih (i + 1) n (by omega) (by omega) (by omega) k (by omega)
   rw [Int.zero_add]
   exact nx
theorem impl_cnt {W : List (List Int)} (h : AreW W) (b m t : Int) (si : Nat) (hsi : si < 2000) : ∀ d i (n : Int), W.length - i = d → i ≤ W.length → (0 ≤ n ∧ n ≤ i) → ∀ k, impl_MostAtOnce.l1 (k + (d + 1)) W b m t n W (W.length : Int) (si : Int) W (W.length : Int) (i : Int) = (if n + cntW W t i d > m then impl_MostAtOnce.l0 k W t (n + cntW W t i d) W (W.length : Int) ((si + 1 : Nat) : Int) else (if n + cntW W t i d = m then (if t < b then impl_MostAtOnce.l0 k W t (n + cntW W t i d) W (W.length : Int) ((si + 1 : Nat) : Int) else impl_MostAtOnce.l0 k W b m W (W.length : Int) ((si + 1 : Nat) : Int)) else impl_MostAtOnce.l0 k W b m W (W.length : Int) ((si + 1 : Nat) : Int))) := by
 have hl := h.1
 intro d
 induction d with
 | zero =>
  intro i n hd hi hn k
  simp only [impl_MostAtOnce.l1]
  rw [if_neg (by omega), w64 (n := (si : Int) + 1) (by omega)]
  unfold cntW
  rw [Int.add_zero]
  rfl
 | succ d ih =>
  intro i n hd hi hn k
  have hw := h.2 i (by omega)
  have nx0 := fun m hm => ih (i + 1) m (by omega) (by omega) hm k
  rw [show k + (d + 1 + 1) = (k + (d + 1)) + 1 by omega]
  obtain ⟨Q, hQ⟩ : ∃ Q, Q = k + (d + 1) := ⟨_, rfl⟩
  rw [← hQ] at nx0
  rw [← hQ]
  simp only [impl_MostAtOnce.l1]
  rw [if_pos (by omega), if_pos (by omega), if_pos (by omega), if_pos (by omega), if_pos (by omega), Wi_eq, w64 (n := n + 1) (by omega), w64 (n := (i : Int) + 1) (by omega)]
  simp only [Option.bind_some]
  have e : cntW W t i (d + 1) = (if inW t (rd_L9 W (i : Int)) = true then 1 else 0) + cntW W t (i + 1) d := rfl
  rw [e]
  unfold inW
  by_cases c : inB t (rd (rd_L9 W (i : Int)) 0) (rd (rd_L9 W (i : Int)) 1) = true
  ·rw [if_pos c, if_pos c]
   have nx := nx0 (n + 1) (by omega)
   rw [show n + (1 + cntW W t (i + 1) d) = n + 1 + cntW W t (i + 1) d by omega]
   exact nx
  ·rw [if_neg c, if_neg c]
   have nx := nx0 n (by omega)
   rw [Int.zero_add]
   exact nx
theorem most_go {W : List (List Int)} (h : AreW W) : ∀ d i (b m : Int), W.length - i = d → i ≤ W.length → BestP (CW W) (starts W) i b m → ∃ b' m', BestP (CW W) (starts W) W.length b' m' ∧ Evt (fun k => spec_MostAtOnce.l0 k W b m (i : Int) = some (b', m', 0)) ∧ Evt (fun k => impl_MostAtOnce.l0 k W b m W (W.length : Int) (i : Int) = some (b', m', 0)) := by
 have hl := h.1
 intro d
 induction d with
 | zero =>
  intro i b m hd hi hb
  have e : i = W.length := by omega
  subst e
  refine ⟨b, m, hb, Evt.succ (Evt.of fun k => ?_), Evt.succ (Evt.of fun k => ?_)⟩
  ·show spec_MostAtOnce.l0 (k + 1) W b m (W.length : Int) = _
   simp only [spec_MostAtOnce.l0]
   rw [if_neg (by omega)]
  ·show impl_MostAtOnce.l0 (k + 1) W b m W (W.length : Int) (W.length : Int) = _
   simp only [impl_MostAtOnce.l0]
   rw [if_neg (by omega)]
 | succ d ih =>
  intro i b m hd hi hb
  have hi' : i < W.length := by omega
  have hw := h.2 i hi'
  have rs := rd_starts W i hi'
  have hp : 1 ≤ CW W (rd (starts W) (i : Int)) := by
   rw [rs]
   exact cntW_pos W _ W.length 0 i (by omega) (by omega) (inW_own h hi')
  obtain ⟨t, ht⟩ : ∃ t, t = rd (starts W) (i : Int) := ⟨_, rfl⟩
  obtain ⟨n, hn⟩ : ∃ n, n = CW W t := ⟨_, rfl⟩
  have hz : (0 : Int) + cntW W t 0 W.length = n := by rw [hn]; unfold CW; omega
  have sp : ∀ k, W.length < k → spec_MostAtOnce.l0 (k + 1) W b m (i : Int) = (if n > m then spec_MostAtOnce.l0 k W t n ((i + 1 : Nat) : Int) else (if n = m then (if t < b then spec_MostAtOnce.l0 k W t n ((i + 1 : Nat) : Int) else spec_MostAtOnce.l0 k W b m ((i + 1 : Nat) : Int)) else spec_MostAtOnce.l0 k W b m ((i + 1 : Nat) : Int))) := fun k hk => by
   simp only [spec_MostAtOnce.l0]
   rw [if_pos (by omega), if_pos (by omega), if_pos (by omega), ← rs, ← ht, show spec_l09Count.f k W t = some n from (spec_cnt h t W.length 0 0 (by omega) (by omega) (by omega) k hk).trans (by rw [hz]), w64 (n := (i : Int) + 1) (by omega)]
   rfl
  have im : ∀ k, impl_MostAtOnce.l0 (k + (W.length + 1) + 1) W b m W (W.length : Int) (i : Int) = (if n > m then impl_MostAtOnce.l0 k W t n W (W.length : Int) ((i + 1 : Nat) : Int) else (if n = m then (if t < b then impl_MostAtOnce.l0 k W t n W (W.length : Int) ((i + 1 : Nat) : Int) else impl_MostAtOnce.l0 k W b m W (W.length : Int) ((i + 1 : Nat) : Int)) else impl_MostAtOnce.l0 k W b m W (W.length : Int) ((i + 1 : Nat) : Int))) := fun k => by
   simp only [impl_MostAtOnce.l0]
   rw [if_pos (by omega), if_pos (by omega), if_pos (by omega), if_pos (by omega), ← rs, ← ht]
   have z := impl_cnt h b m t i (by omega) W.length 0 0 (by omega) (by omega) (by omega) k
   rw [hz] at z
   exact z
  have go : ∀ t0 n0, (∀ k, W.length < k → spec_MostAtOnce.l0 (k + 1) W b m (i : Int) = spec_MostAtOnce.l0 k W t0 n0 ((i + 1 : Nat) : Int)) → (∀ k, impl_MostAtOnce.l0 (k + (W.length + 1) + 1) W b m W (W.length : Int) (i : Int) = impl_MostAtOnce.l0 k W t0 n0 W (W.length : Int) ((i + 1 : Nat) : Int)) → BestP (CW W) (starts W) (i + 1) t0 n0 → ∃ b' m', BestP (CW W) (starts W) W.length b' m' ∧ Evt (fun k => spec_MostAtOnce.l0 k W b m (i : Int) = some (b', m', 0)) ∧ Evt (fun k => impl_MostAtOnce.l0 k W b m W (W.length : Int) (i : Int) = some (b', m', 0)) := fun t0 n0 h1 h2 h3 => by
   obtain ⟨b', m', g1, ⟨K1, g2⟩, ⟨K2, g3⟩⟩ := ih (i + 1) t0 n0 (by omega) (by omega) h3
   refine ⟨b', m', g1, ⟨K1 + W.length + 2, fun k hk => ?_⟩, ⟨K2 + W.length + 2, fun k hk => ?_⟩⟩
   ·obtain ⟨k, rfl⟩ : ∃ m, k = m + 1 := ⟨k - 1, by omega⟩
    exact (h1 k (by omega)).trans (g2 k (by omega))
   ·obtain ⟨k, rfl⟩ : ∃ m, k = m + (W.length + 1) + 1 := ⟨k - (W.length + 1) - 1, by omega⟩
    exact (h2 k).trans (g3 k (by omega))
  by_cases c1 : n > m
  ·exact go t n (fun k hk => (sp k hk).trans (if_pos c1)) (fun k => (im k).trans (if_pos c1)) (by
    have z := best_new hb hp (.inl (by rw [← ht, ← hn]; exact c1))
    rw [← ht, ← hn] at z
    exact z)
  ·by_cases c2 : n = m ∧ t < b
   ·exact go t n (fun k hk => by rw [sp k hk, if_neg c1, if_pos c2.1, if_pos c2.2]) (fun k => by rw [im k, if_neg c1, if_pos c2.1, if_pos c2.2]) (by
     have z := best_new hb hp (.inr (by rw [← ht, ← hn]; exact c2))
     rw [← ht, ← hn] at z
     exact z)
   ·exact go b m (fun k hk => by
     rw [sp k hk, if_neg c1]
     by_cases z : n = m
     ·rw [if_pos z, if_neg (fun x => c2 ⟨z, x⟩)]
     ·rw [if_neg z]) (fun k => by
     rw [im k, if_neg c1]
     by_cases z : n = m
     ·rw [if_pos z, if_neg (fun x => c2 ⟨z, x⟩)]
     ·rw [if_neg z]) (best_old hb hp (by rw [← ht, ← hn]; exact c1) (fun x => by
     rw [← ht, ← hn] at x
     rw [← ht]
     by_cases z : t < b
     ·exact absurd ⟨x, z⟩ c2
     ·omega))
theorem most_ok (n0 : Nat) {A : List S108} {B : List S92} {C : List S43} (hF : Frame n0 A B C) : ∃ q1 q2 q3, Evt (fun k => spec_MostAtOnce.f k A B C = some (q1, q2, q3)) ∧ Evt (fun k => impl_MostAtOnce.f k A B C = some (q1, q2, q3)) ∧ (isShow A B C = false → q3 = 1) ∧ (isShow A B C = true → q3 = 0 ∧ BestP (CW (allW A B C C.length)) (starts (allW A B C C.length)) (allW A B C C.length).length q1 q2) := by
 cases h : isShow A B C with
 | false =>
  refine ⟨0, 0, 1, ⟨4000300, fun k hk => ?_⟩, ⟨4000300, fun k hk => ?_⟩, fun _ => rfl, fun x => absurd x (by decide)⟩
  ·show spec_MostAtOnce.f k A B C = _
   unfold spec_MostAtOnce.f
   rw [ss_ok hF k (by omega), h]; rfl
  ·show impl_MostAtOnce.f k A B C = _
   unfold impl_MostAtOnce.f
   rw [si_ok hF k (by omega), h]; rfl
 | true =>
  obtain ⟨b, m, g1, ⟨K1, g2⟩, ⟨K2, g3⟩⟩ := most_go (allW_are h) (allW A B C C.length).length 0 0 0 (by omega) (by omega) (.inl ⟨rfl, rfl, rfl⟩)
  obtain ⟨K, hK⟩ := impl_all h
  refine ⟨b, m, 0, ⟨4000300 + K1, fun k hk => ?_⟩, ⟨4000300 + K2 + K, fun k hk => ?_⟩, fun x => absurd x (by decide), fun _ => ⟨rfl, g1⟩⟩
  ·show spec_MostAtOnce.f k A B C = _
   unfold spec_MostAtOnce.f
   rw [ss_ok hF k (by omega), h]
   simp only [Option.bind_some, if_true]
   rw [spec_all h k (by omega)]
   exact g2 k (by omega)
  ·show impl_MostAtOnce.f k A B C = _
   unfold impl_MostAtOnce.f
   rw [si_ok hF k (by omega), h]
   simp only [Option.bind_some, if_true]
   rw [show impl_windowsOf.f k A B C = _ from hK k (by omega)]
   exact g3 k (by omega)
end Go.Proofs.Ytnlbaflbhicooaa.F
namespace Go.Proofs.Ytnlbaflbhicooaa.F
open Go.RowKit Go.Proofs.YtnlbaflbhicooaaW.PrintWords Go.Proofs.YtnlbaflbhicooaaW.PrintLast Go.Proofs.YtnlbaflbhicooaaW.PrintMore
set_option linter.unusedVariables false
set_option linter.unusedSimpArgs false
theorem main_FnExactMostAtOnce (A : List S108) (B : List S92) (C : List S43) (hA : A.length ≤ 1000000) (hB : B.length ≤ 1000000) (hC : C.length ≤ 1000000) (hS : ∀ x ∈ B, x.f0.size ≤ 1000000) (_ : ∀ x ∈ C, x.f2.size ≤ 1000000) : ∃ q1 q2 q3, Evt (fun k => spec_MostAtOnce.f k A B C = some (q1, q2, q3)) ∧ Evt (fun k => impl_MostAtOnce.f k A B C = some (q1, q2, q3)) := by
 obtain ⟨q1, q2, q3, a, b, _⟩ := most_ok 1000000 (A := A) (B := B) (C := C) ⟨hA, hB, hC, Nat.le_refl _, hS⟩
 exact ⟨q1, q2, q3, a, b⟩
theorem pure_FnExactMostAtOnce : Pure_FnExactMostAtOnce := by
 intro l0_0 l0_1 l0_2 n0_0 p0_0 n0_1 p0_1 n0_2 p0_2
 obtain ⟨s1, zs1, z1⟩ := sz_Show l0_0 l0_1 l0_2 n0_0 n0_1 (fun x hx => (p0_1 x hx).1) n0_2 (fun x hx => (p0_2 x hx).2.2.1)
 rcases z1 with z1 | ⟨z1, z1b, u0, ⟨u1, v1⟩, u2, v2⟩
 ·obtain ⟨k, hk⟩ := zs1.ex
  exact ⟨k, s1, hk, Or.inl z1⟩
 obtain ⟨L0_0, t0_0, ne0_0, tk0_0, ln0_0, le0_0, rm0_0, jn0_0, fa0_0, ta0_0⟩ := to_BarS l0_0 (by omega)
 have eq0_0 := eq_BarS L0_0 (by omega)
 obtain ⟨L0_1, t0_1, ne0_1, tk0_1, ln0_1, le0_1, rm0_1, jn0_1, fa0_1, ta0_1⟩ := to_ArticleS l0_1 (by omega)
 have eq0_1 := eq_ArticleS L0_1 (by omega)
 obtain ⟨L0_2, t0_2, ne0_2, tk0_2, ln0_2, le0_2, rm0_2, jn0_2, fa0_2, ta0_2⟩ := to_CueS l0_2 (by omega)
 have eq0_2 := eq_CueS L0_2 (by omega)
 have fu0 := full_Show fa0_0 fa0_1 fa0_2
 have to0 := bare_Show ta0_0 ta0_1 ta0_2
 obtain ⟨q1, q2, q3, sp, im⟩ := main_FnExactMostAtOnce (l0_0.map conv_BarS) (l0_1.map conv_ArticleS) (l0_2.map conv_CueS) (by rw [ln0_0]; omega) (by rw [ln0_1]; omega) (by rw [ln0_2]; omega) (fun x hx => by obtain ⟨y, hy, rfl⟩ := List.mem_map.1 hx; exact v1 y hy) (fun x hx => by obtain ⟨y, hy, rfl⟩ := List.mem_map.1 hx; exact v2 y hy)
 obtain ⟨k, hzs1, heq0_0, heq0_1, heq0_2, hfu0, hto0, hsp, him⟩ := (zs1.and (eq0_0.and (eq0_1.and (eq0_2.and (fu0.and (to0.and (sp.and im))))))).ex
 exact ⟨k, ⟨s1, hzs1, Or.inr ⟨z1, ⟨L0_0, _, t0_0, L0_1, _, t0_1, L0_2, _, t0_2, q1, q2, q3, { ne0_0 := ne0_0, tk0_0 := tk0_0, ln0_0 := ln0_0, rm0_0 := rm0_0, jn0_0 := jn0_0, eq0_0 := heq0_0, ne0_1 := ne0_1, tk0_1 := tk0_1, ln0_1 := ln0_1, rm0_1 := rm0_1, jn0_1 := jn0_1, eq0_1 := heq0_1, ne0_2 := ne0_2, tk0_2 := tk0_2, ln0_2 := ln0_2, rm0_2 := rm0_2, jn0_2 := jn0_2, eq0_2 := heq0_2, fu0 := hfu0, to0 := hto0, sp := hsp, im := him }⟩⟩⟩⟩
end Go.Proofs.Ytnlbaflbhicooaa.F
namespace Go.Proofs.Ytnlbaflbhicooaa.fnExactMostAtOnce
open Go.ChangeShapes Go.WideShapes Go.ChangeAt Go.RowKit Go.Proofs.Ytnlbaflbhicooaa.F Go.Proofs.YtnlbaflbhicooaaW.PrintWords
open Go.ChangeMaps (open_string shut_string)
set_option linter.unusedVariables false
theorem own : ownKnob Try.prog.godebug = none := by kernel_rfl
theorem laidOut : laidOutB Try.prog = true := by kernel_rfl
set_option maxRecDepth 100000 in
theorem lifted (os : Os) (started : os.Started) (H : Type) (enc : TypeId × Value → H) :
  ReturnsInHanded {} Try.checked os 11 .any (Rows.fnExactMostAtOnceSpec.pre6 enc Try.prog Try.f11 Rows.fnExactMostAtOnceRow.domain false) (Rows.fnExactMostAtOnceSpec.post enc Try.prog Try.f11 false true false false) := by
 refine returnsInHanded_of_change_sized (C := Try.checked) own started Zj Try.func11
  (ChangeSpec.witness6 (enc := enc) (C := Try.checked) false ⟨#[], #[.agg #[.slice none 0 0, .slice none 0 0, .slice none 0 0]], []⟩ 8 Zj Zj Zj Zj) ?_
 intro W base args ds gs before hval0 hW hcnd hsz0 _
 have hval : ∀ (j : Nat) t v, Try.f11.params[j]? = some t → args[j]? = some v → Value.okWide Try.prog W .any base t v := hval0
 have hW' := hW
 obtain ⟨p, q, hA0, hV, rfl, hfz, hnd⟩ := hW
 have hA : DataW.TrodAll enc Try.prog W 0 (fun _ => true) true Try.f11.params.toList args.toList ds p := hA0
 rw [Try.params11] at hA hval
 obtain ⟨v0, vs0, d0, ds0, p0, q0, hargs, rfl, rfl, h0, r0⟩ := trodAll_cons hA
 obtain ⟨rfl, rfl, rfl⟩ := trodAll_nil r0
 obtain rfl : args = #[v0] := by cases args; simp_all
 obtain ⟨rfl, rfl⟩ := trodVars_none hV
 have k0 := h0
 have lt0 : ∀ x ∈ p0, x.block < W.heap.size := by obtain ⟨m, hm⟩ := k0; exact DataW.trod_lt m _ _ _ hm
 obtain ⟨cs0, rfl, _⟩ := okWide_struct Try.underlying26 (hval 0 26 v0 rfl rfl)
 obtain ⟨A0_0, c0_0, l0_0, A0_1, c0_1, l0_1, A0_2, c0_2, l0_2, rfl, ⟨lc0_0, lm0_0, hC0_0, hP0_0⟩, ⟨lc0_1, lm0_1, hC0_1, hP0_1⟩, ⟨lc0_2, lm0_2, hC0_2, hP0_2⟩⟩ : ∃ (A0_0 : Option Addr) (c0_0 : Nat) (l0_0 : List S110) (A0_1 : Option Addr) (c0_1 : Nat) (l0_1 : List S105) (A0_2 : Option Addr) (c0_2 : Nat) (l0_2 : List S40), cs0 = #[.slice A0_0 l0_0.length c0_0, .slice A0_1 l0_1.length c0_1, .slice A0_2 l0_2.length c0_2] ∧ (l0_0.length ≤ c0_0 ∧ c0_0 ≤ maxLen ∧ Kd.C k110 W A0_0 l0_0.length l0_0 ∧ ∀ x ∈ l0_0, Pr110 x) ∧ (l0_1.length ≤ c0_1 ∧ c0_1 ≤ maxLen ∧ Kd.C k105 W A0_1 l0_1.length l0_1 ∧ ∀ x ∈ l0_1, Pr105 x) ∧ (l0_2.length ≤ c0_2 ∧ c0_2 ≤ maxLen ∧ Kd.C k40 W A0_2 l0_2.length l0_2 ∧ ∀ x ∈ l0_2, Pr40 x) := by
  obtain ⟨fuel, hf⟩ := h0
  obtain ⟨z0_0, y0_0, x0_0, z0_1, y0_1, x0_1, z0_2, y0_2, x0_2, hcs, hp⟩ := open_V26 hf
  simp only [Value.cells] at hcs
  exact ⟨z0_0, y0_0, x0_0, z0_1, y0_1, x0_1, z0_2, y0_2, x0_2, by rw [← hcs], hp⟩
 obtain ⟨k, hk⟩ := pure_FnExactMostAtOnce l0_0 l0_1 l0_2 (by omega) hP0_0 (by omega) hP0_1 (by omega) hP0_2
 refine (law_FnExactMostAtOnce k A0_0 c0_0 l0_0 A0_1 c0_1 l0_1 A0_2 c0_2 l0_2 W hC0_0 lc0_0 hC0_1 lc0_1 hC0_2 lc0_2 hk).mono fun e W' ⟨he, bel⟩ => ?_
 subst he
 exact ⟨_, rfl, _, _, _, [], _, [], hW', trodAll_mk1 (shut_bool Try.underlying4 _), (trodAll_cons_mk (Below.trod laidOut Zj (of_decide_eq_true Zj) k0 bel lt0) trodAll_mk0), rfl, bel.frame _, fun h => by cases h⟩
theorem over : Rows.fnExactMostAtOnceRow.holds Try.pinned (OpenSpec.ofChange Rows.fnExactMostAtOnceSpec) :=
 OpenClaim.holds_of_wide 11 Try.f11 rfl rfl rfl rfl rfl rfl rfl ⟨rfl, rfl, rfl, rfl, rfl⟩ rfl rfl rfl rfl rfl Zj Try.func11 GcFnExactMostAtOnce.closed
  (of_decide_eq_true Zj) (by unfold Func.isWrapper; first | (rw [if_pos (by decide +kernel)]; kernel_rfl) | (rw [if_neg (by decide +kernel)]; exact ⟨rfl, rfl⟩))
  (fun os started H enc _ => lifted os started H enc)
theorem proved : Rows.FnExactMostAtOnceSaid := over
end Go.Proofs.Ytnlbaflbhicooaa.fnExactMostAtOnce
namespace Go.Proofs.Ytnlbaflbhicooaa
theorem fnExactMostAtOnce_holds : Rows.FnExactMostAtOnceSaid := fnExactMostAtOnce.proved
#print axioms fnExactMostAtOnce_holds
end Go.Proofs.Ytnlbaflbhicooaa
