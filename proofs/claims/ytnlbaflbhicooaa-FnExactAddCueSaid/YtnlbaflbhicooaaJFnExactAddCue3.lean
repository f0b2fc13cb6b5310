import Derived.Test.YtnlbaflbhicooaaJFnExactAddCue2
import Derived.Below
import Derived.Deep.Draws
import Derived.Deep.AppendLies
import Derived.Maps.AppendAt
import Derived.OwnWalk
import Derived.Laws.BytesArg
import Derived.Laws.MakeOwn
import Derived.Laws.OwnMore
import Derived.Tactics
import Derived.Lib.ConvBytes
import Derived.Laws.Slices
import Derived.WalkKit
import Derived.KernelRfl
import Derived.RowKit3
import Derived.Deep.LoopGhost
import Derived.Deep.QuietTactic
import Derived.BigQuiet
import Derived.WideLaws
import Derived.Deep.DeepCutAuto
import Derived.Deep.CutBlock
import Derived.Deep.RegionHeld3
import Derived.Lib.AppendStr
import Derived.ArgAppend
import Derived.Laws.IdiomCopy
import Derived.RowKit
import Derived.OrdersHeld
import Derived.Laws.BitsLemmas
import Derived.Laws.StructEq
import Derived.Test.YtnlbaflbhicooaaProg
import Derived.ChangeSlices
import Derived.OpenShut
namespace Go.Proofs.Ytnlbaflbhicooaa.F
open Go.RowKit Go.Proofs.YtnlbaflbhicooaaW.PrintWords Go.Proofs.YtnlbaflbhicooaaW.PrintLast Go.Proofs.YtnlbaflbhicooaaW.PrintMore
attribute [local go_sem] max2_int min2_int max_two min_two max_three min_three max_four min_four
set_option linter.unusedVariables false
set_option linter.unusedSimpArgs false
def laws_szArticle.f (a0_0 : ByteArray) (a0_1 : Int) (a0_2 : Int) (a0_3 : Int) (a0_4 : Int) (a0_5 : Int) (a0_6 : Int) (a0_7 : Int) (a0_8 : Int) (a1 : Int) : Option (Int) := if (wrap64 (a1 - (a0_0.size : Int))) < 0 then (some (-1)) else (some (wrap64 (a1 - (a0_0.size : Int))))
set_option maxHeartbeats 8000000 in
set_option maxRecDepth 100000 in
theorem laws_szArticle.calls (a0_0 : ByteArray) (a0_1 : Int) (a0_2 : Int) (a0_3 : Int) (a0_4 : Int) (a0_5 : Int) (a0_6 : Int) (a0_7 : Int) (a0_8 : Int) (a1 : Int) (r : Int) (w : World) (h : laws_szArticle.f a0_0 a0_1 a0_2 a0_3 a0_4 a0_5 a0_6 a0_7 a0_8 a1 = some r) :
  Calls Try.prog 116 #[.agg #[.string a0_0, .int .i64 a0_1, .int .i64 a0_2, .int .i64 a0_3, .int .i64 a0_4, .int .i64 a0_5, .int .i64 a0_6, .int .i64 a0_7, .int .i64 a0_8], .int .i64 a1] w fun e w' => e = .returned (.int .i64 r) ∧ Below w.heap.size w w' := by
 have hu105 := Try.underlying105; have HB := am_ (Below.refl w.heap.size w); have H : (if (wrap64 (a1 - (a0_0.size : Int))) < 0 then (some (-1)) else (some (wrap64 (a1 - (a0_0.size : Int))))) = some r := h; clear h
 by_cases c3 : (wrap64 (a1 - (a0_0.size : Int))) < 0
 ·rw [if_pos c3] at H
  have c3b0 := decide_eq_true c3; clear c3; obtain rfl := Option.some.inj H
  go_enter Try.func116, Try.ntmps116
  go_wp2_with (first | ((with_reducible refine gate_dst (N := 2) rfl ?_); refine boxZ 2 #[.string a0_0, .int .i64 a0_1, .int .i64 a0_2, .int .i64 a0_3, .int .i64 a0_4, .int .i64 a0_5, .int .i64 a0_6, .int .i64 a0_7, .int .i64 a0_8] 105 ?_; intro gb101 hg w4 hbox hb; replace BK101 := am_ (hbox); replace GW101 := am_ ((Zc : w.heap.size ≤ gb101)); replace GE101 := GW101; replace HB := (bsZ Zd hb); clear hb hbox hg; refine ci9 BK101 ?_; intros))
  go_ret
  exact ⟨Zk, (have z0_ := GE101; Zf)⟩
 ·rw [if_neg c3] at H
  have c3b0 := decide_eq_false c3; clear c3; obtain rfl := Option.some.inj H
  go_enter Try.func116, Try.ntmps116
  go_wp2_with (first | ((with_reducible refine gate_dst (N := 2) rfl ?_); refine boxZ 2 #[.string a0_0, .int .i64 a0_1, .int .i64 a0_2, .int .i64 a0_3, .int .i64 a0_4, .int .i64 a0_5, .int .i64 a0_6, .int .i64 a0_7, .int .i64 a0_8] 105 ?_; intro gb101 hg w6 hbox hb; replace BK101 := am_ (hbox); replace GW101 := am_ ((Zc : w.heap.size ≤ gb101)); replace GE101 := GW101; replace HB := (bsZ Zd hb); clear hb hbox hg; refine ci9 BK101 ?_; intros))
  go_ret
  exact ⟨Zk, (have z0_ := GE101; Zf)⟩
def laws_szArticleS.l0 : Nat → List (S105) → Int → Int → Option (Int)
 | 0, _, _, _ => none
 | k + 1, x0, x1, x5 => if x5 < (x0.length : Int) then (if 0 ≤ x5 then ((laws_szArticle.f ((rd_T105 x0 x5).f0) ((rd_T105 x0 x5).f1) ((rd_T105 x0 x5).f2) ((rd_T105 x0 x5).f3) ((rd_T105 x0 x5).f4) ((rd_T105 x0 x5).f5) ((rd_T105 x0 x5).f6) ((rd_T105 x0 x5).f7) ((rd_T105 x0 x5).f8) x1).bind fun t103 => (if t103 < 0 then (some (-1)) else (laws_szArticleS.l0 k x0 t103 (wrap64 (x5 + 1))))) else (none)) else (some x1)
def laws_szArticleS.f (k : Nat) (l0 : List (S105)) (a1 : Int) : Option (Int) := if (wrap64 (a1 - (l0.length : Int))) < 0 then (some (-1)) else (laws_szArticleS.l0 k l0 (wrap64 (a1 - (l0.length : Int))) 0)
set_option maxHeartbeats 8000000 in
set_option maxRecDepth 100000 in
theorem laws_szArticleS.calls (k : Nat) (A0 : Option Addr) (c0 : Nat) (l0 : List (S105)) (a1 : Int) (r : Int) (w : World) (hr0 : Kd.C k105 w A0 l0.length l0) (hc0 : l0.length ≤ c0) (h : laws_szArticleS.f k l0 a1 = some r) :
  Calls Try.prog 66 #[.slice A0 l0.length c0, .int .i64 a1] w fun e w' => e = .returned (.int .i64 r) ∧ Below w.heap.size w w' := by
 have hu105 := Try.underlying105; have HR0 := am_ hr0; have HC0 := am_ hc0; clear hr0 hc0; have HB := am_ (Below.refl w.heap.size w); have H : (if (wrap64 (a1 - (l0.length : Int))) < 0 then (some (-1)) else (laws_szArticleS.l0 k l0 (wrap64 (a1 - (l0.length : Int))) 0)) = some r := h; clear h
 by_cases c3 : (wrap64 (a1 - (l0.length : Int))) < 0
 ·rw [if_pos c3] at H
  have c3b0 := decide_eq_true c3; clear c3; obtain rfl := Option.some.inj H
  go_enter Try.func66, Try.ntmps66
  go_wp2
  go_ret
  exact ⟨Zk, Zd⟩
 ·rw [if_neg c3] at H
  have c3b0 := decide_eq_false c3; clear c3; have H' := am_ H; clear H
  go_enter Try.func66, Try.ntmps66
  go_wp2
  go_loopg [1, 5] k (fun kq v1 v5 w' => ∃ (x1_1 : Int) (x5_1 : Int), v1 = .int .i64 x1_1 ∧ v5 = .int .i64 x5_1 ∧ Aside0 (laws_szArticleS.l0 kq l0 x1_1 x5_1 = some r) ∧ Aside0 (kq ≤ k) ∧ Aside0 (Below w.heap.size w w'))
  case atStart => exact ⟨(wrap64 (a1 - (l0.length : Int))), (0), Za, Za, H', ⟨Nat.le_refl _⟩, ⟨Zd⟩⟩
  case round =>
   clear H'
   try clear p2
   try clear c3
   try clear c3b0
   obtain ⟨x1_1, x5_1, rfl, rfl, HA, HK1, HB⟩ := hrel
   cases gk with
   | zero => exact absurd HA.out (by simp [laws_szArticleS.l0])
   | succ k1 =>
    have H := HA.out; clear HA; simp only [laws_szArticleS.l0] at H
    by_cases c4 : x5_1 < (l0.length : Int)
    ·rw [if_pos c4] at H
     have c4b0 := decide_eq_true c4; clear c4
     by_cases c5 : 0 ≤ x5_1
     ·rw [if_pos c5] at H
      have c5b0 := decide_eq_true c5; clear c5; replace H := Option.bind_eq_some_iff.mp H; obtain ⟨t103, A60, H⟩ := H; have A6 := am_ A60; clear A60
      by_cases c7 : t103 < 0
      ·rw [if_pos c7] at H
       have c7b0 := decide_eq_true c7; clear c7; obtain rfl := Option.some.inj H; have p102 : 0 ≤ (x5_1 : Int) := of_decide_eq_true Zp; have q102 : x5_1 < (l0.length : Int) := of_decide_eq_true Zp; obtain ⟨ad102, e102, hx102_0, hx102_1, hx102_2, hx102_3, hx102_4, hx102_5, hx102_6, hx102_7, hx102_8⟩ := at_T105 HR0.out x5_1 p102 q102
       cases e102
       replace hx102_0 := cbH HB hx102_0; replace hx102_1 := cbH HB hx102_1; replace hx102_2 := cbH HB hx102_2; replace hx102_3 := cbH HB hx102_3; replace hx102_4 := cbH HB hx102_4; replace hx102_5 := cbH HB hx102_5; replace hx102_6 := cbH HB hx102_6; replace hx102_7 := cbH HB hx102_7; replace hx102_8 := cbH HB hx102_8; replace p102 := eq_true p102; replace q102 := eq_true q102
       go_wp2_with (first | ((with_reducible refine gate_callee (f := 116) rfl ?_); refine goesL_ (some 23) rfl rfl Try.func116 Zj rfl #[.agg #[.string ((rd_T105 l0 x5_1).f0), .int .i64 ((rd_T105 l0 x5_1).f1), .int .i64 ((rd_T105 l0 x5_1).f2), .int .i64 ((rd_T105 l0 x5_1).f3), .int .i64 ((rd_T105 l0 x5_1).f4), .int .i64 ((rd_T105 l0 x5_1).f5), .int .i64 ((rd_T105 l0 x5_1).f6), .int .i64 ((rd_T105 l0 x5_1).f7), .int .i64 ((rd_T105 l0 x5_1).f8)], .int .i64 x1_1] rfl Zo ?_; (with_reducible refine (laws_szArticle.calls ((rd_T105 l0 x5_1).f0) ((rd_T105 l0 x5_1).f1) ((rd_T105 l0 x5_1).f2) ((rd_T105 l0 x5_1).f3) ((rd_T105 l0 x5_1).f4) ((rd_T105 l0 x5_1).f5) ((rd_T105 l0 x5_1).f6) ((rd_T105 l0 x5_1).f7) ((rd_T105 l0 x5_1).f8) x1_1 t103 _ A6.out).mono ?_); rintro e w8 ⟨rfl, hb⟩; refine ⟨_, rfl, ?_⟩; replace HB := (bsZ Zd hb); (try clear hb); (try clear hb2); (try clear hk); (try clear hi)))
       go_ret
       exact ⟨Zk, Zd⟩
      ·rw [if_neg c7] at H
       have c7b0 := decide_eq_false c7; clear c7; have H' := am_ H; clear H; have p102 : 0 ≤ (x5_1 : Int) := of_decide_eq_true Zp; have q102 : x5_1 < (l0.length : Int) := of_decide_eq_true Zp; obtain ⟨ad102, e102, hx102_0, hx102_1, hx102_2, hx102_3, hx102_4, hx102_5, hx102_6, hx102_7, hx102_8⟩ := at_T105 HR0.out x5_1 p102 q102
       cases e102
       replace hx102_0 := cbH HB hx102_0; replace hx102_1 := cbH HB hx102_1; replace hx102_2 := cbH HB hx102_2; replace hx102_3 := cbH HB hx102_3; replace hx102_4 := cbH HB hx102_4; replace hx102_5 := cbH HB hx102_5; replace hx102_6 := cbH HB hx102_6; replace hx102_7 := cbH HB hx102_7; replace hx102_8 := cbH HB hx102_8; replace p102 := eq_true p102; replace q102 := eq_true q102
       go_wp2_with (first | ((with_reducible refine gate_callee (f := 116) rfl ?_); refine goesL_ (some 23) rfl rfl Try.func116 Zj rfl #[.agg #[.string ((rd_T105 l0 x5_1).f0), .int .i64 ((rd_T105 l0 x5_1).f1), .int .i64 ((rd_T105 l0 x5_1).f2), .int .i64 ((rd_T105 l0 x5_1).f3), .int .i64 ((rd_T105 l0 x5_1).f4), .int .i64 ((rd_T105 l0 x5_1).f5), .int .i64 ((rd_T105 l0 x5_1).f6), .int .i64 ((rd_T105 l0 x5_1).f7), .int .i64 ((rd_T105 l0 x5_1).f8)], .int .i64 x1_1] rfl Zo ?_; (with_reducible refine (laws_szArticle.calls ((rd_T105 l0 x5_1).f0) ((rd_T105 l0 x5_1).f1) ((rd_T105 l0 x5_1).f2) ((rd_T105 l0 x5_1).f3) ((rd_T105 l0 x5_1).f4) ((rd_T105 l0 x5_1).f5) ((rd_T105 l0 x5_1).f6) ((rd_T105 l0 x5_1).f7) ((rd_T105 l0 x5_1).f8) x1_1 t103 _ A6.out).mono ?_); rintro e w9 ⟨rfl, hb⟩; refine ⟨_, rfl, ?_⟩; replace HB := (bsZ Zd hb); (try clear hb); (try clear hb2); (try clear hk); (try clear hi)))
       go_roundg k1
       case measure => have := HK1.out; omega
       case rel => exact ⟨(t103), (wrap64 (x5_1 + 1)), Za, Za, H', ⟨Zt⟩, ⟨Zd⟩⟩
     ·rw [if_neg c5] at H
      exact absurd H (by simp)
    ·rw [if_neg c4] at H
     have c4b0 := decide_eq_false c4; clear c4; obtain rfl := Option.some.inj H
     go_wp2
     go_ret
     exact ⟨Zk, Zd⟩
def laws_toArticle.f (a0_0 : ByteArray) (a0_1 : Int) (a0_2 : Int) (a0_3 : Int) (a0_4 : Int) (a0_5 : Int) (a0_6 : Int) (a0_7 : Int) (a0_8 : Int) : Option (ByteArray × Int × Int × Int × Int × Int × Int × Int × Int) := some (a0_0, a0_1, a0_2, a0_3, a0_4, a0_5, a0_6, a0_7, a0_8)
set_option maxHeartbeats 8000000 in
set_option maxRecDepth 100000 in
theorem laws_toArticle.calls (a0_0 : ByteArray) (a0_1 : Int) (a0_2 : Int) (a0_3 : Int) (a0_4 : Int) (a0_5 : Int) (a0_6 : Int) (a0_7 : Int) (a0_8 : Int) (r1 : ByteArray) (r2 : Int) (r3 : Int) (r4 : Int) (r5 : Int) (r6 : Int) (r7 : Int) (r8 : Int) (r9 : Int) (w : World) (h : laws_toArticle.f a0_0 a0_1 a0_2 a0_3 a0_4 a0_5 a0_6 a0_7 a0_8 = some (r1, r2, r3, r4, r5, r6, r7, r8, r9)) :
  Calls Try.prog 120 #[.agg #[.string a0_0, .int .i64 a0_1, .int .i64 a0_2, .int .i64 a0_3, .int .i64 a0_4, .int .i64 a0_5, .int .i64 a0_6, .int .i64 a0_7, .int .i64 a0_8]] w fun e w' => e = .returned (.agg #[.string r1, .int .i64 r2, .int .i64 r3, .int .i64 r4, .int .i64 r5, .int .i64 r6, .int .i64 r7, .int .i64 r8, .int .i64 r9]) ∧ Below w.heap.size w w' := by
 have hu105 := Try.underlying105; have hu92 := Try.underlying92; have HB := am_ (Below.refl w.heap.size w); have H : (some (a0_0, a0_1, a0_2, a0_3, a0_4, a0_5, a0_6, a0_7, a0_8)) = some (r1, r2, r3, r4, r5, r6, r7, r8, r9) := h; clear h; simp only [Option.some.injEq, Prod.mk.injEq] at H; obtain ⟨rfl, rfl, rfl, rfl, rfl, rfl, rfl, rfl, rfl⟩ := H
 go_enter Try.func120, Try.ntmps120
 go_wp2_with (first | ((with_reducible refine gate_dst (N := 1) rfl ?_); refine boxZ 1 #[.string a0_0, .int .i64 a0_1, .int .i64 a0_2, .int .i64 a0_3, .int .i64 a0_4, .int .i64 a0_5, .int .i64 a0_6, .int .i64 a0_7, .int .i64 a0_8] 105 ?_; intro gb220 hg w2 hbox hb; replace BK220 := am_ (hbox); replace GW220 := am_ ((Zc : w.heap.size ≤ gb220)); replace GE220 := GW220; replace HB := (bsZ Zd hb); clear hb hbox hg) | ((with_reducible refine gate_dst (N := 2) rfl ?_); refine boxZ 2 #[.string (⟨#[]⟩ : ByteArray), .int .i64 0, .int .i64 0, .int .i64 0, .int .i64 0, .int .i64 0, .int .i64 0, .int .i64 0, .int .i64 0] 92 ?_; intro gb221 hg w3 hbox hb; replace BK221 := am_ (hbox); replace GW221 := am_ (((have z0_ := GE220; Ze) : w.heap.size ≤ gb221)); replace GE221 := GW221; replace HB := (bsZ (have z0_ := GE220; Zf) hb); replace NB220_221 := am_ (((have z0_ := BK220; Zx) : gb220 ≠ gb221)); replace NB221_220 := am_ (((have z0_ := BK220; Zy) : gb221 ≠ gb220)); replace BK220 := (have z0_ := BK220; bkZ hb); clear hb hbox hg) | ((with_reducible refine gate_dst (N := 3) rfl ?_); refine boxZ 3 #[.string (⟨#[]⟩ : ByteArray), .int .i64 0, .int .i64 0, .int .i64 0, .int .i64 0, .int .i64 0, .int .i64 0, .int .i64 0, .int .i64 0] 92 ?_; intro gb222 hg w4 hbox hb; replace BK222 := am_ (hbox); replace GW222 := am_ (((have z0_ := GE220; have z1_ := GE221; Zh) : w.heap.size ≤ gb222)); replace GE222 := GW222; replace HB := (bsZ (have z0_ := GE220; have z1_ := GE221; Zi) hb); replace NB220_222 := am_ (((have z0_ := BK220; Zx) : gb220 ≠ gb222)); replace NB222_220 := am_ (((have z0_ := BK220; Zy) : gb222 ≠ gb220)); replace BK220 := (have z0_ := BK220; bkZ hb); replace NB221_222 := am_ ((by rw [hg]; exact Nat.ne_of_lt (blk_lt (g := gb221) (o := .cells #[.string (⟨#[]⟩ : ByteArray), .int .i64 0, .int .i64 0, .int .i64 0, .int .i64 0, .int .i64 0, .int .i64 0, .int .i64 0, .int .i64 0] 92 (0, 0)) (have z0_ := BK221; Zg)) : gb221 ≠ gb222)); replace NB222_221 := am_ ((by rw [hg]; exact Nat.ne_of_gt (blk_lt (g := gb221) (o := .cells #[.string (⟨#[]⟩ : ByteArray), .int .i64 0, .int .i64 0, .int .i64 0, .int .i64 0, .int .i64 0, .int .i64 0, .int .i64 0, .int .i64 0] 92 (0, 0)) (have z0_ := BK221; Zg)) : gb222 ≠ gb221)); replace BK221 := (have z0_ := BK221; bkZ hb); clear hb hbox hg; have hnb5 := NB220_221.out; have hnc5 := NB221_220.out; have hnb6 := NB220_222.out; have hnc6 := NB222_220.out; refine ci9 BK220 ?_; intros; have hnb8 := NB222_221.out; have hnc8 := NB221_222.out; refine ci9 BK222 ?_; intros; refine ci9 BK221 ?_; intros))
 refine bodyPost_ret (results_cell_row rfl _ _ gb221 92 #[.string a0_0, .int .i64 a0_1, .int .i64 a0_2, .int .i64 a0_3, .int .i64 a0_4, .int .i64 a0_5, .int .i64 a0_6, .int .i64 a0_7, .int .i64 a0_8] (0, 0) _ rfl (by (with_reducible repeat (first | refine blk_drewN ?_ _ | refine blk_drew ?_ | refine blk_alloc ?_ _)); refine blk_put (cs := #[.string a0_0, .int .i64 a0_1, .int .i64 a0_2, .int .i64 a0_3, .int .i64 a0_4, .int .i64 a0_5, .int .i64 a0_6, .int .i64 a0_7, .int .i64 0]) ?_ 8 _ rfl; refine blk_put (cs := #[.string a0_0, .int .i64 a0_1, .int .i64 a0_2, .int .i64 a0_3, .int .i64 a0_4, .int .i64 a0_5, .int .i64 a0_6, .int .i64 0, .int .i64 0]) ?_ 7 _ rfl; refine blk_put (cs := #[.string a0_0, .int .i64 a0_1, .int .i64 a0_2, .int .i64 a0_3, .int .i64 a0_4, .int .i64 a0_5, .int .i64 0, .int .i64 0, .int .i64 0]) ?_ 6 _ rfl; refine blk_put (cs := #[.string a0_0, .int .i64 a0_1, .int .i64 a0_2, .int .i64 a0_3, .int .i64 a0_4, .int .i64 0, .int .i64 0, .int .i64 0, .int .i64 0]) ?_ 5 _ rfl; refine blk_put (cs := #[.string a0_0, .int .i64 a0_1, .int .i64 a0_2, .int .i64 a0_3, .int .i64 0, .int .i64 0, .int .i64 0, .int .i64 0, .int .i64 0]) ?_ 4 _ rfl; refine blk_put (cs := #[.string a0_0, .int .i64 a0_1, .int .i64 a0_2, .int .i64 0, .int .i64 0, .int .i64 0, .int .i64 0, .int .i64 0, .int .i64 0]) ?_ 3 _ rfl; refine blk_put (cs := #[.string a0_0, .int .i64 a0_1, .int .i64 0, .int .i64 0, .int .i64 0, .int .i64 0, .int .i64 0, .int .i64 0, .int .i64 0]) ?_ 2 _ rfl; refine blk_put (cs := #[.string a0_0, .int .i64 0, .int .i64 0, .int .i64 0, .int .i64 0, .int .i64 0, .int .i64 0, .int .i64 0, .int .i64 0]) ?_ 1 _ rfl; refine blk_put (cs := #[.string (⟨#[]⟩ : ByteArray), .int .i64 0, .int .i64 0, .int .i64 0, .int .i64 0, .int .i64 0, .int .i64 0, .int .i64 0, .int .i64 0]) ?_ 0 _ rfl; (with_reducible repeat (first | refine blk_drewN ?_ _ | refine blk_drew ?_ | refine blk_alloc ?_ _)); refine blk_far ?_ NB221_222.out _; (with_reducible repeat (first | refine blk_drewN ?_ _ | refine blk_drew ?_ | refine blk_alloc ?_ _)); refine blk_far ?_ NB221_222.out _; (with_reducible repeat (first | refine blk_drewN ?_ _ | refine blk_drew ?_ | refine blk_alloc ?_ _)); refine blk_far ?_ NB221_222.out _; (with_reducible repeat (first | refine blk_drewN ?_ _ | refine blk_drew ?_ | refine blk_alloc ?_ _)); refine blk_far ?_ NB221_222.out _; (with_reducible repeat (first | refine blk_drewN ?_ _ | refine blk_drew ?_ | refine blk_alloc ?_ _)); refine blk_far ?_ NB221_222.out _; (with_reducible repeat (first | refine blk_drewN ?_ _ | refine blk_drew ?_ | refine blk_alloc ?_ _)); refine blk_far ?_ NB221_222.out _; (with_reducible repeat (first | refine blk_drewN ?_ _ | refine blk_drew ?_ | refine blk_alloc ?_ _)); refine blk_far ?_ NB221_222.out _; (with_reducible repeat (first | refine blk_drewN ?_ _ | refine blk_drew ?_ | refine blk_alloc ?_ _)); refine blk_far ?_ NB221_222.out _; (with_reducible repeat (first | refine blk_drewN ?_ _ | refine blk_drew ?_ | refine blk_alloc ?_ _)); refine blk_far ?_ NB221_222.out _; (with_reducible repeat (first | refine blk_drewN ?_ _ | refine blk_drew ?_ | refine blk_alloc ?_ _)); exact BK221.out) Try.underlying92 rfl Zj) rfl ?_
 exact ⟨Zk, (have z0_ := GE220; have z1_ := GE221; have z2_ := GE222; Zl)⟩
def laws_fillerArticle.f  : Option (ByteArray × Int × Int × Int × Int × Int × Int × Int × Int) := some ((⟨#[126, 115, 112, 97, 114, 101, 126]⟩ : ByteArray), (-7000000000000000101), (-7000000000000000101), (-7000000000000000101), (-7000000000000000101), (-7000000000000000101), (-7000000000000000101), (-7000000000000000101), (-7000000000000000101))
set_option maxHeartbeats 8000000 in
set_option maxRecDepth 100000 in
theorem laws_fillerArticle.calls  (r1 : ByteArray) (r2 : Int) (r3 : Int) (r4 : Int) (r5 : Int) (r6 : Int) (r7 : Int) (r8 : Int) (r9 : Int) (w : World) (h : laws_fillerArticle.f  = some (r1, r2, r3, r4, r5, r6, r7, r8, r9)) :
  Calls Try.prog 121 #[] w fun e w' => e = .returned (.agg #[.string r1, .int .i64 r2, .int .i64 r3, .int .i64 r4, .int .i64 r5, .int .i64 r6, .int .i64 r7, .int .i64 r8, .int .i64 r9]) ∧ Below w.heap.size w w' := by
 have hu92 := Try.underlying92; have HB := am_ (Below.refl w.heap.size w); have H : (some ((⟨#[126, 115, 112, 97, 114, 101, 126]⟩ : ByteArray), (-7000000000000000101), (-7000000000000000101), (-7000000000000000101), (-7000000000000000101), (-7000000000000000101), (-7000000000000000101), (-7000000000000000101), (-7000000000000000101))) = some (r1, r2, r3, r4, r5, r6, r7, r8, r9) := h; clear h; simp only [Option.some.injEq, Prod.mk.injEq] at H; obtain ⟨rfl, rfl, rfl, rfl, rfl, rfl, rfl, rfl, rfl⟩ := H
 go_enter Try.func121, Try.ntmps121
 go_wp2_with (first | ((with_reducible refine gate_dst (N := 0) rfl ?_); refine boxZ 0 #[.string (⟨#[]⟩ : ByteArray), .int .i64 0, .int .i64 0, .int .i64 0, .int .i64 0, .int .i64 0, .int .i64 0, .int .i64 0, .int .i64 0] 92 ?_; intro gb223 hg w1 hbox hb; replace BK223 := am_ (hbox); replace GW223 := am_ ((Zc : w.heap.size ≤ gb223)); replace GE223 := GW223; replace HB := (bsZ Zd hb); clear hb hbox hg; refine ci9 BK223 ?_; intros))
 refine bodyPost_ret (results_cell_row rfl _ _ gb223 92 #[.string (⟨#[126, 115, 112, 97, 114, 101, 126]⟩ : ByteArray), .int .i64 (-7000000000000000101), .int .i64 (-7000000000000000101), .int .i64 (-7000000000000000101), .int .i64 (-7000000000000000101), .int .i64 (-7000000000000000101), .int .i64 (-7000000000000000101), .int .i64 (-7000000000000000101), .int .i64 (-7000000000000000101)] (0, 0) _ rfl (by (with_reducible repeat (first | refine blk_drewN ?_ _ | refine blk_drew ?_ | refine blk_alloc ?_ _)); refine blk_put (cs := #[.string (⟨#[126, 115, 112, 97, 114, 101, 126]⟩ : ByteArray), .int .i64 (-7000000000000000101), .int .i64 (-7000000000000000101), .int .i64 (-7000000000000000101), .int .i64 (-7000000000000000101), .int .i64 (-7000000000000000101), .int .i64 (-7000000000000000101), .int .i64 (-7000000000000000101), .int .i64 0]) ?_ 8 _ rfl; refine blk_put (cs := #[.string (⟨#[126, 115, 112, 97, 114, 101, 126]⟩ : ByteArray), .int .i64 (-7000000000000000101), .int .i64 (-7000000000000000101), .int .i64 (-7000000000000000101), .int .i64 (-7000000000000000101), .int .i64 (-7000000000000000101), .int .i64 (-7000000000000000101), .int .i64 0, .int .i64 0]) ?_ 7 _ rfl; refine blk_put (cs := #[.string (⟨#[126, 115, 112, 97, 114, 101, 126]⟩ : ByteArray), .int .i64 (-7000000000000000101), .int .i64 (-7000000000000000101), .int .i64 (-7000000000000000101), .int .i64 (-7000000000000000101), .int .i64 (-7000000000000000101), .int .i64 0, .int .i64 0, .int .i64 0]) ?_ 6 _ rfl; refine blk_put (cs := #[.string (⟨#[126, 115, 112, 97, 114, 101, 126]⟩ : ByteArray), .int .i64 (-7000000000000000101), .int .i64 (-7000000000000000101), .int .i64 (-7000000000000000101), .int .i64 (-7000000000000000101), .int .i64 0, .int .i64 0, .int .i64 0, .int .i64 0]) ?_ 5 _ rfl; refine blk_put (cs := #[.string (⟨#[126, 115, 112, 97, 114, 101, 126]⟩ : ByteArray), .int .i64 (-7000000000000000101), .int .i64 (-7000000000000000101), .int .i64 (-7000000000000000101), .int .i64 0, .int .i64 0, .int .i64 0, .int .i64 0, .int .i64 0]) ?_ 4 _ rfl; refine blk_put (cs := #[.string (⟨#[126, 115, 112, 97, 114, 101, 126]⟩ : ByteArray), .int .i64 (-7000000000000000101), .int .i64 (-7000000000000000101), .int .i64 0, .int .i64 0, .int .i64 0, .int .i64 0, .int .i64 0, .int .i64 0]) ?_ 3 _ rfl; refine blk_put (cs := #[.string (⟨#[126, 115, 112, 97, 114, 101, 126]⟩ : ByteArray), .int .i64 (-7000000000000000101), .int .i64 0, .int .i64 0, .int .i64 0, .int .i64 0, .int .i64 0, .int .i64 0, .int .i64 0]) ?_ 2 _ rfl; refine blk_put (cs := #[.string (⟨#[126, 115, 112, 97, 114, 101, 126]⟩ : ByteArray), .int .i64 0, .int .i64 0, .int .i64 0, .int .i64 0, .int .i64 0, .int .i64 0, .int .i64 0, .int .i64 0]) ?_ 1 _ rfl; refine blk_put (cs := #[.string (⟨#[]⟩ : ByteArray), .int .i64 0, .int .i64 0, .int .i64 0, .int .i64 0, .int .i64 0, .int .i64 0, .int .i64 0, .int .i64 0]) ?_ 0 _ rfl; (with_reducible repeat (first | refine blk_drewN ?_ _ | refine blk_drew ?_ | refine blk_alloc ?_ _)); exact BK223.out) Try.underlying92 rfl Zj) rfl ?_
 exact ⟨Zk, (have z0_ := GE223; Zf)⟩
mutual
def laws_toArticleS.j0 : Nat → List (S105) → Bool → Option ((List (S92)))
 | 0, _, _ => none
 | k + 1, x0, x13 => if x13 = true then (some ([] : List (S92))) else ((laws_roomBehind.f (x0.length : Int)).bind fun t224 => (if 0 ≤ (wrap64 ((x0.length : Int) + t224)) then (if (wrap64 ((x0.length : Int) + t224) : Int).toNat ≤ 3518437208883 then (laws_toArticleS.l0 k x0 (List.replicate (wrap64 ((x0.length : Int) + t224) : Int).toNat z92) 0) else (none)) else (none)))
def laws_toArticleS.l0 : Nat → List (S105) → List (S92) → Int → Option ((List (S92)))
 | 0, _, _, _ => none
 | k + 1, x0, x5, x6 => if x6 < (x0.length : Int) then (if 0 ≤ x6 then ((laws_toArticle.f ((rd_T105 x0 x6).f0) ((rd_T105 x0 x6).f1) ((rd_T105 x0 x6).f2) ((rd_T105 x0 x6).f3) ((rd_T105 x0 x6).f4) ((rd_T105 x0 x6).f5) ((rd_T105 x0 x6).f6) ((rd_T105 x0 x6).f7) ((rd_T105 x0 x6).f8)).bind fun bt229 => (if x6 < (x5.length : Int) then (laws_toArticleS.l0 k x0 (x5.set (x6 : Int).toNat (⟨bt229.1, bt229.2.1, bt229.2.2.1, bt229.2.2.2.1, bt229.2.2.2.2.1, bt229.2.2.2.2.2.1, bt229.2.2.2.2.2.2.1, bt229.2.2.2.2.2.2.2.1, bt229.2.2.2.2.2.2.2.2⟩ : S92)) (wrap64 (x6 + 1))) else (none))) else (none)) else (laws_toArticleS.l1 k x0 x5 (x0.length : Int))
def laws_toArticleS.l1 : Nat → List (S105) → List (S92) → Int → Option ((List (S92)))
 | 0, _, _, _ => none
 | k + 1, x0, x5, x7 => if x7 < (x5.length : Int) then ((laws_fillerArticle.f).bind fun bt239 => (if 0 ≤ x7 then (laws_toArticleS.l1 k x0 (x5.set (x7 : Int).toNat (⟨bt239.1, bt239.2.1, bt239.2.2.1, bt239.2.2.2.1, bt239.2.2.2.2.1, bt239.2.2.2.2.2.1, bt239.2.2.2.2.2.2.1, bt239.2.2.2.2.2.2.2.1, bt239.2.2.2.2.2.2.2.2⟩ : S92)) (wrap64 (x7 + 1))) else (none))) else (if 0 ≤ (x0.length : Int) then (if (x0.length : Int) ≤ (x5.length : Int) then (some (x5.take ((x0.length : Int) : Int).toNat)) else (none)) else (none))
end
def laws_toArticleS.f (k : Nat) (l0 : List (S105)) (a1 : Bool) : Option ((List (S92))) := if a1 = true then (laws_toArticleS.j0 k l0 ((l0.length : Int) == 0)) else (laws_toArticleS.j0 k l0 false)
set_option maxHeartbeats 8000000 in
set_option maxRecDepth 100000 in
theorem laws_toArticleS.calls (k : Nat) (A0 : Option Addr) (c0 : Nat) (l0 : List (S105)) (a1 : Bool) (r : List (S92)) (w : World) (hr0 : Kd.C k105 w A0 l0.length l0) (hc0 : l0.length ≤ c0) (h : laws_toArticleS.f k l0 a1 = some r) :
  Calls Try.prog 71 #[.slice A0 l0.length c0, .bool a1] w fun e w' => ∃ v0_ : Value, e = .returned (v0_) ∧ Kd.R k92 92 w' w.heap.size (fun _ => True) v0_ r ∧ Below w.heap.size w w' := by
 have hu105 := Try.underlying105; have hu92 := Try.underlying92; have HR0 := am_ hr0; have HC0 := am_ hc0; clear hr0 hc0; have HB := am_ (Below.refl w.heap.size w); have H : (if a1 = true then (laws_toArticleS.j0 k l0 ((l0.length : Int) == 0)) else (laws_toArticleS.j0 k l0 false)) = some r := h; clear h; have HC3 := am_ H; clear H
 go_enter Try.func71, Try.ntmps71
 go_upto_region 1 with (fail)
 go_cut [13] (fun v13 wc => ∃ (kq : Nat) (x13_2 : Bool), v13 = .bool x13_2 ∧ Aside0 (laws_toArticleS.j0 kq l0 x13_2 = some r) ∧ Aside0 (kq ≤ k) ∧ Aside0 (Below w.heap.size w wc))
 case first =>
  have H := HC3.out; clear HC3
  by_cases c4 : a1 = true
  ·subst c4
   have H1 : (laws_toArticleS.j0 k l0 ((l0.length : Int) == 0)) = some r := by rw [if_pos rfl] at H; exact H
   clear H; have H := H1; clear H1; have H' := am_ H; clear H
   go_wp2
   go_meet
   case rel => exact ⟨_, (((l0.length : Int) == 0)), Za, H', ⟨Zm⟩, ⟨Zd⟩⟩
  ·replace c4 := Bool.eq_false_iff.mpr c4
   subst c4
   have H1 : (laws_toArticleS.j0 k l0 false) = some r := by rw [if_neg (show ¬ (false = true) by decide)] at H; exact H
   clear H; have H := H1; clear H1; have H' := am_ H; clear H
   go_wp2
   go_meet
   case rel => exact ⟨_, (false), Za, H', ⟨Zm⟩, ⟨Zd⟩⟩
 case rest =>
  clear HC3
  try clear p2
  try clear c4
  obtain ⟨kq, x13_2, rfl, HA, HJ2, HB⟩ := hcut
  cases kq with
  | zero => exact absurd HA.out (by simp [laws_toArticleS.j0])
  | succ kj2 =>
   have H := HA.out; clear HA; simp only [laws_toArticleS.j0] at H
   by_cases c5 : x13_2 = true
   ·subst c5
    have H1 : (some ([] : List (S92))) = some r := by rw [if_pos rfl] at H; exact H
    clear H; have H := H1; clear H1; obtain rfl := Option.some.inj H
    go_wp2
    go_ret
    exact ⟨_, Zk, Zn, Zd⟩
   ·replace c5 := Bool.eq_false_iff.mpr c5
    subst c5
    have H1 : ((laws_roomBehind.f (l0.length : Int)).bind fun t224 => (if 0 ≤ (wrap64 ((l0.length : Int) + t224)) then (if (wrap64 ((l0.length : Int) + t224) : Int).toNat ≤ 3518437208883 then (laws_toArticleS.l0 kj2 l0 (List.replicate (wrap64 ((l0.length : Int) + t224) : Int).toNat z92) 0) else (none)) else (none))) = some r := by rw [if_neg (show ¬ (false = true) by decide)] at H; exact H
    clear H; have H := H1; clear H1; replace H := Option.bind_eq_some_iff.mp H; obtain ⟨t224, A60, H⟩ := H; have A6 := am_ A60; clear A60; obtain ⟨ji7, hji7⟩ : ∃ j_ : Int, (wrap64 ((l0.length : Int) + t224)) = j_ := ⟨_, rfl⟩
    replace H : (if 0 ≤ (ji7) then (if (ji7 : Int).toNat ≤ 3518437208883 then (laws_toArticleS.l0 kj2 l0 (List.replicate (ji7 : Int).toNat z92) 0) else (none)) else (none)) = some r := by first | (rw [hji7] at H; exact H) | (simp only [hji7] at H ⊢; exact H)
    (try rw [hji7] at A6)
    have hji7w : (IntKind.i64.wrap ((l0.length : Int) + t224)) = ji7 := (i64_w _).trans hji7
    by_cases c8 : 0 ≤ (ji7)
    ·rw [if_pos c8] at H
     have c8b0 := eq_true c8; have c8b1 := decide_eq_true c8; clear c8
     by_cases c9 : (ji7 : Int).toNat ≤ 3518437208883
     ·rw [if_pos c9] at H
      have c9b0 := eq_true c9; have c9b1 := decide_eq_true c9; clear c9; obtain ⟨y225, hy225⟩ : ∃ y_ : List (S92), y_ = (List.replicate (ji7 : Int).toNat z92) := ⟨_, rfl⟩
      (first | (rw [← hy225] at H; with_reducible replace H := bindZ H) | rw [← hy225] at H)
      have Ny225 := am_ hy225; clear hy225; have H' := am_ H; clear H
      go_wp2_with (first | ((with_reducible refine gate_callee (f := 117) rfl ?_); refine goesL_ (some 18) rfl rfl Try.func117 Zj rfl #[.int .i64 (l0.length : Int)] rfl Zo ?_; (with_reducible refine (laws_roomBehind.calls (l0.length : Int) t224 _ A6.out).mono ?_); rintro e w' ⟨rfl, ⟨nd, rfl⟩⟩; refine ⟨_, rfl, ?_⟩) | ((with_reducible refine gate_dst (N := 20) rfl ?_); (try (refine gate_guard (by rfl) ?_; dsimp only)); refine Kd.R_make k92 _ 92 rfl (N := 20) rfl 29 _ _ rfl ji7 rfl rfl Try.underlying29 (.agg #[(.string ⟨#[]⟩), (.int .i64 0), (.int .i64 0), (.int .i64 0), (.int .i64 0), (.int .i64 0), (.int .i64 0), (.int .i64 0), (.int .i64 0)]) 80 info92 rfl (by decide) (by omega) z92 (ok := fun _ => True) (okp := fun _ => True) (k92_mkM _ _ _ z92 ) (fun _ hk => hk) trivial (of_decide_eq_true Zp) (Nat.le_trans (Nat.mul_le_mul_right _ (of_decide_eq_true Zp : ji7.toNat ≤ 3518437208883)) (by omega)) (Below.refl _ _) (Nat.le_refl _) ?_; intro v226 w10 ho11 hb hg_ hnew_; clear hg_ hnew_; (first | rw [← Ny225.out] at ho11 | (simp only [Int.reduceToNat] at ho11; rw [← Ny225.out] at ho11)); replace HO227 := am_ (Kd.R_lower ho11 (below_size Zd)); replace HB := (bsZ Zd hb); clear hb ho11))
      go_loopg [6] kj2 (fun kq v6 w' => ∃ (x5_2 : List (S92)) (x6_2 : Int), v6 = .int .i64 x6_2 ∧ Aside0 (laws_toArticleS.l0 kq l0 x5_2 x6_2 = some r) ∧ Aside0 (kq ≤ kj2) ∧ Aside0 (Kd.R k92 92 w' w.heap.size (fun _ => True) v226 x5_2) ∧ Aside0 (Below w.heap.size w w'))
      case atStart => exact ⟨(y225), (0), Za, H', ⟨Nat.le_refl _⟩, ⟨(have z0_ := HO227; Zq)⟩, ⟨Zd⟩⟩
      case round =>
       clear H'
       try clear c1
       try clear p2
       try clear c4
       try clear c5
       try clear p6
       try clear c7
       try clear c8
       try clear c8b0
       try clear c8b1
       try clear c9
       try clear c9b0
       try clear c9b1
       try clear c11
       try clear p2
       obtain ⟨x5_2, x6_2, rfl, HA, HK2, HO_5, HB⟩ := hrel
       cases gk with
       | zero => exact absurd HA.out (by simp [laws_toArticleS.l0])
       | succ k2 =>
        have H := HA.out; clear HA; simp only [laws_toArticleS.l0] at H
        by_cases c12 : x6_2 < (l0.length : Int)
        ·rw [if_pos c12] at H
         have c12b0 := decide_eq_true c12; clear c12
         by_cases c13 : 0 ≤ x6_2
         ·rw [if_pos c13] at H
          have c13b0 := decide_eq_true c13; clear c13; replace H := Option.bind_eq_some_iff.mp H; obtain ⟨⟨t229, t230, t231, t232, t233, t234, t235, t236, t237⟩, A140, H⟩ := H; replace H : (if x6_2 < (x5_2.length : Int) then (laws_toArticleS.l0 k2 l0 (x5_2.set (x6_2 : Int).toNat (⟨t229, t230, t231, t232, t233, t234, t235, t236, t237⟩ : S92)) (wrap64 (x6_2 + 1))) else (none)) = some r := H; have A14 := am_ A140; clear A140
          by_cases c15 : x6_2 < (x5_2.length : Int)
          ·rw [if_pos c15] at H
           have c15b0 := decide_eq_true c15; clear c15; obtain ⟨y238, hy238⟩ : ∃ y_ : List (S92), y_ = (x5_2.set (x6_2 : Int).toNat (⟨t229, t230, t231, t232, t233, t234, t235, t236, t237⟩ : S92)) := ⟨_, rfl⟩
           (first | (rw [← hy238] at H; with_reducible replace H := bindZ H) | rw [← hy238] at H)
           have Ny238 := am_ hy238; clear hy238; have H' := am_ H; clear H; have p228 : 0 ≤ (x6_2 : Int) := of_decide_eq_true Zp; have q228 : x6_2 < (l0.length : Int) := of_decide_eq_true Zp; obtain ⟨ad228, e228, hx228_0, hx228_1, hx228_2, hx228_3, hx228_4, hx228_5, hx228_6, hx228_7, hx228_8⟩ := at_T105 HR0.out x6_2 p228 q228
           cases e228
           replace hx228_0 := cbH HB hx228_0; replace hx228_1 := cbH HB hx228_1; replace hx228_2 := cbH HB hx228_2; replace hx228_3 := cbH HB hx228_3; replace hx228_4 := cbH HB hx228_4; replace hx228_5 := cbH HB hx228_5; replace hx228_6 := cbH HB hx228_6; replace hx228_7 := cbH HB hx228_7; replace hx228_8 := cbH HB hx228_8; replace p228 := eq_true p228; replace q228 := eq_true q228
           go_wp2_with (first | ((with_reducible refine gate_callee (f := 120) rfl ?_); refine goesL_ (some 33) rfl rfl Try.func120 Zj rfl #[.agg #[.string ((rd_T105 l0 x6_2).f0), .int .i64 ((rd_T105 l0 x6_2).f1), .int .i64 ((rd_T105 l0 x6_2).f2), .int .i64 ((rd_T105 l0 x6_2).f3), .int .i64 ((rd_T105 l0 x6_2).f4), .int .i64 ((rd_T105 l0 x6_2).f5), .int .i64 ((rd_T105 l0 x6_2).f6), .int .i64 ((rd_T105 l0 x6_2).f7), .int .i64 ((rd_T105 l0 x6_2).f8)]] rfl Zo ?_; (with_reducible refine (laws_toArticle.calls ((rd_T105 l0 x6_2).f0) ((rd_T105 l0 x6_2).f1) ((rd_T105 l0 x6_2).f2) ((rd_T105 l0 x6_2).f3) ((rd_T105 l0 x6_2).f4) ((rd_T105 l0 x6_2).f5) ((rd_T105 l0 x6_2).f6) ((rd_T105 l0 x6_2).f7) ((rd_T105 l0 x6_2).f8) t229 t230 t231 t232 t233 t234 t235 t236 t237 _ A14.out).mono ?_); rintro e w17 ⟨rfl, hb⟩; refine ⟨_, rfl, ?_⟩; replace HO_5 := am_ (Kd.R_below (have z0_ := HO_5; Zq) hb); replace HB := (bsZ Zd hb); (try clear hb); (try clear hb2); (try clear hk); (try clear hi); have p16 : 0 ≤ (x6_2 : Int) := of_decide_eq_true Zp; have q16 : (x6_2 : Int) < ((x5_2.length : Int) : Int) := of_decide_eq_true Zp; obtain ⟨go16, co16, eo16, gb16, gl16, cl16, HG16⟩ := Kd.R_form HO_5.out (by omega); (first | cases eo16 | (injection eo16 with ea_ en_ ec_; (first | subst ea_ | (injection ea_ with ea_; subst ea_)); subst ec_; clear en_)); have GB16 := am_ gb16; have GG16 := am_ HG16; clear gb16 gl16 HG16; obtain ⟨ce16, hcl16, hM16, hcc16, hfr16⟩ := Kd.R_elem HO_5.out z92 (x6_2 : Int) p16 q16; obtain rfl := k92_openM hM16; have hx16_0 : w17.cell? ⟨go16, (x6_2 : Int).toNat * 9, none⟩ = some (.string ((rd_T92 x5_2 x6_2).f0)) := hcc16 0 _ rfl; have hx16_1 : w17.cell? ⟨go16, (x6_2 : Int).toNat * 9 + 1, none⟩ = some (.int .i64 ((rd_T92 x5_2 x6_2).f1)) := hcc16 1 _ rfl; have hx16_2 : w17.cell? ⟨go16, (x6_2 : Int).toNat * 9 + 2, none⟩ = some (.int .i64 ((rd_T92 x5_2 x6_2).f2)) := hcc16 2 _ rfl; have hx16_3 : w17.cell? ⟨go16, (x6_2 : Int).toNat * 9 + 3, none⟩ = some (.int .i64 ((rd_T92 x5_2 x6_2).f3)) := hcc16 3 _ rfl; have hx16_4 : w17.cell? ⟨go16, (x6_2 : Int).toNat * 9 + 4, none⟩ = some (.int .i64 ((rd_T92 x5_2 x6_2).f4)) := hcc16 4 _ rfl; have hx16_5 : w17.cell? ⟨go16, (x6_2 : Int).toNat * 9 + 5, none⟩ = some (.int .i64 ((rd_T92 x5_2 x6_2).f5)) := hcc16 5 _ rfl; have hx16_6 : w17.cell? ⟨go16, (x6_2 : Int).toNat * 9 + 6, none⟩ = some (.int .i64 ((rd_T92 x5_2 x6_2).f6)) := hcc16 6 _ rfl; have hx16_7 : w17.cell? ⟨go16, (x6_2 : Int).toNat * 9 + 7, none⟩ = some (.int .i64 ((rd_T92 x5_2 x6_2).f7)) := hcc16 7 _ rfl; have hx16_8 : w17.cell? ⟨go16, (x6_2 : Int).toNat * 9 + 8, none⟩ = some (.int .i64 ((rd_T92 x5_2 x6_2).f8)) := hcc16 8 _ rfl; have hf16_0 : w17.frozen? ⟨go16, (x6_2 : Int).toNat * 9, none⟩ = false := hfr16 0; have hf16_1 := hfr16 1; have hf16_2 := hfr16 2; have hf16_3 := hfr16 3; have hf16_4 := hfr16 4; have hf16_5 := hfr16 5; have hf16_6 := hfr16 6; have hf16_7 := hfr16 7; have hf16_8 := hfr16 8; clear hcl16 hcc16 hfr16 hM16; replace p16 := eq_true p16; replace q16 := eq_true q16; have HX18 := am_ (show Kd.R k92 92 w17 w.heap.size (fun _ => True) (.slice (some ⟨go16, 0, none⟩) x5_2.length co16) x5_2 from (have z0_ := HO_5; Zq)); obtain ⟨ce18, hcl18, hM18, hcc18, hfr18⟩ := Kd.R_elem HX18.out z92 (x6_2 : Int) (of_decide_eq_true Zp) (by have h_ : (x6_2 : Int) < ((x5_2.length : Int) : Int) := of_decide_eq_true Zp; first | exact h_ | (have e_ := (Kd.R_reads' HO_5.out).1; omega) | simpa using h_); obtain rfl := k92_openM hM18; have HP18 := Kd.R_seg HX18.out (x6_2 : Int) (of_decide_eq_true Zp) (by have h_ : (x6_2 : Int) < ((x5_2.length : Int) : Int) := of_decide_eq_true Zp; first | exact h_ | (have e_ := (Kd.R_reads' HO_5.out).1; omega) | simpa using h_) (seg := [.string t229, .int .i64 t230, .int .i64 t231, .int .i64 t232, .int .i64 t233, .int .i64 t234, .int .i64 t235, .int .i64 t236, .int .i64 t237]) (j := 0) hcl18 hcc18 (show 9 ≤ 9 from by decide) (x' := (⟨t229, t230, t231, t232, t233, t234, t235, t236, t237⟩ : S92)) (k92_mkM _ _ _ (⟨t229, t230, t231, t232, t233, t234, t235, t236, t237⟩ : S92) ) (fun _ hk => hk); have hx18_0 := hcc18 0 _ rfl; (try simp only [show (k92).sz = 9 from rfl, Nat.mul_one, Nat.add_zero] at hx18_0); have hf18_0 := hfr18 0; (try simp only [show (k92).sz = 9 from rfl, Nat.mul_one, Nat.add_zero] at hf18_0); have hx18_1 := hcc18 1 _ rfl; (try simp only [show (k92).sz = 9 from rfl, Nat.mul_one, Nat.add_zero] at hx18_1); have hf18_1 := hfr18 1; (try simp only [show (k92).sz = 9 from rfl, Nat.mul_one, Nat.add_zero] at hf18_1); have hx18_2 := hcc18 2 _ rfl; (try simp only [show (k92).sz = 9 from rfl, Nat.mul_one, Nat.add_zero] at hx18_2); have hf18_2 := hfr18 2; (try simp only [show (k92).sz = 9 from rfl, Nat.mul_one, Nat.add_zero] at hf18_2); have hx18_3 := hcc18 3 _ rfl; (try simp only [show (k92).sz = 9 from rfl, Nat.mul_one, Nat.add_zero] at hx18_3); have hf18_3 := hfr18 3; (try simp only [show (k92).sz = 9 from rfl, Nat.mul_one, Nat.add_zero] at hf18_3); have hx18_4 := hcc18 4 _ rfl; (try simp only [show (k92).sz = 9 from rfl, Nat.mul_one, Nat.add_zero] at hx18_4); have hf18_4 := hfr18 4; (try simp only [show (k92).sz = 9 from rfl, Nat.mul_one, Nat.add_zero] at hf18_4); have hx18_5 := hcc18 5 _ rfl; (try simp only [show (k92).sz = 9 from rfl, Nat.mul_one, Nat.add_zero] at hx18_5); have hf18_5 := hfr18 5; (try simp only [show (k92).sz = 9 from rfl, Nat.mul_one, Nat.add_zero] at hf18_5); have hx18_6 := hcc18 6 _ rfl; (try simp only [show (k92).sz = 9 from rfl, Nat.mul_one, Nat.add_zero] at hx18_6); have hf18_6 := hfr18 6; (try simp only [show (k92).sz = 9 from rfl, Nat.mul_one, Nat.add_zero] at hf18_6); have hx18_7 := hcc18 7 _ rfl; (try simp only [show (k92).sz = 9 from rfl, Nat.mul_one, Nat.add_zero] at hx18_7); have hf18_7 := hfr18 7; (try simp only [show (k92).sz = 9 from rfl, Nat.mul_one, Nat.add_zero] at hf18_7); have hx18_8 := hcc18 8 _ rfl; (try simp only [show (k92).sz = 9 from rfl, Nat.mul_one, Nat.add_zero] at hx18_8); have hf18_8 := hfr18 8; (try simp only [show (k92).sz = 9 from rfl, Nat.mul_one, Nat.add_zero] at hf18_8); clear hcl18 hcc18 hfr18 hM18) | ((with_reducible refine gate_store (t := 92) (p := 34) rfl ?_); refine store_event (t := 92) (p := 34) (v := ?vo_w19) (w1 := (((((((((w17.setCell ⟨go16, (x6_2 : Int).toNat * 9, none⟩ (.string t229)).setCell ⟨go16, (x6_2 : Int).toNat * 9 + 1, none⟩ (.int .i64 t230)).setCell ⟨go16, (x6_2 : Int).toNat * 9 + 2, none⟩ (.int .i64 t231)).setCell ⟨go16, (x6_2 : Int).toNat * 9 + 3, none⟩ (.int .i64 t232)).setCell ⟨go16, (x6_2 : Int).toNat * 9 + 4, none⟩ (.int .i64 t233)).setCell ⟨go16, (x6_2 : Int).toNat * 9 + 5, none⟩ (.int .i64 t234)).setCell ⟨go16, (x6_2 : Int).toNat * 9 + 6, none⟩ (.int .i64 t235)).setCell ⟨go16, (x6_2 : Int).toNat * 9 + 7, none⟩ (.int .i64 t236)).setCell ⟨go16, (x6_2 : Int).toNat * 9 + 8, none⟩ (.int .i64 t237))) ?hg ?ho ?hn ?hr ?_; (case ho => rfl); (case hg => rfl); (case hn => rfl); (case hr => first | (go_simp; done) | (go_simp; rfl)); intro w19 hw; have hg : w17.grownBy w19 (some go16) := (by rw [hw]; exact HP18.2); have hp_ : Kd.R k92 92 w19 w.heap.size (fun _ => True) (.slice (some ⟨go16, 0, none⟩) x5_2.length co16) y238 := (by rw [hw, Ny238.out]; exact HP18.1); clear HP18; replace HO_5 := am_ (hp_); replace HB := am_ (((have z0_ := GB16; Zz) : Below w.heap.size w w19)); clear hg hw hp_))
           go_roundg k2
           case measure => have := HJ2.out; have := HK2.out; omega
           case rel => exact ⟨(y238), (wrap64 (x6_2 + 1)), Za, H', ⟨by have := HJ2.out; have := HK2.out; omega⟩, ⟨(have z0_ := HO_5; Zq)⟩, ⟨Zd⟩⟩
          ·rw [if_neg c15] at H
           exact absurd H (by simp)
         ·rw [if_neg c13] at H
          exact absurd H (by simp)
        ·rw [if_neg c12] at H
         have c12b0 := decide_eq_false c12; clear c12; have H' := am_ H; clear H
         go_wp2
         go_loopg [7] k2 (fun kq v7 w' => ∃ (x5_3 : List (S92)) (x7_3 : Int), v7 = .int .i64 x7_3 ∧ Aside0 (laws_toArticleS.l1 kq l0 x5_3 x7_3 = some r) ∧ Aside0 (kq ≤ k2) ∧ Aside0 (Kd.R k92 92 w' w.heap.size (fun _ => True) v226 x5_3) ∧ Aside0 (Below w.heap.size w w'))
         case atStart => exact ⟨(x5_2), ((l0.length : Int)), Za, H', ⟨Nat.le_refl _⟩, ⟨(have z0_ := HO_5; Zq)⟩, ⟨Zd⟩⟩
         case round =>
          clear H'
          try clear c1
          try clear p1
          try clear q1
          try clear hx1
          try clear p2
          try clear q2
          try clear hx2
          try clear c4
          try clear c5
          try clear p6
          try clear c7
          try clear c8
          try clear c8b0
          try clear c8b1
          try clear c9
          try clear c9b0
          try clear c9b1
          try clear c11
          try clear c12
          try clear c12b0
          try clear c13
          try clear c13b0
          try clear c15
          try clear c15b0
          try clear c16
          try clear p16
          try clear q16
          try clear hx16
          try clear hf16
          try clear c18
          try clear hx18
          try clear hf18
          try clear hx16_0
          try clear hx16_1
          try clear hx16_2
          try clear hx16_3
          try clear hx16_4
          try clear hx16_5
          try clear hx16_6
          try clear hx16_7
          try clear hx16_8
          try clear hx18_0
          try clear hx18_1
          try clear hx18_2
          try clear hx18_3
          try clear hx18_4
          try clear hx18_5
          try clear hx18_6
          try clear hx18_7
          try clear hx18_8
          try clear hx228_0
          try clear hx228_1
          try clear hx228_2
          try clear hx228_3
          try clear hx228_4
          try clear hx228_5
          try clear hx228_6
          try clear hx228_7
          try clear hx228_8
          try clear p16
          try clear p2
          try clear p228
          try clear p6
          try clear q16
          try clear q228
          obtain ⟨x5_3, x7_3, rfl, HA, HK3, HO_5, HB⟩ := hrel
          cases gk with
          | zero => exact absurd HA.out (by simp [laws_toArticleS.l1])
          | succ k3 =>
           have H := HA.out; clear HA; simp only [laws_toArticleS.l1] at H
           by_cases c20 : x7_3 < (x5_3.length : Int)
           ·rw [if_pos c20] at H
            have c20b0 := decide_eq_true c20; clear c20; replace H := Option.bind_eq_some_iff.mp H; obtain ⟨⟨t239, t240, t241, t242, t243, t244, t245, t246, t247⟩, A210, H⟩ := H; replace H : (if 0 ≤ x7_3 then (laws_toArticleS.l1 k3 l0 (x5_3.set (x7_3 : Int).toNat (⟨t239, t240, t241, t242, t243, t244, t245, t246, t247⟩ : S92)) (wrap64 (x7_3 + 1))) else (none)) = some r := H; have A21 := am_ A210; clear A210
            by_cases c22 : 0 ≤ x7_3
            ·rw [if_pos c22] at H
             have c22b0 := decide_eq_true c22; clear c22; obtain ⟨y248, hy248⟩ : ∃ y_ : List (S92), y_ = (x5_3.set (x7_3 : Int).toNat (⟨t239, t240, t241, t242, t243, t244, t245, t246, t247⟩ : S92)) := ⟨_, rfl⟩
             (first | (rw [← hy248] at H; with_reducible replace H := bindZ H) | rw [← hy248] at H)
             have Ny248 := am_ hy248; clear hy248; have H' := am_ H; clear H; obtain ⟨Ao24, co24, eo24⟩ := Kd.R_slice HO_5.out; subst eo24
             go_wp2_with (first | ((with_reducible refine gate_callee (f := 121) rfl ?_); refine goesL_ (some 45) rfl rfl Try.func121 Zj rfl #[] rfl Zo ?_; (with_reducible refine (laws_fillerArticle.calls  t239 t240 t241 t242 t243 t244 t245 t246 t247 _ A21.out).mono ?_); rintro e w25 ⟨rfl, hb⟩; refine ⟨_, rfl, ?_⟩; replace HO_5 := am_ (Kd.R_below (have z0_ := HO_5; Zq) hb); replace HB := (bsZ Zd hb); (try clear hb); (try clear hb2); (try clear hk); (try clear hi); have p23 : 0 ≤ (x7_3 : Int) := of_decide_eq_true Zp; have q23 : (x7_3 : Int) < ((x5_3.length : Int) : Int) := of_decide_eq_true Zp; obtain ⟨go23, co23, eo23, gb23, gl23, cl23, HG23⟩ := Kd.R_form HO_5.out (by omega); (first | cases eo23 | (injection eo23 with ea_ en_ ec_; (first | subst ea_ | (injection ea_ with ea_; subst ea_)); subst ec_; clear en_)); have GB23 := am_ gb23; have GG23 := am_ HG23; clear gb23 gl23 HG23; obtain ⟨ce23, hcl23, hM23, hcc23, hfr23⟩ := Kd.R_elem HO_5.out z92 (x7_3 : Int) p23 q23; obtain rfl := k92_openM hM23; have hx23_0 : w25.cell? ⟨go23, (x7_3 : Int).toNat * 9, none⟩ = some (.string ((rd_T92 x5_3 x7_3).f0)) := hcc23 0 _ rfl; have hx23_1 : w25.cell? ⟨go23, (x7_3 : Int).toNat * 9 + 1, none⟩ = some (.int .i64 ((rd_T92 x5_3 x7_3).f1)) := hcc23 1 _ rfl; have hx23_2 : w25.cell? ⟨go23, (x7_3 : Int).toNat * 9 + 2, none⟩ = some (.int .i64 ((rd_T92 x5_3 x7_3).f2)) := hcc23 2 _ rfl; have hx23_3 : w25.cell? ⟨go23, (x7_3 : Int).toNat * 9 + 3, none⟩ = some (.int .i64 ((rd_T92 x5_3 x7_3).f3)) := hcc23 3 _ rfl; have hx23_4 : w25.cell? ⟨go23, (x7_3 : Int).toNat * 9 + 4, none⟩ = some (.int .i64 ((rd_T92 x5_3 x7_3).f4)) := hcc23 4 _ rfl; have hx23_5 : w25.cell? ⟨go23, (x7_3 : Int).toNat * 9 + 5, none⟩ = some (.int .i64 ((rd_T92 x5_3 x7_3).f5)) := hcc23 5 _ rfl; have hx23_6 : w25.cell? ⟨go23, (x7_3 : Int).toNat * 9 + 6, none⟩ = some (.int .i64 ((rd_T92 x5_3 x7_3).f6)) := hcc23 6 _ rfl; have hx23_7 : w25.cell? ⟨go23, (x7_3 : Int).toNat * 9 + 7, none⟩ = some (.int .i64 ((rd_T92 x5_3 x7_3).f7)) := hcc23 7 _ rfl; have hx23_8 : w25.cell? ⟨go23, (x7_3 : Int).toNat * 9 + 8, none⟩ = some (.int .i64 ((rd_T92 x5_3 x7_3).f8)) := hcc23 8 _ rfl; have hf23_0 : w25.frozen? ⟨go23, (x7_3 : Int).toNat * 9, none⟩ = false := hfr23 0; have hf23_1 := hfr23 1; have hf23_2 := hfr23 2; have hf23_3 := hfr23 3; have hf23_4 := hfr23 4; have hf23_5 := hfr23 5; have hf23_6 := hfr23 6; have hf23_7 := hfr23 7; have hf23_8 := hfr23 8; clear hcl23 hcc23 hfr23 hM23; replace p23 := eq_true p23; replace q23 := eq_true q23; have HX26 := am_ (show Kd.R k92 92 w25 w.heap.size (fun _ => True) (.slice (some ⟨go23, 0, none⟩) x5_3.length co24) x5_3 from (have z0_ := HO_5; Zq)); obtain ⟨ce26, hcl26, hM26, hcc26, hfr26⟩ := Kd.R_elem HX26.out z92 (x7_3 : Int) (of_decide_eq_true Zp) (by have h_ : (x7_3 : Int) < ((x5_3.length : Int) : Int) := of_decide_eq_true Zp; first | exact h_ | (have e_ := (Kd.R_reads' HO_5.out).1; omega) | simpa using h_); obtain rfl := k92_openM hM26; have HP26 := Kd.R_seg HX26.out (x7_3 : Int) (of_decide_eq_true Zp) (by have h_ : (x7_3 : Int) < ((x5_3.length : Int) : Int) := of_decide_eq_true Zp; first | exact h_ | (have e_ := (Kd.R_reads' HO_5.out).1; omega) | simpa using h_) (seg := [.string t239, .int .i64 t240, .int .i64 t241, .int .i64 t242, .int .i64 t243, .int .i64 t244, .int .i64 t245, .int .i64 t246, .int .i64 t247]) (j := 0) hcl26 hcc26 (show 9 ≤ 9 from by decide) (x' := (⟨t239, t240, t241, t242, t243, t244, t245, t246, t247⟩ : S92)) (k92_mkM _ _ _ (⟨t239, t240, t241, t242, t243, t244, t245, t246, t247⟩ : S92) ) (fun _ hk => hk); have hx26_0 := hcc26 0 _ rfl; (try simp only [show (k92).sz = 9 from rfl, Nat.mul_one, Nat.add_zero] at hx26_0); have hf26_0 := hfr26 0; (try simp only [show (k92).sz = 9 from rfl, Nat.mul_one, Nat.add_zero] at hf26_0); have hx26_1 := hcc26 1 _ rfl; (try simp only [show (k92).sz = 9 from rfl, Nat.mul_one, Nat.add_zero] at hx26_1); have hf26_1 := hfr26 1; (try simp only [show (k92).sz = 9 from rfl, Nat.mul_one, Nat.add_zero] at hf26_1); have hx26_2 := hcc26 2 _ rfl; (try simp only [show (k92).sz = 9 from rfl, Nat.mul_one, Nat.add_zero] at hx26_2); have hf26_2 := hfr26 2; (try simp only [show (k92).sz = 9 from rfl, Nat.mul_one, Nat.add_zero] at hf26_2); have hx26_3 := hcc26 3 _ rfl; (try simp only [show (k92).sz = 9 from rfl, Nat.mul_one, Nat.add_zero] at hx26_3); have hf26_3 := hfr26 3; (try simp only [show (k92).sz = 9 from rfl, Nat.mul_one, Nat.add_zero] at hf26_3); have hx26_4 := hcc26 4 _ rfl; (try simp only [show (k92).sz = 9 from rfl, Nat.mul_one, Nat.add_zero] at hx26_4); have hf26_4 := hfr26 4; (try simp only [show (k92).sz = 9 from rfl, Nat.mul_one, Nat.add_zero] at hf26_4); have hx26_5 := hcc26 5 _ rfl; (try simp only [show (k92).sz = 9 from rfl, Nat.mul_one, Nat.add_zero] at hx26_5); have hf26_5 := hfr26 5; (try simp only [show (k92).sz = 9 from rfl, Nat.mul_one, Nat.add_zero] at hf26_5); have hx26_6 := hcc26 6 _ rfl; (try simp only [show (k92).sz = 9 from rfl, Nat.mul_one, Nat.add_zero] at hx26_6); have hf26_6 := hfr26 6; (try simp only [show (k92).sz = 9 from rfl, Nat.mul_one, Nat.add_zero] at hf26_6); have hx26_7 := hcc26 7 _ rfl; (try simp only [show (k92).sz = 9 from rfl, Nat.mul_one, Nat.add_zero] at hx26_7); have hf26_7 := hfr26 7; (try simp only [show (k92).sz = 9 from rfl, Nat.mul_one, Nat.add_zero] at hf26_7); have hx26_8 := hcc26 8 _ rfl; (try simp only [show (k92).sz = 9 from rfl, Nat.mul_one, Nat.add_zero] at hx26_8); have hf26_8 := hfr26 8; (try simp only [show (k92).sz = 9 from rfl, Nat.mul_one, Nat.add_zero] at hf26_8); clear hcl26 hcc26 hfr26 hM26) | ((with_reducible refine gate_store (t := 92) (p := 46) rfl ?_); refine store_event (t := 92) (p := 46) (v := ?vo_w27) (w1 := (((((((((w25.setCell ⟨go23, (x7_3 : Int).toNat * 9, none⟩ (.string t239)).setCell ⟨go23, (x7_3 : Int).toNat * 9 + 1, none⟩ (.int .i64 t240)).setCell ⟨go23, (x7_3 : Int).toNat * 9 + 2, none⟩ (.int .i64 t241)).setCell ⟨go23, (x7_3 : Int).toNat * 9 + 3, none⟩ (.int .i64 t242)).setCell ⟨go23, (x7_3 : Int).toNat * 9 + 4, none⟩ (.int .i64 t243)).setCell ⟨go23, (x7_3 : Int).toNat * 9 + 5, none⟩ (.int .i64 t244)).setCell ⟨go23, (x7_3 : Int).toNat * 9 + 6, none⟩ (.int .i64 t245)).setCell ⟨go23, (x7_3 : Int).toNat * 9 + 7, none⟩ (.int .i64 t246)).setCell ⟨go23, (x7_3 : Int).toNat * 9 + 8, none⟩ (.int .i64 t247))) ?hg ?ho ?hn ?hr ?_; (case ho => rfl); (case hg => rfl); (case hn => rfl); (case hr => first | (go_simp; done) | (go_simp; rfl)); intro w27 hw; have hg : w25.grownBy w27 (some go23) := (by rw [hw]; exact HP26.2); have hp_ : Kd.R k92 92 w27 w.heap.size (fun _ => True) (.slice (some ⟨go23, 0, none⟩) x5_3.length co24) y248 := (by rw [hw, Ny248.out]; exact HP26.1); clear HP26; replace HO_5 := am_ (hp_); replace HB := am_ (((have z0_ := GB23; Zz) : Below w.heap.size w w27)); clear hg hw hp_))
             go_roundg k3
             case measure => have := HJ2.out; have := HK2.out; have := HK3.out; omega
             case rel => exact ⟨(y248), (wrap64 (x7_3 + 1)), Za, H', ⟨Zr⟩, ⟨(have z0_ := HO_5; Zq)⟩, ⟨Zd⟩⟩
            ·rw [if_neg c22] at H
             exact absurd H (by simp)
           ·rw [if_neg c20] at H
            have c20b0 := decide_eq_false c20; clear c20
            by_cases c28 : 0 ≤ (l0.length : Int)
            ·rw [if_pos c28] at H
             have c28b0 := eq_true c28; have c28b1 := decide_eq_true c28; clear c28
             by_cases c29 : (l0.length : Int) ≤ (x5_3.length : Int)
             ·rw [if_pos c29] at H
              have c29b0 := eq_true c29; have c29b1 := decide_eq_true c29; clear c29; obtain ⟨y249, hy249⟩ : ∃ y_ : List (S92), y_ = (x5_3.take ((l0.length : Int) : Int).toNat) := ⟨_, rfl⟩
              (first | (rw [← hy249] at H; with_reducible replace H := bindZ H) | rw [← hy249] at H)
              have Ny249 := am_ hy249; clear hy249; obtain rfl := Option.some.inj H; obtain ⟨Ao30, co30, eo30⟩ := Kd.R_slice HO_5.out; subst eo30; have q31 : ((l0.length : Int) : Int) ≤ ((x5_3.length : Int) : Int) := of_decide_eq_true Zp; obtain ⟨i031, hi031, _, hsz31, _⟩ := info_parts info92; have hcut31 := cut_to (P := Try.prog) 29 92 .i64 Try.underlying29 hi031 Ao30 x5_3.length co30 (l0.length : Int) (of_decide_eq_true Zp) q31 (Kd.R_reads' HO_5.out).2.1; have hr31 := Kd.R_take (m := ((l0.length : Int) : Int).toNat) HO_5.out (by omega); have hy31 : y249.length = ((l0.length : Int) : Int).toNat := (by rw [Ny249.out, List.length_take]; omega); rw [← Ny249.out] at hr31; rw [← hy31] at hr31 hcut31; clear hy31 hi031 hsz31 HO_5; have HO251 := am_ hr31; clear hr31; replace q31 := eq_true q31
              go_wp2
              go_ret
              exact ⟨_, Zs, (have z0_ := HO251; Zq), Zd⟩
             ·rw [if_neg c29] at H
              exact absurd H (by simp)
            ·rw [if_neg c28] at H
             exact absurd H (by simp)
     ·rw [if_neg c9] at H
      exact absurd H (by simp)
    ·rw [if_neg c8] at H
     exact absurd H (by simp)
def laws_eqArticle.f (a0_0 : ByteArray) (a0_1 : Int) (a0_2 : Int) (a0_3 : Int) (a0_4 : Int) (a0_5 : Int) (a0_6 : Int) (a0_7 : Int) (a0_8 : Int) (a1_0 : ByteArray) (a1_1 : Int) (a1_2 : Int) (a1_3 : Int) (a1_4 : Int) (a1_5 : Int) (a1_6 : Int) (a1_7 : Int) (a1_8 : Int) : Option (Bool) := if a0_0.toList = a1_0.toList then (if a0_1 = a1_1 then (if a0_2 = a1_2 then (if a0_3 = a1_3 then (if a0_4 = a1_4 then (if a0_5 = a1_5 then (if a0_6 = a1_6 then (if a0_7 = a1_7 then (if a0_8 = a1_8 then (some true) else (some false)) else (some false)) else (some false)) else (some false)) else (some false)) else (some false)) else (some false)) else (some false)) else (some false)
set_option maxHeartbeats 8000000 in
set_option maxRecDepth 100000 in
theorem laws_eqArticle.calls (a0_0 : ByteArray) (a0_1 : Int) (a0_2 : Int) (a0_3 : Int) (a0_4 : Int) (a0_5 : Int) (a0_6 : Int) (a0_7 : Int) (a0_8 : Int) (a1_0 : ByteArray) (a1_1 : Int) (a1_2 : Int) (a1_3 : Int) (a1_4 : Int) (a1_5 : Int) (a1_6 : Int) (a1_7 : Int) (a1_8 : Int) (r : Bool) (w : World) (h : laws_eqArticle.f a0_0 a0_1 a0_2 a0_3 a0_4 a0_5 a0_6 a0_7 a0_8 a1_0 a1_1 a1_2 a1_3 a1_4 a1_5 a1_6 a1_7 a1_8 = some r) (hr_ : r = true := by rfl) :
  Calls Try.prog 124 #[.agg #[.string a0_0, .int .i64 a0_1, .int .i64 a0_2, .int .i64 a0_3, .int .i64 a0_4, .int .i64 a0_5, .int .i64 a0_6, .int .i64 a0_7, .int .i64 a0_8], .agg #[.string a1_0, .int .i64 a1_1, .int .i64 a1_2, .int .i64 a1_3, .int .i64 a1_4, .int .i64 a1_5, .int .i64 a1_6, .int .i64 a1_7, .int .i64 a1_8]] w fun e w' => e = .returned (.bool r) ∧ Below w.heap.size w w' := by
 have HR_ := am_ hr_; clear hr_; have hu92 := Try.underlying92; have HB := am_ (Below.refl w.heap.size w); have H : (if a0_0.toList = a1_0.toList then (if a0_1 = a1_1 then (if a0_2 = a1_2 then (if a0_3 = a1_3 then (if a0_4 = a1_4 then (if a0_5 = a1_5 then (if a0_6 = a1_6 then (if a0_7 = a1_7 then (if a0_8 = a1_8 then (some true) else (some false)) else (some false)) else (some false)) else (some false)) else (some false)) else (some false)) else (some false)) else (some false)) else (some false)) = some r := h; clear h
 by_cases c3 : a0_0.toList = a1_0.toList
 ·rw [if_pos c3] at H
  have c3b0 := beq_iff_eq.mpr c3; have c3b1 := bne_eq_false_iff_eq.mpr c3; clear c3
  by_cases c4 : a0_1 = a1_1
  ·rw [if_pos c4] at H
   have c4b0 := beq_iff_eq.mpr c4; have c4b1 := bne_eq_false_iff_eq.mpr c4; clear c4
   by_cases c5 : a0_2 = a1_2
   ·rw [if_pos c5] at H
    have c5b0 := beq_iff_eq.mpr c5; have c5b1 := bne_eq_false_iff_eq.mpr c5; clear c5
    by_cases c6 : a0_3 = a1_3
    ·rw [if_pos c6] at H
     have c6b0 := beq_iff_eq.mpr c6; have c6b1 := bne_eq_false_iff_eq.mpr c6; clear c6
     by_cases c7 : a0_4 = a1_4
     ·rw [if_pos c7] at H
      have c7b0 := beq_iff_eq.mpr c7; have c7b1 := bne_eq_false_iff_eq.mpr c7; clear c7
      by_cases c8 : a0_5 = a1_5
      ·rw [if_pos c8] at H
       have c8b0 := beq_iff_eq.mpr c8; have c8b1 := bne_eq_false_iff_eq.mpr c8; clear c8
       by_cases c9 : a0_6 = a1_6
       ·rw [if_pos c9] at H
        have c9b0 := beq_iff_eq.mpr c9; have c9b1 := bne_eq_false_iff_eq.mpr c9; clear c9
        by_cases c10 : a0_7 = a1_7
        ·rw [if_pos c10] at H
         have c10b0 := beq_iff_eq.mpr c10; have c10b1 := bne_eq_false_iff_eq.mpr c10; clear c10
         by_cases c11 : a0_8 = a1_8
         ·rw [if_pos c11] at H
          have c11b0 := beq_iff_eq.mpr c11; have c11b1 := bne_eq_false_iff_eq.mpr c11; clear c11; obtain rfl := Option.some.inj H
          go_enter Try.func124, Try.ntmps124
          go_wp2_with (first | ((with_reducible refine gate_dst (N := 2) rfl ?_); refine boxZ 2 #[.string a0_0, .int .i64 a0_1, .int .i64 a0_2, .int .i64 a0_3, .int .i64 a0_4, .int .i64 a0_5, .int .i64 a0_6, .int .i64 a0_7, .int .i64 a0_8] 92 ?_; intro gb380 hg w12 hbox hb; replace BK380 := am_ (hbox); replace GW380 := am_ ((Zc : w.heap.size ≤ gb380)); replace GE380 := GW380; replace HB := (bsZ Zd hb); clear hb hbox hg) | ((with_reducible refine gate_dst (N := 3) rfl ?_); refine boxZ 3 #[.string a1_0, .int .i64 a1_1, .int .i64 a1_2, .int .i64 a1_3, .int .i64 a1_4, .int .i64 a1_5, .int .i64 a1_6, .int .i64 a1_7, .int .i64 a1_8] 92 ?_; intro gb381 hg w13 hbox hb; replace BK381 := am_ (hbox); replace GW381 := am_ (((have z0_ := GE380; Ze) : w.heap.size ≤ gb381)); replace GE381 := GW381; replace HB := (bsZ (have z0_ := GE380; Zf) hb); replace NB380_381 := am_ ((by rw [hg]; exact Nat.ne_of_lt (blk_lt (g := gb380) (o := .cells #[.string a0_0, .int .i64 a0_1, .int .i64 a0_2, .int .i64 a0_3, .int .i64 a0_4, .int .i64 a0_5, .int .i64 a0_6, .int .i64 a0_7, .int .i64 a0_8] 92 (0, 0)) (have z0_ := BK380; Zg)) : gb380 ≠ gb381)); replace NB381_380 := am_ ((by rw [hg]; exact Nat.ne_of_gt (blk_lt (g := gb380) (o := .cells #[.string a0_0, .int .i64 a0_1, .int .i64 a0_2, .int .i64 a0_3, .int .i64 a0_4, .int .i64 a0_5, .int .i64 a0_6, .int .i64 a0_7, .int .i64 a0_8] 92 (0, 0)) (have z0_ := BK380; Zg)) : gb381 ≠ gb380)); replace BK380 := (have z0_ := BK380; bkZ hb); clear hb hbox hg; have hnb14 := NB380_381.out; have hnc14 := NB381_380.out; refine ci9 BK380 ?_; intros; refine ci9 BK381 ?_; intros))
          go_ret
          exact ⟨Zk, (have z0_ := GE380; have z1_ := GE381; Zi)⟩
         ·rw [if_neg c11] at H
          have c11b0 := beq_eq_false_iff_ne.mpr c11; have c11b1 := bne_iff_ne.mpr c11; exact absurd ((Option.some.inj H).trans HR_.out) (by decide)
        ·rw [if_neg c10] at H
         have c10b0 := beq_eq_false_iff_ne.mpr c10; have c10b1 := bne_iff_ne.mpr c10; exact absurd ((Option.some.inj H).trans HR_.out) (by decide)
       ·rw [if_neg c9] at H
        have c9b0 := beq_eq_false_iff_ne.mpr c9; have c9b1 := bne_iff_ne.mpr c9; exact absurd ((Option.some.inj H).trans HR_.out) (by decide)
      ·rw [if_neg c8] at H
       have c8b0 := beq_eq_false_iff_ne.mpr c8; have c8b1 := bne_iff_ne.mpr c8; exact absurd ((Option.some.inj H).trans HR_.out) (by decide)
     ·rw [if_neg c7] at H
      have c7b0 := beq_eq_false_iff_ne.mpr c7; have c7b1 := bne_iff_ne.mpr c7; exact absurd ((Option.some.inj H).trans HR_.out) (by decide)
    ·rw [if_neg c6] at H
     have c6b0 := beq_eq_false_iff_ne.mpr c6; have c6b1 := bne_iff_ne.mpr c6; exact absurd ((Option.some.inj H).trans HR_.out) (by decide)
   ·rw [if_neg c5] at H
    have c5b0 := beq_eq_false_iff_ne.mpr c5; have c5b1 := bne_iff_ne.mpr c5; exact absurd ((Option.some.inj H).trans HR_.out) (by decide)
  ·rw [if_neg c4] at H
   have c4b0 := beq_eq_false_iff_ne.mpr c4; have c4b1 := bne_iff_ne.mpr c4; exact absurd ((Option.some.inj H).trans HR_.out) (by decide)
 ·rw [if_neg c3] at H
  have c3b0 := beq_eq_false_iff_ne.mpr c3; have c3b1 := bne_iff_ne.mpr c3; exact absurd ((Option.some.inj H).trans HR_.out) (by decide)
def laws_eqArticleS.l0 : Nat → List (S92) → List (S92) → Int → Option (Bool)
 | 0, _, _, _ => none
 | k + 1, x0, x1, x5 => if x5 < (x0.length : Int) then (if 0 ≤ x5 then (if x5 < (x1.length : Int) then ((laws_eqArticle.f ((rd_T92 x0 x5).f0) ((rd_T92 x0 x5).f1) ((rd_T92 x0 x5).f2) ((rd_T92 x0 x5).f3) ((rd_T92 x0 x5).f4) ((rd_T92 x0 x5).f5) ((rd_T92 x0 x5).f6) ((rd_T92 x0 x5).f7) ((rd_T92 x0 x5).f8) ((rd_T92 x1 x5).f0) ((rd_T92 x1 x5).f1) ((rd_T92 x1 x5).f2) ((rd_T92 x1 x5).f3) ((rd_T92 x1 x5).f4) ((rd_T92 x1 x5).f5) ((rd_T92 x1 x5).f6) ((rd_T92 x1 x5).f7) ((rd_T92 x1 x5).f8)).bind fun t384 => (if t384 = true then (laws_eqArticleS.l0 k x0 x1 (wrap64 (x5 + 1))) else (some false))) else (none)) else (none)) else (some true)
def laws_eqArticleS.f (k : Nat) (l0 : List (S92)) (l1 : List (S92)) : Option (Bool) := if (l0.length : Int) = (l1.length : Int) then (laws_eqArticleS.l0 k l0 l1 0) else (some false)
def laws_eqArticleS.T6 : Bool × List (List Nat × List Nat) := (true, [([], []), ([], []), ([0, 1], [0, 1]), ([2], [2]), ([], []), ([], []), ([4, 5], [4, 5]), ([6], [6]), ([3, 7], [3, 7]), ([8], [8])])
def laws_eqArticleS.B6 : List Nat := [0, 0, 3, 7, 0, 0, 48, 112, 255, 511]
theorem laws_eqArticleS.tab6 : rtab .any (opsOf Try.f76 6) = laws_eqArticleS.T6 := by kernel_rfl
theorem laws_eqArticleS.bits6 : waitsOk laws_eqArticleS.T6.2 laws_eqArticleS.B6 = true := by kernel_rfl
set_option maxHeartbeats 8000000 in
set_option maxRecDepth 100000 in
theorem laws_eqArticleS.calls (k : Nat) (A0 : Option Addr) (c0 : Nat) (l0 : List (S92)) (A1 : Option Addr) (c1 : Nat) (l1 : List (S92)) (r : Bool) (w : World) (hr0 : Kd.C k92 w A0 l0.length l0) (hc0 : l0.length ≤ c0) (hr1 : Kd.C k92 w A1 l1.length l1) (hc1 : l1.length ≤ c1) (h : laws_eqArticleS.f k l0 l1 = some r) (hr_ : r = true := by rfl) :
  Calls Try.prog 76 #[.slice A0 l0.length c0, .slice A1 l1.length c1] w fun e w' => e = .returned (.bool r) ∧ Below w.heap.size w w' := by
 have HR_ := am_ hr_; clear hr_; have hu92 := Try.underlying92; have HR0 := am_ hr0; have HC0 := am_ hc0; clear hr0 hc0; have HR1 := am_ hr1; have HC1 := am_ hc1; clear hr1 hc1; have HB := am_ (Below.refl w.heap.size w); have H : (if (l0.length : Int) = (l1.length : Int) then (laws_eqArticleS.l0 k l0 l1 0) else (some false)) = some r := h; clear h
 by_cases c3 : (l0.length : Int) = (l1.length : Int)
 ·rw [if_pos c3] at H
  have c3b0 := beq_iff_eq.mpr c3; have c3b1 := bne_eq_false_iff_eq.mpr c3
  have c3b2 : (l0.length == l1.length) = true := by first | simpa using c3 | (simp at c3 ⊢; omega)
  clear c3; have H' := am_ H; clear H
  go_enter Try.func76, Try.ntmps76
  go_wp2
  go_loopg [5] k (fun kq v5 w' => ∃ (x5_1 : Int), v5 = .int .i64 x5_1 ∧ Aside0 (laws_eqArticleS.l0 kq l0 l1 x5_1 = some r) ∧ Aside0 (kq ≤ k) ∧ Aside0 (Below w.heap.size w w'))
  case atStart => exact ⟨(0), Za, H', ⟨Nat.le_refl _⟩, ⟨Zd⟩⟩
  case round =>
   clear H'
   try clear c1
   try clear p2
   try clear c3
   try clear c3b0
   try clear c3b1
   try clear c3b2
   obtain ⟨x5_1, rfl, HA, HK1, HB⟩ := hrel
   cases gk with
   | zero => exact absurd HA.out (by simp [laws_eqArticleS.l0])
   | succ k1 =>
    have H := HA.out; clear HA; simp only [laws_eqArticleS.l0] at H
    by_cases c4 : x5_1 < (l0.length : Int)
    ·rw [if_pos c4] at H
     have c4b0 := decide_eq_true c4; clear c4
     by_cases c5 : 0 ≤ x5_1
     ·rw [if_pos c5] at H
      have c5b0 := decide_eq_true c5; clear c5
      by_cases c6 : x5_1 < (l1.length : Int)
      ·rw [if_pos c6] at H
       have c6b0 := decide_eq_true c6; clear c6; replace H := Option.bind_eq_some_iff.mp H; obtain ⟨t384, A70, H⟩ := H; have A7 := am_ A70; clear A70
       by_cases c8 : t384 = true
       ·subst c8
        have H1 : (laws_eqArticleS.l0 k1 l0 l1 (wrap64 (x5_1 + 1))) = some r := by rw [if_pos rfl] at H; exact H
        clear H; have H := H1; clear H1; have H' := am_ H; clear H
        try go_wp2
        replace HB := am_ (below_drew1 HB.out); have p382 : 0 ≤ (x5_1 : Int) := of_decide_eq_true Zp; have q382 : x5_1 < (l0.length : Int) := of_decide_eq_true Zp; obtain ⟨ad382, e382, hx382_0, hx382_1, hx382_2, hx382_3, hx382_4, hx382_5, hx382_6, hx382_7, hx382_8⟩ := at_T92 HR0.out x5_1 p382 q382; have hw382_8 := hx382_8; have hw382_7 := hx382_7; have hw382_6 := hx382_6; have hw382_5 := hx382_5; have hw382_4 := hx382_4; have hw382_3 := hx382_3; have hw382_2 := hx382_2; have hw382_1 := hx382_1; have hw382_0 := hx382_0
        cases e382
        replace hx382_0 := cbH HB hx382_0; replace hx382_1 := cbH HB hx382_1; replace hx382_2 := cbH HB hx382_2; replace hx382_3 := cbH HB hx382_3; replace hx382_4 := cbH HB hx382_4; replace hx382_5 := cbH HB hx382_5; replace hx382_6 := cbH HB hx382_6; replace hx382_7 := cbH HB hx382_7; replace hx382_8 := cbH HB hx382_8; replace p382 := eq_true p382; replace q382 := eq_true q382; have p383 : 0 ≤ (x5_1 : Int) := of_decide_eq_true Zp; have q383 : x5_1 < (l1.length : Int) := of_decide_eq_true Zp; obtain ⟨ad383, e383, hx383_0, hx383_1, hx383_2, hx383_3, hx383_4, hx383_5, hx383_6, hx383_7, hx383_8⟩ := at_T92 HR1.out x5_1 p383 q383; have hw383_8 := hx383_8; have hw383_7 := hx383_7; have hw383_6 := hx383_6; have hw383_5 := hx383_5; have hw383_4 := hx383_4; have hw383_3 := hx383_3; have hw383_2 := hx383_2; have hw383_1 := hx383_1; have hw383_0 := hx383_0
        cases e383
        replace hx383_0 := cbH HB hx383_0; replace hx383_1 := cbH HB hx383_1; replace hx383_2 := cbH HB hx383_2; replace hx383_3 := cbH HB hx383_3; replace hx383_4 := cbH HB hx383_4; replace hx383_5 := cbH HB hx383_5; replace hx383_6 := cbH HB hx383_6; replace hx383_7 := cbH HB hx383_7; replace hx383_8 := cbH HB hx383_8; replace p383 := eq_true p383; replace q383 := eq_true q383; refine start_ (n := 10) (S := fun w' => w'.cell? (ad382.add ((x5_1).toNat * 9)) = some (.string ((rd_T92 l0 x5_1).f0)) ∧ w'.cell? ⟨(ad382.add ((x5_1).toNat * 9)).block, (ad382.add ((x5_1).toNat * 9)).off + 1, none⟩ = some (.int .i64 ((rd_T92 l0 x5_1).f1)) ∧ w'.cell? ⟨(ad382.add ((x5_1).toNat * 9)).block, (ad382.add ((x5_1).toNat * 9)).off + 2, none⟩ = some (.int .i64 ((rd_T92 l0 x5_1).f2)) ∧ w'.cell? ⟨(ad382.add ((x5_1).toNat * 9)).block, (ad382.add ((x5_1).toNat * 9)).off + 3, none⟩ = some (.int .i64 ((rd_T92 l0 x5_1).f3)) ∧ w'.cell? ⟨(ad382.add ((x5_1).toNat * 9)).block, (ad382.add ((x5_1).toNat * 9)).off + 4, none⟩ = some (.int .i64 ((rd_T92 l0 x5_1).f4)) ∧ w'.cell? ⟨(ad382.add ((x5_1).toNat * 9)).block, (ad382.add ((x5_1).toNat * 9)).off + 5, none⟩ = some (.int .i64 ((rd_T92 l0 x5_1).f5)) ∧ w'.cell? ⟨(ad382.add ((x5_1).toNat * 9)).block, (ad382.add ((x5_1).toNat * 9)).off + 6, none⟩ = some (.int .i64 ((rd_T92 l0 x5_1).f6)) ∧ w'.cell? ⟨(ad382.add ((x5_1).toNat * 9)).block, (ad382.add ((x5_1).toNat * 9)).off + 7, none⟩ = some (.int .i64 ((rd_T92 l0 x5_1).f7)) ∧ w'.cell? ⟨(ad382.add ((x5_1).toNat * 9)).block, (ad382.add ((x5_1).toNat * 9)).off + 8, none⟩ = some (.int .i64 ((rd_T92 l0 x5_1).f8)) ∧ w'.cell? (ad383.add ((x5_1).toNat * 9)) = some (.string ((rd_T92 l1 x5_1).f0)) ∧ w'.cell? ⟨(ad383.add ((x5_1).toNat * 9)).block, (ad383.add ((x5_1).toNat * 9)).off + 1, none⟩ = some (.int .i64 ((rd_T92 l1 x5_1).f1)) ∧ w'.cell? ⟨(ad383.add ((x5_1).toNat * 9)).block, (ad383.add ((x5_1).toNat * 9)).off + 2, none⟩ = some (.int .i64 ((rd_T92 l1 x5_1).f2)) ∧ w'.cell? ⟨(ad383.add ((x5_1).toNat * 9)).block, (ad383.add ((x5_1).toNat * 9)).off + 3, none⟩ = some (.int .i64 ((rd_T92 l1 x5_1).f3)) ∧ w'.cell? ⟨(ad383.add ((x5_1).toNat * 9)).block, (ad383.add ((x5_1).toNat * 9)).off + 4, none⟩ = some (.int .i64 ((rd_T92 l1 x5_1).f4)) ∧ w'.cell? ⟨(ad383.add ((x5_1).toNat * 9)).block, (ad383.add ((x5_1).toNat * 9)).off + 5, none⟩ = some (.int .i64 ((rd_T92 l1 x5_1).f5)) ∧ w'.cell? ⟨(ad383.add ((x5_1).toNat * 9)).block, (ad383.add ((x5_1).toNat * 9)).off + 6, none⟩ = some (.int .i64 ((rd_T92 l1 x5_1).f6)) ∧ w'.cell? ⟨(ad383.add ((x5_1).toNat * 9)).block, (ad383.add ((x5_1).toNat * 9)).off + 7, none⟩ = some (.int .i64 ((rd_T92 l1 x5_1).f7)) ∧ w'.cell? ⟨(ad383.add ((x5_1).toNat * 9)).block, (ad383.add ((x5_1).toNat * 9)).off + 8, none⟩ = some (.int .i64 ((rd_T92 l1 x5_1).f8))) (ds := []) (bT 10 0) Zj rfl rfl ⟨(cbH HB hw382_0 :), (cbH HB hw382_1 :), (cbH HB hw382_2 :), (cbH HB hw382_3 :), (cbH HB hw382_4 :), (cbH HB hw382_5 :), (cbH HB hw382_6 :), (cbH HB hw382_7 :), (cbH HB hw382_8 :), (cbH HB hw383_0 :), (cbH HB hw383_1 :), (cbH HB hw383_2 :), (cbH HB hw383_3 :), (cbH HB hw383_4 :), (cbH HB hw383_5 :), (cbH HB hw383_6 :), (cbH HB hw383_7 :), (cbH HB hw383_8 :)⟩ (fun hHeld => ?_); refine with_tabW laws_eqArticleS.tab6 laws_eqArticleS.bits6 (fun HT_ HW_ => ?_)
        generalize wr.drew = w9 at HB hx382_0 hx382_1 hx382_2 hx382_3 hx382_4 hx382_5 hx382_6 hx382_7 hx382_8 hx383_0 hx383_1 hx383_2 hx383_3 hx383_4 hx383_5 hx383_6 hx383_7 hx383_8 hHeld ⊢; refine pureZ HT_ 0 (some 17) (bT 10 1) ?_; refine pureZ HT_ 1 (some 18) (bT 10 2) ?_; refine pureZ HT_ 2 (some 19) (bT 10 3) ?_; refine pureZ HT_ 4 (some 21) #[true, true, true, false, true, false, false, false, false, false] ?_; refine pureZ HT_ 5 (some 22) #[true, true, true, false, true, true, false, false, false, false] ?_; refine pureZ HT_ 6 (some 23) #[true, true, true, false, true, true, true, false, false, false] ?_; refine takeZ18 HT_ HW_ 3 (some 20) (bT 10 7) hHeld ?_; refine takeZ18 HT_ HW_ 7 (some 24) (bT 10 8) hHeld ?_; refine one_ (i := 8) (N := some 25) (bT 10 9) rfl rfl (one_of HT_.out Zj) (by decide) (fun K hK => ?_); refine goes_ Try.func124 Zj rfl #[.agg #[.string ((rd_T92 l0 x5_1).f0), .int .i64 ((rd_T92 l0 x5_1).f1), .int .i64 ((rd_T92 l0 x5_1).f2), .int .i64 ((rd_T92 l0 x5_1).f3), .int .i64 ((rd_T92 l0 x5_1).f4), .int .i64 ((rd_T92 l0 x5_1).f5), .int .i64 ((rd_T92 l0 x5_1).f6), .int .i64 ((rd_T92 l0 x5_1).f7), .int .i64 ((rd_T92 l0 x5_1).f8)], .agg #[.string ((rd_T92 l1 x5_1).f0), .int .i64 ((rd_T92 l1 x5_1).f1), .int .i64 ((rd_T92 l1 x5_1).f2), .int .i64 ((rd_T92 l1 x5_1).f3), .int .i64 ((rd_T92 l1 x5_1).f4), .int .i64 ((rd_T92 l1 x5_1).f5), .int .i64 ((rd_T92 l1 x5_1).f6), .int .i64 ((rd_T92 l1 x5_1).f7), .int .i64 ((rd_T92 l1 x5_1).f8)]] (by rfl) rfl rfl Zo ?_
        with_reducible refine (laws_eqArticle.calls ((rd_T92 l0 x5_1).f0) ((rd_T92 l0 x5_1).f1) ((rd_T92 l0 x5_1).f2) ((rd_T92 l0 x5_1).f3) ((rd_T92 l0 x5_1).f4) ((rd_T92 l0 x5_1).f5) ((rd_T92 l0 x5_1).f6) ((rd_T92 l0 x5_1).f7) ((rd_T92 l0 x5_1).f8) ((rd_T92 l1 x5_1).f0) ((rd_T92 l1 x5_1).f1) ((rd_T92 l1 x5_1).f2) ((rd_T92 l1 x5_1).f3) ((rd_T92 l1 x5_1).f4) ((rd_T92 l1 x5_1).f5) ((rd_T92 l1 x5_1).f6) ((rd_T92 l1 x5_1).f7) ((rd_T92 l1 x5_1).f8) true _ A7.out).mono ?_
        rintro e w10 ⟨rfl, hb⟩; refine ⟨_, rfl, ?_⟩; replace HB := (bsZ Zd hb)
        (try clear hb)
        (try clear hb2)
        (try clear hk)
        (try clear hi)
        refine hK.out _ _ ⟨(cbH HB hw382_0 :), (cbH HB hw382_1 :), (cbH HB hw382_2 :), (cbH HB hw382_3 :), (cbH HB hw382_4 :), (cbH HB hw382_5 :), (cbH HB hw382_6 :), (cbH HB hw382_7 :), (cbH HB hw382_8 :), (cbH HB hw383_0 :), (cbH HB hw383_1 :), (cbH HB hw383_2 :), (cbH HB hw383_3 :), (cbH HB hw383_4 :), (cbH HB hw383_5 :), (cbH HB hw383_6 :), (cbH HB hw383_7 :), (cbH HB hw383_8 :)⟩ (fun hHeld => ?_); clear hK K; refine normZ 25 ?_; refine pureZ HT_ 9 (some 26) (bT 10 10) ?_; refine done_ (done_of HT_.out Zj) ?_
        try go_wp2
        go_roundg k1
        case measure => have := HK1.out; omega
        case rel => exact ⟨(wrap64 (x5_1 + 1)), Za, H', ⟨Zt⟩, ⟨Zd⟩⟩
       ·replace c8 := Bool.eq_false_iff.mpr c8
        subst c8
        have H1 : (some false) = some r := by rw [if_neg (show ¬ (false = true) by decide)] at H; exact H
        clear H; have H := H1; clear H1; exact absurd ((Option.some.inj H).trans HR_.out) (by decide)
      ·rw [if_neg c6] at H
       exact absurd H (by simp)
     ·rw [if_neg c5] at H
      exact absurd H (by simp)
    ·rw [if_neg c4] at H
     have c4b0 := decide_eq_false c4; clear c4; obtain rfl := Option.some.inj H
     go_wp2
     go_ret
     exact ⟨Zk, Zd⟩
 ·rw [if_neg c3] at H
  have c3b0 := beq_eq_false_iff_ne.mpr c3; have c3b1 := bne_iff_ne.mpr c3
  have c3b2 : (l0.length == l1.length) = false := by first | simpa using c3 | (simp at c3 ⊢; omega)
  exact absurd ((Option.some.inj H).trans HR_.out) (by decide)
def laws_markArticleS.l0 : Nat → List (S92) → Int → Int → Option (Int × (List (S92)))
 | 0, _, _, _ => none
 | k + 1, x0, x1, x5 => if x5 < (x0.length : Int) then ((laws_markText.f k x1).bind fun t435 => (if 0 ≤ x5 then ((some (x0.set (x5 : Int).toNat (⟨t435, (rd_T92 x0 x5).f1, (rd_T92 x0 x5).f2, (rd_T92 x0 x5).f3, (rd_T92 x0 x5).f4, (rd_T92 x0 x5).f5, (rd_T92 x0 x5).f6, (rd_T92 x0 x5).f7, (rd_T92 x0 x5).f8⟩ : S92) : List (S92))).bind fun y436 => ((some (y436.set (x5 : Int).toNat (⟨(rd_T92 y436 x5).f0, wrap64 (x1 + 1), (rd_T92 y436 x5).f2, (rd_T92 y436 x5).f3, (rd_T92 y436 x5).f4, (rd_T92 y436 x5).f5, (rd_T92 y436 x5).f6, (rd_T92 y436 x5).f7, (rd_T92 y436 x5).f8⟩ : S92) : List (S92))).bind fun y437 => ((some (y437.set (x5 : Int).toNat (⟨(rd_T92 y437 x5).f0, (rd_T92 y437 x5).f1, wrap64 ((wrap64 (x1 + 1)) + 1), (rd_T92 y437 x5).f3, (rd_T92 y437 x5).f4, (rd_T92 y437 x5).f5, (rd_T92 y437 x5).f6, (rd_T92 y437 x5).f7, (rd_T92 y437 x5).f8⟩ : S92) : List (S92))).bind fun y438 => ((some (y438.set (x5 : Int).toNat (⟨(rd_T92 y438 x5).f0, (rd_T92 y438 x5).f1, (rd_T92 y438 x5).f2, wrap64 ((wrap64 ((wrap64 (x1 + 1)) + 1)) + 1), (rd_T92 y438 x5).f4, (rd_T92 y438 x5).f5, (rd_T92 y438 x5).f6, (rd_T92 y438 x5).f7, (rd_T92 y438 x5).f8⟩ : S92) : List (S92))).bind fun y439 => ((some (y439.set (x5 : Int).toNat (⟨(rd_T92 y439 x5).f0, (rd_T92 y439 x5).f1, (rd_T92 y439 x5).f2, (rd_T92 y439 x5).f3, wrap64 ((wrap64 ((wrap64 ((wrap64 (x1 + 1)) + 1)) + 1)) + 1), (rd_T92 y439 x5).f5, (rd_T92 y439 x5).f6, (rd_T92 y439 x5).f7, (rd_T92 y439 x5).f8⟩ : S92) : List (S92))).bind fun y440 => ((some (y440.set (x5 : Int).toNat (⟨(rd_T92 y440 x5).f0, (rd_T92 y440 x5).f1, (rd_T92 y440 x5).f2, (rd_T92 y440 x5).f3, (rd_T92 y440 x5).f4, wrap64 ((wrap64 ((wrap64 ((wrap64 ((wrap64 (x1 + 1)) + 1)) + 1)) + 1)) + 1), (rd_T92 y440 x5).f6, (rd_T92 y440 x5).f7, (rd_T92 y440 x5).f8⟩ : S92) : List (S92))).bind fun y441 => ((some (y441.set (x5 : Int).toNat (⟨(rd_T92 y441 x5).f0, (rd_T92 y441 x5).f1, (rd_T92 y441 x5).f2, (rd_T92 y441 x5).f3, (rd_T92 y441 x5).f4, (rd_T92 y441 x5).f5, wrap64 ((wrap64 ((wrap64 ((wrap64 ((wrap64 ((wrap64 (x1 + 1)) + 1)) + 1)) + 1)) + 1)) + 1), (rd_T92 y441 x5).f7, (rd_T92 y441 x5).f8⟩ : S92) : List (S92))).bind fun y442 => ((some (y442.set (x5 : Int).toNat (⟨(rd_T92 y442 x5).f0, (rd_T92 y442 x5).f1, (rd_T92 y442 x5).f2, (rd_T92 y442 x5).f3, (rd_T92 y442 x5).f4, (rd_T92 y442 x5).f5, (rd_T92 y442 x5).f6, wrap64 ((wrap64 ((wrap64 ((wrap64 ((wrap64 ((wrap64 ((wrap64 (x1 + 1)) + 1)) + 1)) + 1)) + 1)) + 1)) + 1), (rd_T92 y442 x5).f8⟩ : S92) : List (S92))).bind fun y443 => (laws_markArticleS.l0 k (y443.set (x5 : Int).toNat (⟨(rd_T92 y443 x5).f0, (rd_T92 y443 x5).f1, (rd_T92 y443 x5).f2, (rd_T92 y443 x5).f3, (rd_T92 y443 x5).f4, (rd_T92 y443 x5).f5, (rd_T92 y443 x5).f6, (rd_T92 y443 x5).f7, wrap64 ((wrap64 ((wrap64 ((wrap64 ((wrap64 ((wrap64 ((wrap64 ((wrap64 (x1 + 1)) + 1)) + 1)) + 1)) + 1)) + 1)) + 1)) + 1)⟩ : S92)) (wrap64 ((wrap64 ((wrap64 ((wrap64 ((wrap64 ((wrap64 ((wrap64 ((wrap64 ((wrap64 (x1 + 1)) + 1)) + 1)) + 1)) + 1)) + 1)) + 1)) + 1)) + 1)) (wrap64 (x5 + 1))))))))))) else (none))) else (some (x1, x0))
def laws_markArticleS.f (k : Nat) (l0 : List (S92)) (a1 : Int) : Option (Int × (List (S92))) := laws_markArticleS.l0 k l0 a1 0
set_option maxHeartbeats 8000000 in
set_option maxRecDepth 100000 in
theorem laws_markArticleS.calls (k : Nat) (P0_ : Nat → Prop) (u9000_ : Value) (l0 : List (S92)) (a1 : Int) (r1 : Int) (r2 : List (S92)) (w0 w : World) (hB : Below w0.heap.size w0 w) (ho0 : Kd.R k92 92 w w0.heap.size P0_ u9000_ l0) (h : laws_markArticleS.f k l0 a1 = some (r1, r2)) :
  Calls Try.prog 82 #[u9000_, .int .i64 a1] w fun e w' => e = .returned (.int .i64 r1) ∧ Kd.R k92 92 w' w0.heap.size (fun k_ => (P0_ k_ ∨ w.heap.size ≤ k_)) u9000_ r2 ∧ Below w0.heap.size w0 w' ∧ Kept w w' (fun k_ => P0_ k_) := by
 have HO0 := am_ (show Kd.R k92 92 w w0.heap.size (fun k_ => (P0_ k_ ∨ w.heap.size ≤ k_)) u9000_ l0 from Kd.R_mono ho0 (fun k_ hk => (.inl hk))); have HK := am_ (Kept.refl w (fun k_ => P0_ k_)); have HW0 := am_ hB.size; have HB := am_ hB; clear hB; have H : (laws_markArticleS.l0 k l0 a1 0) = some (r1, r2) := h; clear h; have H' := am_ H; clear H
 go_enter Try.func82, Try.ntmps82
 go_wp2
 go_loopg [1, 5] k (fun kq v1 v5 w' => ∃ (x0_1 : List (S92)) (x1_1 : Int) (x5_1 : Int), v1 = .int .i64 x1_1 ∧ v5 = .int .i64 x5_1 ∧ Aside0 (laws_markArticleS.l0 kq x0_1 x1_1 x5_1 = some (r1, r2)) ∧ Aside0 (kq ≤ k) ∧ Aside0 (Kd.R k92 92 w' w0.heap.size (fun k_ => (P0_ k_ ∨ w.heap.size ≤ k_)) u9000_ x0_1) ∧ Aside0 (Kept w w' (fun k_ => P0_ k_)) ∧ Aside0 (Below w0.heap.size w0 w'))
 case atStart => exact ⟨(l0), (a1), (0), Za, Za, H', ⟨Nat.le_refl _⟩, ⟨(have z0_ := HO0; Zq)⟩, ⟨Zu⟩, ⟨Zd⟩⟩
 case round =>
  clear H'
  try clear p2
  obtain ⟨x0_1, x1_1, x5_1, rfl, rfl, HA, HK1, HO_0, HK, HB⟩ := hrel
  cases gk with
  | zero => exact absurd HA.out (by simp [laws_markArticleS.l0])
  | succ k1 =>
   have H := HA.out; clear HA; simp only [laws_markArticleS.l0] at H
   by_cases c3 : x5_1 < (x0_1.length : Int)
   ·rw [if_pos c3] at H
    have c3b0 := decide_eq_true c3; clear c3; replace H := Option.bind_eq_some_iff.mp H; obtain ⟨t435, A40, H⟩ := H; have A4 := am_ A40; clear A40
    by_cases c5 : 0 ≤ x5_1
    ·rw [if_pos c5] at H
     have c5b0 := decide_eq_true c5; clear c5; obtain ⟨y436, hy436⟩ : ∃ y_ : List (S92), y_ = (x0_1.set (x5_1 : Int).toNat (⟨t435, (rd_T92 x0_1 x5_1).f1, (rd_T92 x0_1 x5_1).f2, (rd_T92 x0_1 x5_1).f3, (rd_T92 x0_1 x5_1).f4, (rd_T92 x0_1 x5_1).f5, (rd_T92 x0_1 x5_1).f6, (rd_T92 x0_1 x5_1).f7, (rd_T92 x0_1 x5_1).f8⟩ : S92)) := ⟨_, rfl⟩
     (first | (rw [← hy436] at H; with_reducible replace H := bindZ H) | rw [← hy436] at H)
     have Ny436 := am_ hy436; clear hy436; obtain ⟨y437, hy437⟩ : ∃ y_ : List (S92), y_ = (y436.set (x5_1 : Int).toNat (⟨(rd_T92 y436 x5_1).f0, wrap64 (x1_1 + 1), (rd_T92 y436 x5_1).f2, (rd_T92 y436 x5_1).f3, (rd_T92 y436 x5_1).f4, (rd_T92 y436 x5_1).f5, (rd_T92 y436 x5_1).f6, (rd_T92 y436 x5_1).f7, (rd_T92 y436 x5_1).f8⟩ : S92)) := ⟨_, rfl⟩
     (first | (rw [← hy437] at H; with_reducible replace H := bindZ H) | rw [← hy437] at H)
     have Ny437 := am_ hy437; clear hy437; obtain ⟨y438, hy438⟩ : ∃ y_ : List (S92), y_ = (y437.set (x5_1 : Int).toNat (⟨(rd_T92 y437 x5_1).f0, (rd_T92 y437 x5_1).f1, wrap64 ((wrap64 (x1_1 + 1)) + 1), (rd_T92 y437 x5_1).f3, (rd_T92 y437 x5_1).f4, (rd_T92 y437 x5_1).f5, (rd_T92 y437 x5_1).f6, (rd_T92 y437 x5_1).f7, (rd_T92 y437 x5_1).f8⟩ : S92)) := ⟨_, rfl⟩
     (first | (rw [← hy438] at H; with_reducible replace H := bindZ H) | rw [← hy438] at H)
     have Ny438 := am_ hy438; clear hy438; obtain ⟨y439, hy439⟩ : ∃ y_ : List (S92), y_ = (y438.set (x5_1 : Int).toNat (⟨(rd_T92 y438 x5_1).f0, (rd_T92 y438 x5_1).f1, (rd_T92 y438 x5_1).f2, wrap64 ((wrap64 ((wrap64 (x1_1 + 1)) + 1)) + 1), (rd_T92 y438 x5_1).f4, (rd_T92 y438 x5_1).f5, (rd_T92 y438 x5_1).f6, (rd_T92 y438 x5_1).f7, (rd_T92 y438 x5_1).f8⟩ : S92)) := ⟨_, rfl⟩
     (first | (rw [← hy439] at H; with_reducible replace H := bindZ H) | rw [← hy439] at H)
     have Ny439 := am_ hy439; clear hy439; obtain ⟨y440, hy440⟩ : ∃ y_ : List (S92), y_ = (y439.set (x5_1 : Int).toNat (⟨(rd_T92 y439 x5_1).f0, (rd_T92 y439 x5_1).f1, (rd_T92 y439 x5_1).f2, (rd_T92 y439 x5_1).f3, wrap64 ((wrap64 ((wrap64 ((wrap64 (x1_1 + 1)) + 1)) + 1)) + 1), (rd_T92 y439 x5_1).f5, (rd_T92 y439 x5_1).f6, (rd_T92 y439 x5_1).f7, (rd_T92 y439 x5_1).f8⟩ : S92)) := ⟨_, rfl⟩
     (first | (rw [← hy440] at H; with_reducible replace H := bindZ H) | rw [← hy440] at H)
     have Ny440 := am_ hy440; clear hy440; obtain ⟨y441, hy441⟩ : ∃ y_ : List (S92), y_ = (y440.set (x5_1 : Int).toNat (⟨(rd_T92 y440 x5_1).f0, (rd_T92 y440 x5_1).f1, (rd_T92 y440 x5_1).f2, (rd_T92 y440 x5_1).f3, (rd_T92 y440 x5_1).f4, wrap64 ((wrap64 ((wrap64 ((wrap64 ((wrap64 (x1_1 + 1)) + 1)) + 1)) + 1)) + 1), (rd_T92 y440 x5_1).f6, (rd_T92 y440 x5_1).f7, (rd_T92 y440 x5_1).f8⟩ : S92)) := ⟨_, rfl⟩
     (first | (rw [← hy441] at H; with_reducible replace H := bindZ H) | rw [← hy441] at H)
     have Ny441 := am_ hy441; clear hy441; obtain ⟨y442, hy442⟩ : ∃ y_ : List (S92), y_ = (y441.set (x5_1 : Int).toNat (⟨(rd_T92 y441 x5_1).f0, (rd_T92 y441 x5_1).f1, (rd_T92 y441 x5_1).f2, (rd_T92 y441 x5_1).f3, (rd_T92 y441 x5_1).f4, (rd_T92 y441 x5_1).f5, wrap64 ((wrap64 ((wrap64 ((wrap64 ((wrap64 ((wrap64 (x1_1 + 1)) + 1)) + 1)) + 1)) + 1)) + 1), (rd_T92 y441 x5_1).f7, (rd_T92 y441 x5_1).f8⟩ : S92)) := ⟨_, rfl⟩
     (first | (rw [← hy442] at H; with_reducible replace H := bindZ H) | rw [← hy442] at H)
     have Ny442 := am_ hy442; clear hy442; obtain ⟨y443, hy443⟩ : ∃ y_ : List (S92), y_ = (y442.set (x5_1 : Int).toNat (⟨(rd_T92 y442 x5_1).f0, (rd_T92 y442 x5_1).f1, (rd_T92 y442 x5_1).f2, (rd_T92 y442 x5_1).f3, (rd_T92 y442 x5_1).f4, (rd_T92 y442 x5_1).f5, (rd_T92 y442 x5_1).f6, wrap64 ((wrap64 ((wrap64 ((wrap64 ((wrap64 ((wrap64 ((wrap64 (x1_1 + 1)) + 1)) + 1)) + 1)) + 1)) + 1)) + 1), (rd_T92 y442 x5_1).f8⟩ : S92)) := ⟨_, rfl⟩
     (first | (rw [← hy443] at H; with_reducible replace H := bindZ H) | rw [← hy443] at H)
     have Ny443 := am_ hy443; clear hy443; obtain ⟨y444, hy444⟩ : ∃ y_ : List (S92), y_ = (y443.set (x5_1 : Int).toNat (⟨(rd_T92 y443 x5_1).f0, (rd_T92 y443 x5_1).f1, (rd_T92 y443 x5_1).f2, (rd_T92 y443 x5_1).f3, (rd_T92 y443 x5_1).f4, (rd_T92 y443 x5_1).f5, (rd_T92 y443 x5_1).f6, (rd_T92 y443 x5_1).f7, wrap64 ((wrap64 ((wrap64 ((wrap64 ((wrap64 ((wrap64 ((wrap64 ((wrap64 (x1_1 + 1)) + 1)) + 1)) + 1)) + 1)) + 1)) + 1)) + 1)⟩ : S92)) := ⟨_, rfl⟩
     (first | (rw [← hy444] at H; with_reducible replace H := bindZ H) | rw [← hy444] at H)
     have Ny444 := am_ hy444; clear hy444; have H' := am_ H; clear H; obtain ⟨Ao15, co15, eo15⟩ := Kd.R_slice HO_0.out; subst eo15
     go_wp2_with (first | ((with_reducible refine gate_callee (f := 126) rfl ?_); refine goesL_ (some 15) rfl rfl Try.func126 Zj rfl #[.int .i64 x1_1] rfl Zo ?_; (with_reducible refine (laws_markText.calls k1 x1_1 t435 _ A4.out).mono ?_); rintro e w16 ⟨rfl, hb⟩; refine ⟨_, rfl, ?_⟩; replace HO_0 := am_ (Kd.R_below (have z0_ := HO_0; Zq) hb); replace HK := am_ (Kept.below (S := (fun k_ => P0_ k_)) Zu hb); replace HB := (bsZ Zd hb); (try clear hb); (try clear hb2); (try clear hk); (try clear hi); have p6 : 0 ≤ (x5_1 : Int) := of_decide_eq_true Zp; have q6 : (x5_1 : Int) < ((x0_1.length : Int) : Int) := of_decide_eq_true Zp; obtain ⟨go6, co6, eo6, gb6, gl6, cl6, HG6⟩ := Kd.R_form HO_0.out (by omega); (first | cases eo6 | (injection eo6 with ea_ en_ ec_; (first | subst ea_ | (injection ea_ with ea_; subst ea_)); subst ec_; clear en_)); have GB6 := am_ gb6; have GG6 := am_ HG6; clear gb6 gl6 HG6; have HMgo6 := am_ (show (P0_ go6 ∨ w.heap.size ≤ go6) from (HO_0.out.1 _ rfl)); obtain ⟨ce6, hcl6, hM6, hcc6, hfr6⟩ := Kd.R_elem HO_0.out z92 (x5_1 : Int) p6 q6; obtain rfl := k92_openM hM6; have hx6_0 : w16.cell? ⟨go6, (x5_1 : Int).toNat * 9, none⟩ = some (.string ((rd_T92 x0_1 x5_1).f0)) := hcc6 0 _ rfl; have hx6_1 : w16.cell? ⟨go6, (x5_1 : Int).toNat * 9 + 1, none⟩ = some (.int .i64 ((rd_T92 x0_1 x5_1).f1)) := hcc6 1 _ rfl; have hx6_2 : w16.cell? ⟨go6, (x5_1 : Int).toNat * 9 + 2, none⟩ = some (.int .i64 ((rd_T92 x0_1 x5_1).f2)) := hcc6 2 _ rfl; have hx6_3 : w16.cell? ⟨go6, (x5_1 : Int).toNat * 9 + 3, none⟩ = some (.int .i64 ((rd_T92 x0_1 x5_1).f3)) := hcc6 3 _ rfl; have hx6_4 : w16.cell? ⟨go6, (x5_1 : Int).toNat * 9 + 4, none⟩ = some (.int .i64 ((rd_T92 x0_1 x5_1).f4)) := hcc6 4 _ rfl; have hx6_5 : w16.cell? ⟨go6, (x5_1 : Int).toNat * 9 + 5, none⟩ = some (.int .i64 ((rd_T92 x0_1 x5_1).f5)) := hcc6 5 _ rfl; have hx6_6 : w16.cell? ⟨go6, (x5_1 : Int).toNat * 9 + 6, none⟩ = some (.int .i64 ((rd_T92 x0_1 x5_1).f6)) := hcc6 6 _ rfl; have hx6_7 : w16.cell? ⟨go6, (x5_1 : Int).toNat * 9 + 7, none⟩ = some (.int .i64 ((rd_T92 x0_1 x5_1).f7)) := hcc6 7 _ rfl; have hx6_8 : w16.cell? ⟨go6, (x5_1 : Int).toNat * 9 + 8, none⟩ = some (.int .i64 ((rd_T92 x0_1 x5_1).f8)) := hcc6 8 _ rfl; have hf6_0 : w16.frozen? ⟨go6, (x5_1 : Int).toNat * 9, none⟩ = false := hfr6 0; have hf6_1 := hfr6 1; have hf6_2 := hfr6 2; have hf6_3 := hfr6 3; have hf6_4 := hfr6 4; have hf6_5 := hfr6 5; have hf6_6 := hfr6 6; have hf6_7 := hfr6 7; have hf6_8 := hfr6 8; clear hcl6 hcc6 hfr6 hM6; replace p6 := eq_true p6; replace q6 := eq_true q6; have HX17 := am_ (show Kd.R k92 92 w16 w0.heap.size (fun k_ => (P0_ k_ ∨ w.heap.size ≤ k_)) (.slice (some ⟨go6, 0, none⟩) x0_1.length co15) x0_1 from (have z0_ := HO_0; Zq)); obtain ⟨ce17, hcl17, hM17, hcc17, hfr17⟩ := Kd.R_elem HX17.out z92 (x5_1 : Int) (of_decide_eq_true Zp) (by have h_ : (x5_1 : Int) < ((x0_1.length : Int) : Int) := of_decide_eq_true Zp; first | exact h_ | (have e_ := (Kd.R_reads' HO_0.out).1; omega) | simpa using h_); obtain rfl := k92_openM hM17; have HP17 := Kd.R_seg HX17.out (x5_1 : Int) (of_decide_eq_true Zp) (by have h_ : (x5_1 : Int) < ((x0_1.length : Int) : Int) := of_decide_eq_true Zp; first | exact h_ | (have e_ := (Kd.R_reads' HO_0.out).1; omega) | simpa using h_) (seg := [.string t435]) (j := 0) hcl17 hcc17 (show 1 ≤ 9 from by decide) (x' := (⟨t435, (rd_T92 x0_1 x5_1).f1, (rd_T92 x0_1 x5_1).f2, (rd_T92 x0_1 x5_1).f3, (rd_T92 x0_1 x5_1).f4, (rd_T92 x0_1 x5_1).f5, (rd_T92 x0_1 x5_1).f6, (rd_T92 x0_1 x5_1).f7, (rd_T92 x0_1 x5_1).f8⟩ : S92)) (k92_mkM _ _ _ (⟨t435, (rd_T92 x0_1 x5_1).f1, (rd_T92 x0_1 x5_1).f2, (rd_T92 x0_1 x5_1).f3, (rd_T92 x0_1 x5_1).f4, (rd_T92 x0_1 x5_1).f5, (rd_T92 x0_1 x5_1).f6, (rd_T92 x0_1 x5_1).f7, (rd_T92 x0_1 x5_1).f8⟩ : S92) ) (fun _ hk => hk); have hx17_0 := hcc17 0 _ rfl; (try simp only [show (k92).sz = 9 from rfl, Nat.mul_one, Nat.add_zero] at hx17_0); have hf17_0 := hfr17 0; (try simp only [show (k92).sz = 9 from rfl, Nat.mul_one, Nat.add_zero] at hf17_0); clear hcl17 hcc17 hfr17 hM17) | ((with_reducible refine gate_store (t := 9) (p := 17) rfl ?_); refine store_event (t := 9) (p := 17) (v := ?vo_w18) (w1 := (w16.setCell ⟨go6, (x5_1 : Int).toNat * 9, none⟩ (.string t435))) ?hg ?ho ?hn ?hr ?_; (case ho => rfl); (case hg => rfl); (case hn => rfl); (case hr => first | (go_simp; done) | (go_simp; rfl)); intro w18 hw; have hg : w16.grownBy w18 (some go6) := (by rw [hw]; exact HP17.2); have hp_ : Kd.R k92 92 w18 w0.heap.size (fun k_ => (P0_ k_ ∨ w.heap.size ≤ k_)) (.slice (some ⟨go6, 0, none⟩) x0_1.length co15) y436 := (by rw [hw, Ny436.out]; exact HP17.1); clear HP17; replace HB := am_ (((have z0_ := GB6; Zv) : Below w0.heap.size w0 w18)); replace HK := am_ (Kept.of_grown (S := (fun k_ => P0_ k_)) hg Zu (fun k_ e_ => (HO_0.out.1 k_ e_))); replace HO_0 := am_ (hp_); clear hg hw hp_; have p7 : 0 ≤ (x5_1 : Int) := of_decide_eq_true Zp; have q7 : (x5_1 : Int) < ((x0_1.length : Int) : Int) := of_decide_eq_true Zp; obtain ⟨ce7, hcl7, hM7, hcc7, hfr7⟩ := Kd.R_elem HO_0.out z92 (x5_1 : Int) p7 q7; obtain rfl := k92_openM hM7; have hx7_0 : w18.cell? ⟨go6, (x5_1 : Int).toNat * 9, none⟩ = some (.string ((rd_T92 y436 x5_1).f0)) := hcc7 0 _ rfl; have hx7_1 : w18.cell? ⟨go6, (x5_1 : Int).toNat * 9 + 1, none⟩ = some (.int .i64 ((rd_T92 y436 x5_1).f1)) := hcc7 1 _ rfl; have hx7_2 : w18.cell? ⟨go6, (x5_1 : Int).toNat * 9 + 2, none⟩ = some (.int .i64 ((rd_T92 y436 x5_1).f2)) := hcc7 2 _ rfl; have hx7_3 : w18.cell? ⟨go6, (x5_1 : Int).toNat * 9 + 3, none⟩ = some (.int .i64 ((rd_T92 y436 x5_1).f3)) := hcc7 3 _ rfl; have hx7_4 : w18.cell? ⟨go6, (x5_1 : Int).toNat * 9 + 4, none⟩ = some (.int .i64 ((rd_T92 y436 x5_1).f4)) := hcc7 4 _ rfl; have hx7_5 : w18.cell? ⟨go6, (x5_1 : Int).toNat * 9 + 5, none⟩ = some (.int .i64 ((rd_T92 y436 x5_1).f5)) := hcc7 5 _ rfl; have hx7_6 : w18.cell? ⟨go6, (x5_1 : Int).toNat * 9 + 6, none⟩ = some (.int .i64 ((rd_T92 y436 x5_1).f6)) := hcc7 6 _ rfl; have hx7_7 : w18.cell? ⟨go6, (x5_1 : Int).toNat * 9 + 7, none⟩ = some (.int .i64 ((rd_T92 y436 x5_1).f7)) := hcc7 7 _ rfl; have hx7_8 : w18.cell? ⟨go6, (x5_1 : Int).toNat * 9 + 8, none⟩ = some (.int .i64 ((rd_T92 y436 x5_1).f8)) := hcc7 8 _ rfl; have hf7_0 : w18.frozen? ⟨go6, (x5_1 : Int).toNat * 9, none⟩ = false := hfr7 0; have hf7_1 := hfr7 1; have hf7_2 := hfr7 2; have hf7_3 := hfr7 3; have hf7_4 := hfr7 4; have hf7_5 := hfr7 5; have hf7_6 := hfr7 6; have hf7_7 := hfr7 7; have hf7_8 := hfr7 8; clear hcl7 hcc7 hfr7 hM7; replace p7 := eq_true p7; replace q7 := eq_true q7; have HX19 := am_ (show Kd.R k92 92 w18 w0.heap.size (fun k_ => (P0_ k_ ∨ w.heap.size ≤ k_)) (.slice (some ⟨go6, 0, none⟩) x0_1.length co15) y436 from (have z0_ := HO_0; Zq)); obtain ⟨ce19, hcl19, hM19, hcc19, hfr19⟩ := Kd.R_elem HX19.out z92 (x5_1 : Int) (of_decide_eq_true Zp) (by have h_ : (x5_1 : Int) < ((x0_1.length : Int) : Int) := of_decide_eq_true Zp; first | exact h_ | (have e_ := (Kd.R_reads' HO_0.out).1; omega) | simpa using h_); obtain rfl := k92_openM hM19; have HP19 := Kd.R_seg HX19.out (x5_1 : Int) (of_decide_eq_true Zp) (by have h_ : (x5_1 : Int) < ((x0_1.length : Int) : Int) := of_decide_eq_true Zp; first | exact h_ | (have e_ := (Kd.R_reads' HO_0.out).1; omega) | simpa using h_) (seg := [.int .i64 (wrap64 (x1_1 + 1))]) (j := 1) hcl19 hcc19 (show 2 ≤ 9 from by decide) (x' := (⟨(rd_T92 y436 x5_1).f0, wrap64 (x1_1 + 1), (rd_T92 y436 x5_1).f2, (rd_T92 y436 x5_1).f3, (rd_T92 y436 x5_1).f4, (rd_T92 y436 x5_1).f5, (rd_T92 y436 x5_1).f6, (rd_T92 y436 x5_1).f7, (rd_T92 y436 x5_1).f8⟩ : S92)) (k92_mkM _ _ _ (⟨(rd_T92 y436 x5_1).f0, wrap64 (x1_1 + 1), (rd_T92 y436 x5_1).f2, (rd_T92 y436 x5_1).f3, (rd_T92 y436 x5_1).f4, (rd_T92 y436 x5_1).f5, (rd_T92 y436 x5_1).f6, (rd_T92 y436 x5_1).f7, (rd_T92 y436 x5_1).f8⟩ : S92) ) (fun _ hk => hk); have hx19_1 := hcc19 1 _ rfl; (try simp only [show (k92).sz = 9 from rfl, Nat.mul_one, Nat.add_zero] at hx19_1); have hf19_1 := hfr19 1; (try simp only [show (k92).sz = 9 from rfl, Nat.mul_one, Nat.add_zero] at hf19_1); clear hcl19 hcc19 hfr19 hM19) | ((with_reducible refine gate_store (t := 2) (p := 24) rfl ?_); refine store_event (t := 2) (p := 24) (v := ?vo_w20) (w1 := (w18.setCell ⟨go6, (x5_1 : Int).toNat * 9 + 1, none⟩ (.int .i64 (wrap64 (x1_1 + 1))))) ?hg ?ho ?hn ?hr ?_; (case ho => rfl); (case hg => rfl); (case hn => rfl); (case hr => first | (go_simp; done) | (go_simp; rfl)); intro w20 hw; have hg : w18.grownBy w20 (some go6) := (by rw [hw]; exact HP19.2); have hp_ : Kd.R k92 92 w20 w0.heap.size (fun k_ => (P0_ k_ ∨ w.heap.size ≤ k_)) (.slice (some ⟨go6, 0, none⟩) x0_1.length co15) y437 := (by rw [hw, Ny437.out]; exact HP19.1); clear HP19; replace HB := am_ (((have z0_ := GB6; Zv) : Below w0.heap.size w0 w20)); replace HK := am_ (Kept.of_grown (S := (fun k_ => P0_ k_)) hg Zu (fun k_ e_ => (HO_0.out.1 k_ e_))); replace HO_0 := am_ (hp_); clear hg hw hp_; have p8 : 0 ≤ (x5_1 : Int) := of_decide_eq_true Zp; have q8 : (x5_1 : Int) < ((x0_1.length : Int) : Int) := of_decide_eq_true Zp; obtain ⟨ce8, hcl8, hM8, hcc8, hfr8⟩ := Kd.R_elem HO_0.out z92 (x5_1 : Int) p8 q8; obtain rfl := k92_openM hM8; have hx8_0 : w20.cell? ⟨go6, (x5_1 : Int).toNat * 9, none⟩ = some (.string ((rd_T92 y437 x5_1).f0)) := hcc8 0 _ rfl; have hx8_1 : w20.cell? ⟨go6, (x5_1 : Int).toNat * 9 + 1, none⟩ = some (.int .i64 ((rd_T92 y437 x5_1).f1)) := hcc8 1 _ rfl; have hx8_2 : w20.cell? ⟨go6, (x5_1 : Int).toNat * 9 + 2, none⟩ = some (.int .i64 ((rd_T92 y437 x5_1).f2)) := hcc8 2 _ rfl; have hx8_3 : w20.cell? ⟨go6, (x5_1 : Int).toNat * 9 + 3, none⟩ = some (.int .i64 ((rd_T92 y437 x5_1).f3)) := hcc8 3 _ rfl; have hx8_4 : w20.cell? ⟨go6, (x5_1 : Int).toNat * 9 + 4, none⟩ = some (.int .i64 ((rd_T92 y437 x5_1).f4)) := hcc8 4 _ rfl; have hx8_5 : w20.cell? ⟨go6, (x5_1 : Int).toNat * 9 + 5, none⟩ = some (.int .i64 ((rd_T92 y437 x5_1).f5)) := hcc8 5 _ rfl; have hx8_6 : w20.cell? ⟨go6, (x5_1 : Int).toNat * 9 + 6, none⟩ = some (.int .i64 ((rd_T92 y437 x5_1).f6)) := hcc8 6 _ rfl; have hx8_7 : w20.cell? ⟨go6, (x5_1 : Int).toNat * 9 + 7, none⟩ = some (.int .i64 ((rd_T92 y437 x5_1).f7)) := hcc8 7 _ rfl; have hx8_8 : w20.cell? ⟨go6, (x5_1 : Int).toNat * 9 + 8, none⟩ = some (.int .i64 ((rd_T92 y437 x5_1).f8)) := hcc8 8 _ rfl; have hf8_0 : w20.frozen? ⟨go6, (x5_1 : Int).toNat * 9, none⟩ = false := hfr8 0; have hf8_1 := hfr8 1; have hf8_2 := hfr8 2; have hf8_3 := hfr8 3; have hf8_4 := hfr8 4; have hf8_5 := hfr8 5; have hf8_6 := hfr8 6; have hf8_7 := hfr8 7; have hf8_8 := hfr8 8; clear hcl8 hcc8 hfr8 hM8; replace p8 := eq_true p8; replace q8 := eq_true q8; have HX21 := am_ (show Kd.R k92 92 w20 w0.heap.size (fun k_ => (P0_ k_ ∨ w.heap.size ≤ k_)) (.slice (some ⟨go6, 0, none⟩) x0_1.length co15) y437 from (have z0_ := HO_0; Zq)); obtain ⟨ce21, hcl21, hM21, hcc21, hfr21⟩ := Kd.R_elem HX21.out z92 (x5_1 : Int) (of_decide_eq_true Zp) (by have h_ : (x5_1 : Int) < ((x0_1.length : Int) : Int) := of_decide_eq_true Zp; first | exact h_ | (have e_ := (Kd.R_reads' HO_0.out).1; omega) | simpa using h_); obtain rfl := k92_openM hM21; have HP21 := Kd.R_seg HX21.out (x5_1 : Int) (of_decide_eq_true Zp) (by have h_ : (x5_1 : Int) < ((x0_1.length : Int) : Int) := of_decide_eq_true Zp; first | exact h_ | (have e_ := (Kd.R_reads' HO_0.out).1; omega) | simpa using h_) (seg := [.int .i64 (wrap64 ((wrap64 (x1_1 + 1)) + 1))]) (j := 2) hcl21 hcc21 (show 3 ≤ 9 from by decide) (x' := (⟨(rd_T92 y437 x5_1).f0, (rd_T92 y437 x5_1).f1, wrap64 ((wrap64 (x1_1 + 1)) + 1), (rd_T92 y437 x5_1).f3, (rd_T92 y437 x5_1).f4, (rd_T92 y437 x5_1).f5, (rd_T92 y437 x5_1).f6, (rd_T92 y437 x5_1).f7, (rd_T92 y437 x5_1).f8⟩ : S92)) (k92_mkM _ _ _ (⟨(rd_T92 y437 x5_1).f0, (rd_T92 y437 x5_1).f1, wrap64 ((wrap64 (x1_1 + 1)) + 1), (rd_T92 y437 x5_1).f3, (rd_T92 y437 x5_1).f4, (rd_T92 y437 x5_1).f5, (rd_T92 y437 x5_1).f6, (rd_T92 y437 x5_1).f7, (rd_T92 y437 x5_1).f8⟩ : S92) ) (fun _ hk => hk); have hx21_2 := hcc21 2 _ rfl; (try simp only [show (k92).sz = 9 from rfl, Nat.mul_one, Nat.add_zero] at hx21_2); have hf21_2 := hfr21 2; (try simp only [show (k92).sz = 9 from rfl, Nat.mul_one, Nat.add_zero] at hf21_2); clear hcl21 hcc21 hfr21 hM21) | ((with_reducible refine gate_store (t := 2) (p := 31) rfl ?_); refine store_event (t := 2) (p := 31) (v := ?vo_w22) (w1 := (w20.setCell ⟨go6, (x5_1 : Int).toNat * 9 + 2, none⟩ (.int .i64 (wrap64 ((wrap64 (x1_1 + 1)) + 1))))) ?hg ?ho ?hn ?hr ?_; (case ho => rfl); (case hg => rfl); (case hn => rfl); (case hr => first | (go_simp; done) | (go_simp; rfl)); intro w22 hw; have hg : w20.grownBy w22 (some go6) := (by rw [hw]; exact HP21.2); have hp_ : Kd.R k92 92 w22 w0.heap.size (fun k_ => (P0_ k_ ∨ w.heap.size ≤ k_)) (.slice (some ⟨go6, 0, none⟩) x0_1.length co15) y438 := (by rw [hw, Ny438.out]; exact HP21.1); clear HP21; replace HB := am_ (((have z0_ := GB6; Zv) : Below w0.heap.size w0 w22)); replace HK := am_ (Kept.of_grown (S := (fun k_ => P0_ k_)) hg Zu (fun k_ e_ => (HO_0.out.1 k_ e_))); replace HO_0 := am_ (hp_); clear hg hw hp_; have p9 : 0 ≤ (x5_1 : Int) := of_decide_eq_true Zp; have q9 : (x5_1 : Int) < ((x0_1.length : Int) : Int) := of_decide_eq_true Zp; obtain ⟨ce9, hcl9, hM9, hcc9, hfr9⟩ := Kd.R_elem HO_0.out z92 (x5_1 : Int) p9 q9; obtain rfl := k92_openM hM9; have hx9_0 : w22.cell? ⟨go6, (x5_1 : Int).toNat * 9, none⟩ = some (.string ((rd_T92 y438 x5_1).f0)) := hcc9 0 _ rfl; have hx9_1 : w22.cell? ⟨go6, (x5_1 : Int).toNat * 9 + 1, none⟩ = some (.int .i64 ((rd_T92 y438 x5_1).f1)) := hcc9 1 _ rfl; have hx9_2 : w22.cell? ⟨go6, (x5_1 : Int).toNat * 9 + 2, none⟩ = some (.int .i64 ((rd_T92 y438 x5_1).f2)) := hcc9 2 _ rfl; have hx9_3 : w22.cell? ⟨go6, (x5_1 : Int).toNat * 9 + 3, none⟩ = some (.int .i64 ((rd_T92 y438 x5_1).f3)) := hcc9 3 _ rfl; have hx9_4 : w22.cell? ⟨go6, (x5_1 : Int).toNat * 9 + 4, none⟩ = some (.int .i64 ((rd_T92 y438 x5_1).f4)) := hcc9 4 _ rfl; have hx9_5 : w22.cell? ⟨go6, (x5_1 : Int).toNat * 9 + 5, none⟩ = some (.int .i64 ((rd_T92 y438 x5_1).f5)) := hcc9 5 _ rfl; have hx9_6 : w22.cell? ⟨go6, (x5_1 : Int).toNat * 9 + 6, none⟩ = some (.int .i64 ((rd_T92 y438 x5_1).f6)) := hcc9 6 _ rfl; have hx9_7 : w22.cell? ⟨go6, (x5_1 : Int).toNat * 9 + 7, none⟩ = some (.int .i64 ((rd_T92 y438 x5_1).f7)) := hcc9 7 _ rfl; have hx9_8 : w22.cell? ⟨go6, (x5_1 : Int).toNat * 9 + 8, none⟩ = some (.int .i64 ((rd_T92 y438 x5_1).f8)) := hcc9 8 _ rfl; have hf9_0 : w22.frozen? ⟨go6, (x5_1 : Int).toNat * 9, none⟩ = false := hfr9 0; have hf9_1 := hfr9 1; have hf9_2 := hfr9 2; have hf9_3 := hfr9 3; have hf9_4 := hfr9 4; have hf9_5 := hfr9 5; have hf9_6 := hfr9 6; have hf9_7 := hfr9 7; have hf9_8 := hfr9 8; clear hcl9 hcc9 hfr9 hM9; replace p9 := eq_true p9; replace q9 := eq_true q9; have HX23 := am_ (show Kd.R k92 92 w22 w0.heap.size (fun k_ => (P0_ k_ ∨ w.heap.size ≤ k_)) (.slice (some ⟨go6, 0, none⟩) x0_1.length co15) y438 from (have z0_ := HO_0; Zq)); obtain ⟨ce23, hcl23, hM23, hcc23, hfr23⟩ := Kd.R_elem HX23.out z92 (x5_1 : Int) (of_decide_eq_true Zp) (by have h_ : (x5_1 : Int) < ((x0_1.length : Int) : Int) := of_decide_eq_true Zp; first | exact h_ | (have e_ := (Kd.R_reads' HO_0.out).1; omega) | simpa using h_); obtain rfl := k92_openM hM23; have HP23 := Kd.R_seg HX23.out (x5_1 : Int) (of_decide_eq_true Zp) (by have h_ : (x5_1 : Int) < ((x0_1.length : Int) : Int) := of_decide_eq_true Zp; first | exact h_ | (have e_ := (Kd.R_reads' HO_0.out).1; omega) | simpa using h_) (seg := [.int .i64 (wrap64 ((wrap64 ((wrap64 (x1_1 + 1)) + 1)) + 1))]) (j := 3) hcl23 hcc23 (show 4 ≤ 9 from by decide) (x' := (⟨(rd_T92 y438 x5_1).f0, (rd_T92 y438 x5_1).f1, (rd_T92 y438 x5_1).f2, wrap64 ((wrap64 ((wrap64 (x1_1 + 1)) + 1)) + 1), (rd_T92 y438 x5_1).f4, (rd_T92 y438 x5_1).f5, (rd_T92 y438 x5_1).f6, (rd_T92 y438 x5_1).f7, (rd_T92 y438 x5_1).f8⟩ : S92)) (k92_mkM _ _ _ (⟨(rd_T92 y438 x5_1).f0, (rd_T92 y438 x5_1).f1, (rd_T92 y438 x5_1).f2, wrap64 ((wrap64 ((wrap64 (x1_1 + 1)) + 1)) + 1), (rd_T92 y438 x5_1).f4, (rd_T92 y438 x5_1).f5, (rd_T92 y438 x5_1).f6, (rd_T92 y438 x5_1).f7, (rd_T92 y438 x5_1).f8⟩ : S92) ) (fun _ hk => hk); have hx23_3 := hcc23 3 _ rfl; (try simp only [show (k92).sz = 9 from rfl, Nat.mul_one, Nat.add_zero] at hx23_3); have hf23_3 := hfr23 3; (try simp only [show (k92).sz = 9 from rfl, Nat.mul_one, Nat.add_zero] at hf23_3); clear hcl23 hcc23 hfr23 hM23) | ((with_reducible refine gate_store (t := 2) (p := 38) rfl ?_); refine store_event (t := 2) (p := 38) (v := ?vo_w24) (w1 := (w22.setCell ⟨go6, (x5_1 : Int).toNat * 9 + 3, none⟩ (.int .i64 (wrap64 ((wrap64 ((wrap64 (x1_1 + 1)) + 1)) + 1))))) ?hg ?ho ?hn ?hr ?_; (case ho => rfl); (case hg => rfl); (case hn => rfl); (case hr => first | (go_simp; done) | (go_simp; rfl)); intro w24 hw; have hg : w22.grownBy w24 (some go6) := (by rw [hw]; exact HP23.2); have hp_ : Kd.R k92 92 w24 w0.heap.size (fun k_ => (P0_ k_ ∨ w.heap.size ≤ k_)) (.slice (some ⟨go6, 0, none⟩) x0_1.length co15) y439 := (by rw [hw, Ny439.out]; exact HP23.1); clear HP23; replace HB := am_ (((have z0_ := GB6; Zv) : Below w0.heap.size w0 w24)); replace HK := am_ (Kept.of_grown (S := (fun k_ => P0_ k_)) hg Zu (fun k_ e_ => (HO_0.out.1 k_ e_))); replace HO_0 := am_ (hp_); clear hg hw hp_; have p10 : 0 ≤ (x5_1 : Int) := of_decide_eq_true Zp; have q10 : (x5_1 : Int) < ((x0_1.length : Int) : Int) := of_decide_eq_true Zp; obtain ⟨ce10, hcl10, hM10, hcc10, hfr10⟩ := Kd.R_elem HO_0.out z92 (x5_1 : Int) p10 q10; obtain rfl := k92_openM hM10; have hx10_0 : w24.cell? ⟨go6, (x5_1 : Int).toNat * 9, none⟩ = some (.string ((rd_T92 y439 x5_1).f0)) := hcc10 0 _ rfl; have hx10_1 : w24.cell? ⟨go6, (x5_1 : Int).toNat * 9 + 1, none⟩ = some (.int .i64 ((rd_T92 y439 x5_1).f1)) := hcc10 1 _ rfl; have hx10_2 : w24.cell? ⟨go6, (x5_1 : Int).toNat * 9 + 2, none⟩ = some (.int .i64 ((rd_T92 y439 x5_1).f2)) := hcc10 2 _ rfl; have hx10_3 : w24.cell? ⟨go6, (x5_1 : Int).toNat * 9 + 3, none⟩ = some (.int .i64 ((rd_T92 y439 x5_1).f3)) := hcc10 3 _ rfl; have hx10_4 : w24.cell? ⟨go6, (x5_1 : Int).toNat * 9 + 4, none⟩ = some (.int .i64 ((rd_T92 y439 x5_1).f4)) := hcc10 4 _ rfl; have hx10_5 : w24.cell? ⟨go6, (x5_1 : Int).toNat * 9 + 5, none⟩ = some (.int .i64 ((rd_T92 y439 x5_1).f5)) := hcc10 5 _ rfl; have hx10_6 : w24.cell? ⟨go6, (x5_1 : Int).toNat * 9 + 6, none⟩ = some (.int .i64 ((rd_T92 y439 x5_1).f6)) := hcc10 6 _ rfl; have hx10_7 : w24.cell? ⟨go6, (x5_1 : Int).toNat * 9 + 7, none⟩ = some (.int .i64 ((rd_T92 y439 x5_1).f7)) := hcc10 7 _ rfl; have hx10_8 : w24.cell? ⟨go6, (x5_1 : Int).toNat * 9 + 8, none⟩ = some (.int .i64 ((rd_T92 y439 x5_1).f8)) := hcc10 8 _ rfl; have hf10_0 : w24.frozen? ⟨go6, (x5_1 : Int).toNat * 9, none⟩ = false := hfr10 0; have hf10_1 := hfr10 1; have hf10_2 := hfr10 2; have hf10_3 := hfr10 3; have hf10_4 := hfr10 4; have hf10_5 := hfr10 5; have hf10_6 := hfr10 6; have hf10_7 := hfr10 7; have hf10_8 := hfr10 8; clear hcl10 hcc10 hfr10 hM10; replace p10 := eq_true p10; replace q10 := eq_true q10; have HX25 := am_ (show Kd.R k92 92 w24 w0.heap.size (fun k_ => (P0_ k_ ∨ w.heap.size ≤ k_)) (.slice (some ⟨go6, 0, none⟩) x0_1.length co15) y439 from (have z0_ := HO_0; Zq)); obtain ⟨ce25, hcl25, hM25, hcc25, hfr25⟩ := Kd.R_elem HX25.out z92 (x5_1 : Int) (of_decide_eq_true Zp) (by have h_ : (x5_1 : Int) < ((x0_1.length : Int) : Int) := of_decide_eq_true Zp; first | exact h_ | (have e_ := (Kd.R_reads' HO_0.out).1; omega) | simpa using h_); obtain rfl := k92_openM hM25; have HP25 := Kd.R_seg HX25.out (x5_1 : Int) (of_decide_eq_true Zp) (by have h_ : (x5_1 : Int) < ((x0_1.length : Int) : Int) := of_decide_eq_true Zp; first | exact h_ | (have e_ := (Kd.R_reads' HO_0.out).1; omega) | simpa using h_) (seg := [.int .i64 (wrap64 ((wrap64 ((wrap64 ((wrap64 (x1_1 + 1)) + 1)) + 1)) + 1))]) (j := 4) hcl25 hcc25 (show 5 ≤ 9 from by decide) (x' := (⟨(rd_T92 y439 x5_1).f0, (rd_T92 y439 x5_1).f1, (rd_T92 y439 x5_1).f2, (rd_T92 y439 x5_1).f3, wrap64 ((wrap64 ((wrap64 ((wrap64 (x1_1 + 1)) + 1)) + 1)) + 1), (rd_T92 y439 x5_1).f5, (rd_T92 y439 x5_1).f6, (rd_T92 y439 x5_1).f7, (rd_T92 y439 x5_1).f8⟩ : S92)) (k92_mkM _ _ _ (⟨(rd_T92 y439 x5_1).f0, (rd_T92 y439 x5_1).f1, (rd_T92 y439 x5_1).f2, (rd_T92 y439 x5_1).f3, wrap64 ((wrap64 ((wrap64 ((wrap64 (x1_1 + 1)) + 1)) + 1)) + 1), (rd_T92 y439 x5_1).f5, (rd_T92 y439 x5_1).f6, (rd_T92 y439 x5_1).f7, (rd_T92 y439 x5_1).f8⟩ : S92) ) (fun _ hk => hk); have hx25_4 := hcc25 4 _ rfl; (try simp only [show (k92).sz = 9 from rfl, Nat.mul_one, Nat.add_zero] at hx25_4); have hf25_4 := hfr25 4; (try simp only [show (k92).sz = 9 from rfl, Nat.mul_one, Nat.add_zero] at hf25_4); clear hcl25 hcc25 hfr25 hM25) | ((with_reducible refine gate_store (t := 2) (p := 45) rfl ?_); refine store_event (t := 2) (p := 45) (v := ?vo_w26) (w1 := (w24.setCell ⟨go6, (x5_1 : Int).toNat * 9 + 4, none⟩ (.int .i64 (wrap64 ((wrap64 ((wrap64 ((wrap64 (x1_1 + 1)) + 1)) + 1)) + 1))))) ?hg ?ho ?hn ?hr ?_; (case ho => rfl); (case hg => rfl); (case hn => rfl); (case hr => first | (go_simp; done) | (go_simp; rfl)); intro w26 hw; have hg : w24.grownBy w26 (some go6) := (by rw [hw]; exact HP25.2); have hp_ : Kd.R k92 92 w26 w0.heap.size (fun k_ => (P0_ k_ ∨ w.heap.size ≤ k_)) (.slice (some ⟨go6, 0, none⟩) x0_1.length co15) y440 := (by rw [hw, Ny440.out]; exact HP25.1); clear HP25; replace HB := am_ (((have z0_ := GB6; Zv) : Below w0.heap.size w0 w26)); replace HK := am_ (Kept.of_grown (S := (fun k_ => P0_ k_)) hg Zu (fun k_ e_ => (HO_0.out.1 k_ e_))); replace HO_0 := am_ (hp_); clear hg hw hp_; have p11 : 0 ≤ (x5_1 : Int) := of_decide_eq_true Zp; have q11 : (x5_1 : Int) < ((x0_1.length : Int) : Int) := of_decide_eq_true Zp; obtain ⟨ce11, hcl11, hM11, hcc11, hfr11⟩ := Kd.R_elem HO_0.out z92 (x5_1 : Int) p11 q11; obtain rfl := k92_openM hM11; have hx11_0 : w26.cell? ⟨go6, (x5_1 : Int).toNat * 9, none⟩ = some (.string ((rd_T92 y440 x5_1).f0)) := hcc11 0 _ rfl; have hx11_1 : w26.cell? ⟨go6, (x5_1 : Int).toNat * 9 + 1, none⟩ = some (.int .i64 ((rd_T92 y440 x5_1).f1)) := hcc11 1 _ rfl; have hx11_2 : w26.cell? ⟨go6, (x5_1 : Int).toNat * 9 + 2, none⟩ = some (.int .i64 ((rd_T92 y440 x5_1).f2)) := hcc11 2 _ rfl; have hx11_3 : w26.cell? ⟨go6, (x5_1 : Int).toNat * 9 + 3, none⟩ = some (.int .i64 ((rd_T92 y440 x5_1).f3)) := hcc11 3 _ rfl; have hx11_4 : w26.cell? ⟨go6, (x5_1 : Int).toNat * 9 + 4, none⟩ = some (.int .i64 ((rd_T92 y440 x5_1).f4)) := hcc11 4 _ rfl; have hx11_5 : w26.cell? ⟨go6, (x5_1 : Int).toNat * 9 + 5, none⟩ = some (.int .i64 ((rd_T92 y440 x5_1).f5)) := hcc11 5 _ rfl; have hx11_6 : w26.cell? ⟨go6, (x5_1 : Int).toNat * 9 + 6, none⟩ = some (.int .i64 ((rd_T92 y440 x5_1).f6)) := hcc11 6 _ rfl; have hx11_7 : w26.cell? ⟨go6, (x5_1 : Int).toNat * 9 + 7, none⟩ = some (.int .i64 ((rd_T92 y440 x5_1).f7)) := hcc11 7 _ rfl; have hx11_8 : w26.cell? ⟨go6, (x5_1 : Int).toNat * 9 + 8, none⟩ = some (.int .i64 ((rd_T92 y440 x5_1).f8)) := hcc11 8 _ rfl; have hf11_0 : w26.frozen? ⟨go6, (x5_1 : Int).toNat * 9, none⟩ = false := hfr11 0; have hf11_1 := hfr11 1; have hf11_2 := hfr11 2; have hf11_3 := hfr11 3; have hf11_4 := hfr11 4; have hf11_5 := hfr11 5; have hf11_6 := hfr11 6; have hf11_7 := hfr11 7; have hf11_8 := hfr11 8; clear hcl11 hcc11 hfr11 hM11; replace p11 := eq_true p11; replace q11 := eq_true q11; have HX27 := am_ (show Kd.R k92 92 w26 w0.heap.size (fun k_ => (P0_ k_ ∨ w.heap.size ≤ k_)) (.slice (some ⟨go6, 0, none⟩) x0_1.length co15) y440 from (have z0_ := HO_0; Zq)); obtain ⟨ce27, hcl27, hM27, hcc27, hfr27⟩ := Kd.R_elem HX27.out z92 (x5_1 : Int) (of_decide_eq_true Zp) (by have h_ : (x5_1 : Int) < ((x0_1.length : Int) : Int) := of_decide_eq_true Zp; first | exact h_ | (have e_ := (Kd.R_reads' HO_0.out).1; omega) | simpa using h_); obtain rfl := k92_openM hM27; have HP27 := Kd.R_seg HX27.out (x5_1 : Int) (of_decide_eq_true Zp) (by have h_ : (x5_1 : Int) < ((x0_1.length : Int) : Int) := of_decide_eq_true Zp; first | exact h_ | (have e_ := (Kd.R_reads' HO_0.out).1; omega) | simpa using h_) (seg := [.int .i64 (wrap64 ((wrap64 ((wrap64 ((wrap64 ((wrap64 (x1_1 + 1)) + 1)) + 1)) + 1)) + 1))]) (j := 5) hcl27 hcc27 (show 6 ≤ 9 from by decide) (x' := (⟨(rd_T92 y440 x5_1).f0, (rd_T92 y440 x5_1).f1, (rd_T92 y440 x5_1).f2, (rd_T92 y440 x5_1).f3, (rd_T92 y440 x5_1).f4, wrap64 ((wrap64 ((wrap64 ((wrap64 ((wrap64 (x1_1 + 1)) + 1)) + 1)) + 1)) + 1), (rd_T92 y440 x5_1).f6, (rd_T92 y440 x5_1).f7, (rd_T92 y440 x5_1).f8⟩ : S92)) (k92_mkM _ _ _ (⟨(rd_T92 y440 x5_1).f0, (rd_T92 y440 x5_1).f1, (rd_T92 y440 x5_1).f2, (rd_T92 y440 x5_1).f3, (rd_T92 y440 x5_1).f4, wrap64 ((wrap64 ((wrap64 ((wrap64 ((wrap64 (x1_1 + 1)) + 1)) + 1)) + 1)) + 1), (rd_T92 y440 x5_1).f6, (rd_T92 y440 x5_1).f7, (rd_T92 y440 x5_1).f8⟩ : S92) ) (fun _ hk => hk); have hx27_5 := hcc27 5 _ rfl; (try simp only [show (k92).sz = 9 from rfl, Nat.mul_one, Nat.add_zero] at hx27_5); have hf27_5 := hfr27 5; (try simp only [show (k92).sz = 9 from rfl, Nat.mul_one, Nat.add_zero] at hf27_5); clear hcl27 hcc27 hfr27 hM27) | ((with_reducible refine gate_store (t := 2) (p := 52) rfl ?_); refine store_event (t := 2) (p := 52) (v := ?vo_w28) (w1 := (w26.setCell ⟨go6, (x5_1 : Int).toNat * 9 + 5, none⟩ (.int .i64 (wrap64 ((wrap64 ((wrap64 ((wrap64 ((wrap64 (x1_1 + 1)) + 1)) + 1)) + 1)) + 1))))) ?hg ?ho ?hn ?hr ?_; (case ho => rfl); (case hg => rfl); (case hn => rfl); (case hr => first | (go_simp; done) | (go_simp; rfl)); intro w28 hw; have hg : w26.grownBy w28 (some go6) := (by rw [hw]; exact HP27.2); have hp_ : Kd.R k92 92 w28 w0.heap.size (fun k_ => (P0_ k_ ∨ w.heap.size ≤ k_)) (.slice (some ⟨go6, 0, none⟩) x0_1.length co15) y441 := (by rw [hw, Ny441.out]; exact HP27.1); clear HP27; replace HB := am_ (((have z0_ := GB6; Zv) : Below w0.heap.size w0 w28)); replace HK := am_ (Kept.of_grown (S := (fun k_ => P0_ k_)) hg Zu (fun k_ e_ => (HO_0.out.1 k_ e_))); replace HO_0 := am_ (hp_); clear hg hw hp_; have p12 : 0 ≤ (x5_1 : Int) := of_decide_eq_true Zp; have q12 : (x5_1 : Int) < ((x0_1.length : Int) : Int) := of_decide_eq_true Zp; obtain ⟨ce12, hcl12, hM12, hcc12, hfr12⟩ := Kd.R_elem HO_0.out z92 (x5_1 : Int) p12 q12; obtain rfl := k92_openM hM12; have hx12_0 : w28.cell? ⟨go6, (x5_1 : Int).toNat * 9, none⟩ = some (.string ((rd_T92 y441 x5_1).f0)) := hcc12 0 _ rfl; have hx12_1 : w28.cell? ⟨go6, (x5_1 : Int).toNat * 9 + 1, none⟩ = some (.int .i64 ((rd_T92 y441 x5_1).f1)) := hcc12 1 _ rfl; have hx12_2 : w28.cell? ⟨go6, (x5_1 : Int).toNat * 9 + 2, none⟩ = some (.int .i64 ((rd_T92 y441 x5_1).f2)) := hcc12 2 _ rfl; have hx12_3 : w28.cell? ⟨go6, (x5_1 : Int).toNat * 9 + 3, none⟩ = some (.int .i64 ((rd_T92 y441 x5_1).f3)) := hcc12 3 _ rfl; have hx12_4 : w28.cell? ⟨go6, (x5_1 : Int).toNat * 9 + 4, none⟩ = some (.int .i64 ((rd_T92 y441 x5_1).f4)) := hcc12 4 _ rfl; have hx12_5 : w28.cell? ⟨go6, (x5_1 : Int).toNat * 9 + 5, none⟩ = some (.int .i64 ((rd_T92 y441 x5_1).f5)) := hcc12 5 _ rfl; have hx12_6 : w28.cell? ⟨go6, (x5_1 : Int).toNat * 9 + 6, none⟩ = some (.int .i64 ((rd_T92 y441 x5_1).f6)) := hcc12 6 _ rfl; have hx12_7 : w28.cell? ⟨go6, (x5_1 : Int).toNat * 9 + 7, none⟩ = some (.int .i64 ((rd_T92 y441 x5_1).f7)) := hcc12 7 _ rfl; have hx12_8 : w28.cell? ⟨go6, (x5_1 : Int).toNat * 9 + 8, none⟩ = some (.int .i64 ((rd_T92 y441 x5_1).f8)) := hcc12 8 _ rfl; have hf12_0 : w28.frozen? ⟨go6, (x5_1 : Int).toNat * 9, none⟩ = false := hfr12 0; have hf12_1 := hfr12 1; have hf12_2 := hfr12 2; have hf12_3 := hfr12 3; have hf12_4 := hfr12 4; have hf12_5 := hfr12 5; have hf12_6 := hfr12 6; have hf12_7 := hfr12 7; have hf12_8 := hfr12 8; clear hcl12 hcc12 hfr12 hM12; replace p12 := eq_true p12; replace q12 := eq_true q12; have HX29 := am_ (show Kd.R k92 92 w28 w0.heap.size (fun k_ => (P0_ k_ ∨ w.heap.size ≤ k_)) (.slice (some ⟨go6, 0, none⟩) x0_1.length co15) y441 from (have z0_ := HO_0; Zq)); obtain ⟨ce29, hcl29, hM29, hcc29, hfr29⟩ := Kd.R_elem HX29.out z92 (x5_1 : Int) (of_decide_eq_true Zp) (by have h_ : (x5_1 : Int) < ((x0_1.length : Int) : Int) := of_decide_eq_true Zp; first | exact h_ | (have e_ := (Kd.R_reads' HO_0.out).1; omega) | simpa using h_); obtain rfl := k92_openM hM29; have HP29 := Kd.R_seg HX29.out (x5_1 : Int) (of_decide_eq_true Zp) (by have h_ : (x5_1 : Int) < ((x0_1.length : Int) : Int) := of_decide_eq_true Zp; first | exact h_ | (have e_ := (Kd.R_reads' HO_0.out).1; omega) | simpa using h_) (seg := [.int .i64 (wrap64 ((wrap64 ((wrap64 ((wrap64 ((wrap64 ((wrap64 (x1_1 + 1)) + 1)) + 1)) + 1)) + 1)) + 1))]) (j := 6) hcl29 hcc29 (show 7 ≤ 9 from by decide) (x' := (⟨(rd_T92 y441 x5_1).f0, (rd_T92 y441 x5_1).f1, (rd_T92 y441 x5_1).f2, (rd_T92 y441 x5_1).f3, (rd_T92 y441 x5_1).f4, (rd_T92 y441 x5_1).f5, wrap64 ((wrap64 ((wrap64 ((wrap64 ((wrap64 ((wrap64 (x1_1 + 1)) + 1)) + 1)) + 1)) + 1)) + 1), (rd_T92 y441 x5_1).f7, (rd_T92 y441 x5_1).f8⟩ : S92)) (k92_mkM _ _ _ (⟨(rd_T92 y441 x5_1).f0, (rd_T92 y441 x5_1).f1, (rd_T92 y441 x5_1).f2, (rd_T92 y441 x5_1).f3, (rd_T92 y441 x5_1).f4, (rd_T92 y441 x5_1).f5, wrap64 ((wrap64 ((wrap64 ((wrap64 ((wrap64 ((wrap64 (x1_1 + 1)) + 1)) + 1)) + 1)) + 1)) + 1), (rd_T92 y441 x5_1).f7, (rd_T92 y441 x5_1).f8⟩ : S92) ) (fun _ hk => hk); have hx29_6 := hcc29 6 _ rfl; (try simp only [show (k92).sz = 9 from rfl, Nat.mul_one, Nat.add_zero] at hx29_6); have hf29_6 := hfr29 6; (try simp only [show (k92).sz = 9 from rfl, Nat.mul_one, Nat.add_zero] at hf29_6); clear hcl29 hcc29 hfr29 hM29) | ((with_reducible refine gate_store (t := 2) (p := 59) rfl ?_); refine store_event (t := 2) (p := 59) (v := ?vo_w30) (w1 := (w28.setCell ⟨go6, (x5_1 : Int).toNat * 9 + 6, none⟩ (.int .i64 (wrap64 ((wrap64 ((wrap64 ((wrap64 ((wrap64 ((wrap64 (x1_1 + 1)) + 1)) + 1)) + 1)) + 1)) + 1))))) ?hg ?ho ?hn ?hr ?_; (case ho => rfl); (case hg => rfl); (case hn => rfl); (case hr => first | (go_simp; done) | (go_simp; rfl)); intro w30 hw; have hg : w28.grownBy w30 (some go6) := (by rw [hw]; exact HP29.2); have hp_ : Kd.R k92 92 w30 w0.heap.size (fun k_ => (P0_ k_ ∨ w.heap.size ≤ k_)) (.slice (some ⟨go6, 0, none⟩) x0_1.length co15) y442 := (by rw [hw, Ny442.out]; exact HP29.1); clear HP29; replace HB := am_ (((have z0_ := GB6; Zv) : Below w0.heap.size w0 w30)); replace HK := am_ (Kept.of_grown (S := (fun k_ => P0_ k_)) hg Zu (fun k_ e_ => (HO_0.out.1 k_ e_))); replace HO_0 := am_ (hp_); clear hg hw hp_; have p13 : 0 ≤ (x5_1 : Int) := of_decide_eq_true Zp; have q13 : (x5_1 : Int) < ((x0_1.length : Int) : Int) := of_decide_eq_true Zp; obtain ⟨ce13, hcl13, hM13, hcc13, hfr13⟩ := Kd.R_elem HO_0.out z92 (x5_1 : Int) p13 q13; obtain rfl := k92_openM hM13; have hx13_0 : w30.cell? ⟨go6, (x5_1 : Int).toNat * 9, none⟩ = some (.string ((rd_T92 y442 x5_1).f0)) := hcc13 0 _ rfl; have hx13_1 : w30.cell? ⟨go6, (x5_1 : Int).toNat * 9 + 1, none⟩ = some (.int .i64 ((rd_T92 y442 x5_1).f1)) := hcc13 1 _ rfl; have hx13_2 : w30.cell? ⟨go6, (x5_1 : Int).toNat * 9 + 2, none⟩ = some (.int .i64 ((rd_T92 y442 x5_1).f2)) := hcc13 2 _ rfl; have hx13_3 : w30.cell? ⟨go6, (x5_1 : Int).toNat * 9 + 3, none⟩ = some (.int .i64 ((rd_T92 y442 x5_1).f3)) := hcc13 3 _ rfl; have hx13_4 : w30.cell? ⟨go6, (x5_1 : Int).toNat * 9 + 4, none⟩ = some (.int .i64 ((rd_T92 y442 x5_1).f4)) := hcc13 4 _ rfl; have hx13_5 : w30.cell? ⟨go6, (x5_1 : Int).toNat * 9 + 5, none⟩ = some (.int .i64 ((rd_T92 y442 x5_1).f5)) := hcc13 5 _ rfl; have hx13_6 : w30.cell? ⟨go6, (x5_1 : Int).toNat * 9 + 6, none⟩ = some (.int .i64 ((rd_T92 y442 x5_1).f6)) := hcc13 6 _ rfl; have hx13_7 : w30.cell? ⟨go6, (x5_1 : Int).toNat * 9 + 7, none⟩ = some (.int .i64 ((rd_T92 y442 x5_1).f7)) := hcc13 7 _ rfl; have hx13_8 : w30.cell? ⟨go6, (x5_1 : Int).toNat * 9 + 8, none⟩ = some (.int .i64 ((rd_T92 y442 x5_1).f8)) := hcc13 8 _ rfl; have hf13_0 : w30.frozen? ⟨go6, (x5_1 : Int).toNat * 9, none⟩ = false := hfr13 0; have hf13_1 := hfr13 1; have hf13_2 := hfr13 2; have hf13_3 := hfr13 3; have hf13_4 := hfr13 4; have hf13_5 := hfr13 5; have hf13_6 := hfr13 6; have hf13_7 := hfr13 7; have hf13_8 := hfr13 8; clear hcl13 hcc13 hfr13 hM13; replace p13 := eq_true p13; replace q13 := eq_true q13; have HX31 := am_ (show Kd.R k92 92 w30 w0.heap.size (fun k_ => (P0_ k_ ∨ w.heap.size ≤ k_)) (.slice (some ⟨go6, 0, none⟩) x0_1.length co15) y442 from (have z0_ := HO_0; Zq)); obtain ⟨ce31, hcl31, hM31, hcc31, hfr31⟩ := Kd.R_elem HX31.out z92 (x5_1 : Int) (of_decide_eq_true Zp) (by have h_ : (x5_1 : Int) < ((x0_1.length : Int) : Int) := of_decide_eq_true Zp; first | exact h_ | (have e_ := (Kd.R_reads' HO_0.out).1; omega) | simpa using h_); obtain rfl := k92_openM hM31; have HP31 := Kd.R_seg HX31.out (x5_1 : Int) (of_decide_eq_true Zp) (by have h_ : (x5_1 : Int) < ((x0_1.length : Int) : Int) := of_decide_eq_true Zp; first | exact h_ | (have e_ := (Kd.R_reads' HO_0.out).1; omega) | simpa using h_) (seg := [.int .i64 (wrap64 ((wrap64 ((wrap64 ((wrap64 ((wrap64 ((wrap64 ((wrap64 (x1_1 + 1)) + 1)) + 1)) + 1)) + 1)) + 1)) + 1))]) (j := 7) hcl31 hcc31 (show 8 ≤ 9 from by decide) (x' := (⟨(rd_T92 y442 x5_1).f0, (rd_T92 y442 x5_1).f1, (rd_T92 y442 x5_1).f2, (rd_T92 y442 x5_1).f3, (rd_T92 y442 x5_1).f4, (rd_T92 y442 x5_1).f5, (rd_T92 y442 x5_1).f6, wrap64 ((wrap64 ((wrap64 ((wrap64 ((wrap64 ((wrap64 ((wrap64 (x1_1 + 1)) + 1)) + 1)) + 1)) + 1)) + 1)) + 1), (rd_T92 y442 x5_1).f8⟩ : S92)) (k92_mkM _ _ _ (⟨(rd_T92 y442 x5_1).f0, (rd_T92 y442 x5_1).f1, (rd_T92 y442 x5_1).f2, (rd_T92 y442 x5_1).f3, (rd_T92 y442 x5_1).f4, (rd_T92 y442 x5_1).f5, (rd_T92 y442 x5_1).f6, wrap64 ((wrap64 ((wrap64 ((wrap64 ((wrap64 ((wrap64 ((wrap64 (x1_1 + 1)) + 1)) + 1)) + 1)) + 1)) + 1)) + 1), (rd_T92 y442 x5_1).f8⟩ : S92) ) (fun _ hk => hk); have hx31_7 := hcc31 7 _ rfl; (try simp only [show (k92).sz = 9 from rfl, Nat.mul_one, Nat.add_zero] at hx31_7); have hf31_7 := hfr31 7; (try simp only [show (k92).sz = 9 from rfl, Nat.mul_one, Nat.add_zero] at hf31_7); clear hcl31 hcc31 hfr31 hM31) | ((with_reducible refine gate_store (t := 2) (p := 66) rfl ?_); refine store_event (t := 2) (p := 66) (v := ?vo_w32) (w1 := (w30.setCell ⟨go6, (x5_1 : Int).toNat * 9 + 7, none⟩ (.int .i64 (wrap64 ((wrap64 ((wrap64 ((wrap64 ((wrap64 ((wrap64 ((wrap64 (x1_1 + 1)) + 1)) + 1)) + 1)) + 1)) + 1)) + 1))))) ?hg ?ho ?hn ?hr ?_; (case ho => rfl); (case hg => rfl); (case hn => rfl); (case hr => first | (go_simp; done) | (go_simp; rfl)); intro w32 hw; have hg : w30.grownBy w32 (some go6) := (by rw [hw]; exact HP31.2); have hp_ : Kd.R k92 92 w32 w0.heap.size (fun k_ => (P0_ k_ ∨ w.heap.size ≤ k_)) (.slice (some ⟨go6, 0, none⟩) x0_1.length co15) y443 := (by rw [hw, Ny443.out]; exact HP31.1); clear HP31; replace HB := am_ (((have z0_ := GB6; Zv) : Below w0.heap.size w0 w32)); replace HK := am_ (Kept.of_grown (S := (fun k_ => P0_ k_)) hg Zu (fun k_ e_ => (HO_0.out.1 k_ e_))); replace HO_0 := am_ (hp_); clear hg hw hp_; have p14 : 0 ≤ (x5_1 : Int) := of_decide_eq_true Zp; have q14 : (x5_1 : Int) < ((x0_1.length : Int) : Int) := of_decide_eq_true Zp; obtain ⟨ce14, hcl14, hM14, hcc14, hfr14⟩ := Kd.R_elem HO_0.out z92 (x5_1 : Int) p14 q14; obtain rfl := k92_openM hM14; have hx14_0 : w32.cell? ⟨go6, (x5_1 : Int).toNat * 9, none⟩ = some (.string ((rd_T92 y443 x5_1).f0)) := hcc14 0 _ rfl; have hx14_1 : w32.cell? ⟨go6, (x5_1 : Int).toNat * 9 + 1, none⟩ = some (.int .i64 ((rd_T92 y443 x5_1).f1)) := hcc14 1 _ rfl; have hx14_2 : w32.cell? ⟨go6, (x5_1 : Int).toNat * 9 + 2, none⟩ = some (.int .i64 ((rd_T92 y443 x5_1).f2)) := hcc14 2 _ rfl; have hx14_3 : w32.cell? ⟨go6, (x5_1 : Int).toNat * 9 + 3, none⟩ = some (.int .i64 ((rd_T92 y443 x5_1).f3)) := hcc14 3 _ rfl; have hx14_4 : w32.cell? ⟨go6, (x5_1 : Int).toNat * 9 + 4, none⟩ = some (.int .i64 ((rd_T92 y443 x5_1).f4)) := hcc14 4 _ rfl; have hx14_5 : w32.cell? ⟨go6, (x5_1 : Int).toNat * 9 + 5, none⟩ = some (.int .i64 ((rd_T92 y443 x5_1).f5)) := hcc14 5 _ rfl; have hx14_6 : w32.cell? ⟨go6, (x5_1 : Int).toNat * 9 + 6, none⟩ = some (.int .i64 ((rd_T92 y443 x5_1).f6)) := hcc14 6 _ rfl; have hx14_7 : w32.cell? ⟨go6, (x5_1 : Int).toNat * 9 + 7, none⟩ = some (.int .i64 ((rd_T92 y443 x5_1).f7)) := hcc14 7 _ rfl; have hx14_8 : w32.cell? ⟨go6, (x5_1 : Int).toNat * 9 + 8, none⟩ = some (.int .i64 ((rd_T92 y443 x5_1).f8)) := hcc14 8 _ rfl; have hf14_0 : w32.frozen? ⟨go6, (x5_1 : Int).toNat * 9, none⟩ = false := hfr14 0; have hf14_1 := hfr14 1; have hf14_2 := hfr14 2; have hf14_3 := hfr14 3; have hf14_4 := hfr14 4; have hf14_5 := hfr14 5; have hf14_6 := hfr14 6; have hf14_7 := hfr14 7; have hf14_8 := hfr14 8; clear hcl14 hcc14 hfr14 hM14; replace p14 := eq_true p14; replace q14 := eq_true q14; have HX33 := am_ (show Kd.R k92 92 w32 w0.heap.size (fun k_ => (P0_ k_ ∨ w.heap.size ≤ k_)) (.slice (some ⟨go6, 0, none⟩) x0_1.length co15) y443 from (have z0_ := HO_0; Zq)); obtain ⟨ce33, hcl33, hM33, hcc33, hfr33⟩ := Kd.R_elem HX33.out z92 (x5_1 : Int) (of_decide_eq_true Zp) (by have h_ : (x5_1 : Int) < ((x0_1.length : Int) : Int) := of_decide_eq_true Zp; first | exact h_ | (have e_ := (Kd.R_reads' HO_0.out).1; omega) | simpa using h_); obtain rfl := k92_openM hM33; have HP33 := Kd.R_seg HX33.out (x5_1 : Int) (of_decide_eq_true Zp) (by have h_ : (x5_1 : Int) < ((x0_1.length : Int) : Int) := of_decide_eq_true Zp; first | exact h_ | (have e_ := (Kd.R_reads' HO_0.out).1; omega) | simpa using h_) (seg := [.int .i64 (wrap64 ((wrap64 ((wrap64 ((wrap64 ((wrap64 ((wrap64 ((wrap64 ((wrap64 (x1_1 + 1)) + 1)) + 1)) + 1)) + 1)) + 1)) + 1)) + 1))]) (j := 8) hcl33 hcc33 (show 9 ≤ 9 from by decide) (x' := (⟨(rd_T92 y443 x5_1).f0, (rd_T92 y443 x5_1).f1, (rd_T92 y443 x5_1).f2, (rd_T92 y443 x5_1).f3, (rd_T92 y443 x5_1).f4, (rd_T92 y443 x5_1).f5, (rd_T92 y443 x5_1).f6, (rd_T92 y443 x5_1).f7, wrap64 ((wrap64 ((wrap64 ((wrap64 ((wrap64 ((wrap64 ((wrap64 ((wrap64 (x1_1 + 1)) + 1)) + 1)) + 1)) + 1)) + 1)) + 1)) + 1)⟩ : S92)) (k92_mkM _ _ _ (⟨(rd_T92 y443 x5_1).f0, (rd_T92 y443 x5_1).f1, (rd_T92 y443 x5_1).f2, (rd_T92 y443 x5_1).f3, (rd_T92 y443 x5_1).f4, (rd_T92 y443 x5_1).f5, (rd_T92 y443 x5_1).f6, (rd_T92 y443 x5_1).f7, wrap64 ((wrap64 ((wrap64 ((wrap64 ((wrap64 ((wrap64 ((wrap64 ((wrap64 (x1_1 + 1)) + 1)) + 1)) + 1)) + 1)) + 1)) + 1)) + 1)⟩ : S92) ) (fun _ hk => hk); have hx33_8 := hcc33 8 _ rfl; (try simp only [show (k92).sz = 9 from rfl, Nat.mul_one, Nat.add_zero] at hx33_8); have hf33_8 := hfr33 8; (try simp only [show (k92).sz = 9 from rfl, Nat.mul_one, Nat.add_zero] at hf33_8); clear hcl33 hcc33 hfr33 hM33) | ((with_reducible refine gate_store (t := 2) (p := 73) rfl ?_); refine store_event (t := 2) (p := 73) (v := ?vo_w34) (w1 := (w32.setCell ⟨go6, (x5_1 : Int).toNat * 9 + 8, none⟩ (.int .i64 (wrap64 ((wrap64 ((wrap64 ((wrap64 ((wrap64 ((wrap64 ((wrap64 ((wrap64 (x1_1 + 1)) + 1)) + 1)) + 1)) + 1)) + 1)) + 1)) + 1))))) ?hg ?ho ?hn ?hr ?_; (case ho => rfl); (case hg => rfl); (case hn => rfl); (case hr => first | (go_simp; done) | (go_simp; rfl)); intro w34 hw; have hg : w32.grownBy w34 (some go6) := (by rw [hw]; exact HP33.2); have hp_ : Kd.R k92 92 w34 w0.heap.size (fun k_ => (P0_ k_ ∨ w.heap.size ≤ k_)) (.slice (some ⟨go6, 0, none⟩) x0_1.length co15) y444 := (by rw [hw, Ny444.out]; exact HP33.1); clear HP33; replace HB := am_ (((have z0_ := GB6; Zv) : Below w0.heap.size w0 w34)); replace HK := am_ (Kept.of_grown (S := (fun k_ => P0_ k_)) hg Zu (fun k_ e_ => (HO_0.out.1 k_ e_))); replace HO_0 := am_ (hp_); clear hg hw hp_))
     go_roundg k1
     case measure => have := HK1.out; omega
     case rel => exact ⟨(y444), (wrap64 ((wrap64 ((wrap64 ((wrap64 ((wrap64 ((wrap64 ((wrap64 ((wrap64 ((wrap64 (x1_1 + 1)) + 1)) + 1)) + 1)) + 1)) + 1)) + 1)) + 1)) + 1)), (wrap64 (x5_1 + 1)), Za, Za, H', ⟨Zt⟩, ⟨(have z0_ := HO_0; Zq)⟩, ⟨Zu⟩, ⟨Zd⟩⟩
    ·rw [if_neg c5] at H
     exact absurd H (by simp)
   ·rw [if_neg c3] at H
    have c3b0 := decide_eq_false c3; clear c3; simp only [Option.some.injEq, Prod.mk.injEq] at H; obtain ⟨rfl, rfl⟩ := H; obtain ⟨Ao35, co35, eo35⟩ := Kd.R_slice HO_0.out; subst eo35
    go_wp2
    go_ret
    exact ⟨Zk, (have z0_ := HO_0; Zq), Zd, Zu⟩
def laws_heldArticleS.l0 : Nat → List (S92) → Int → Int → Option (Int)
 | 0, _, _, _ => none
 | k + 1, x0, x1, x5 => if x5 < (x0.length : Int) then (if 0 ≤ x5 then ((laws_markText.f k x1).bind fun t460 => (if ((rd_T92 x0 x5).f0).toList = t460.toList then (if ((rd_T92 x0 x5).f1) = (wrap64 (x1 + 1)) then (if ((rd_T92 x0 x5).f2) = (wrap64 ((wrap64 (x1 + 1)) + 1)) then (if ((rd_T92 x0 x5).f3) = (wrap64 ((wrap64 ((wrap64 (x1 + 1)) + 1)) + 1)) then (if ((rd_T92 x0 x5).f4) = (wrap64 ((wrap64 ((wrap64 ((wrap64 (x1 + 1)) + 1)) + 1)) + 1)) then (if ((rd_T92 x0 x5).f5) = (wrap64 ((wrap64 ((wrap64 ((wrap64 ((wrap64 (x1 + 1)) + 1)) + 1)) + 1)) + 1)) then (if ((rd_T92 x0 x5).f6) = (wrap64 ((wrap64 ((wrap64 ((wrap64 ((wrap64 ((wrap64 (x1 + 1)) + 1)) + 1)) + 1)) + 1)) + 1)) then (if ((rd_T92 x0 x5).f7) = (wrap64 ((wrap64 ((wrap64 ((wrap64 ((wrap64 ((wrap64 ((wrap64 (x1 + 1)) + 1)) + 1)) + 1)) + 1)) + 1)) + 1)) then (if ((rd_T92 x0 x5).f8) = (wrap64 ((wrap64 ((wrap64 ((wrap64 ((wrap64 ((wrap64 ((wrap64 ((wrap64 (x1 + 1)) + 1)) + 1)) + 1)) + 1)) + 1)) + 1)) + 1)) then (laws_heldArticleS.l0 k x0 (wrap64 ((wrap64 ((wrap64 ((wrap64 ((wrap64 ((wrap64 ((wrap64 ((wrap64 ((wrap64 (x1 + 1)) + 1)) + 1)) + 1)) + 1)) + 1)) + 1)) + 1)) + 1)) (wrap64 (x5 + 1))) else (some (-1))) else (some (-1))) else (some (-1))) else (some (-1))) else (some (-1))) else (some (-1))) else (some (-1))) else (some (-1))) else (some (-1)))) else (none)) else (some x1)
def laws_heldArticleS.f (k : Nat) (l0 : List (S92)) (a1 : Int) : Option (Int) := laws_heldArticleS.l0 k l0 a1 0
def laws_heldArticleS.T4 : Bool × List (List Nat × List Nat) := (true, [([], []), ([], []), ([0, 1], [0, 1]), ([2], [2]), ([3], [3]), ([], []), ([5], [5]), ([4, 6], [4, 6])])
def laws_heldArticleS.B4 : List Nat := [0, 0, 3, 7, 15, 0, 32, 127]
theorem laws_heldArticleS.tab4 : rtab .any (opsOf Try.f85 4) = laws_heldArticleS.T4 := by kernel_rfl
theorem laws_heldArticleS.bits4 : waitsOk laws_heldArticleS.T4.2 laws_heldArticleS.B4 = true := by kernel_rfl
set_option maxHeartbeats 8000000 in
set_option maxRecDepth 100000 in
theorem laws_heldArticleS.calls (k : Nat) (A0 : Option Addr) (c0 : Nat) (l0 : List (S92)) (a1 : Int) (r : Int) (w : World) (hr0 : Kd.C k92 w A0 l0.length l0) (hc0 : l0.length ≤ c0) (h : laws_heldArticleS.f k l0 a1 = some r) (hr_ : 0 ≤ r := by first | exact HF.out.mg0 | exact Int.not_lt.1 (of_decide_eq_false (by assumption))) :
  Calls Try.prog 85 #[.slice A0 l0.length c0, .int .i64 a1] w fun e w' => e = .returned (.int .i64 r) ∧ Below w.heap.size w w' := by
 have HR_ := am_ hr_; clear hr_; have HR0 := am_ hr0; have HC0 := am_ hc0; clear hr0 hc0; have HB := am_ (Below.refl w.heap.size w); have H : (laws_heldArticleS.l0 k l0 a1 0) = some r := h; clear h; have H' := am_ H; clear H
 go_enter Try.func85, Try.ntmps85
 go_wp2
 go_loopg [1, 5] k (fun kq v1 v5 w' => ∃ (x1_1 : Int) (x5_1 : Int), v1 = .int .i64 x1_1 ∧ v5 = .int .i64 x5_1 ∧ Aside0 (laws_heldArticleS.l0 kq l0 x1_1 x5_1 = some r) ∧ Aside0 (kq ≤ k) ∧ Aside0 (Below w.heap.size w w'))
 case atStart => exact ⟨(a1), (0), Za, Za, H', ⟨Nat.le_refl _⟩, ⟨Zd⟩⟩
 case round =>
  clear H'
  try clear p2
  obtain ⟨x1_1, x5_1, rfl, rfl, HA, HK1, HB⟩ := hrel
  cases gk with
  | zero => exact absurd HA.out (by simp [laws_heldArticleS.l0])
  | succ k1 =>
   have H := HA.out; clear HA; simp only [laws_heldArticleS.l0] at H
   by_cases c3 : x5_1 < (l0.length : Int)
   ·rw [if_pos c3] at H
    have c3b0 := decide_eq_true c3; clear c3
    by_cases c4 : 0 ≤ x5_1
    ·rw [if_pos c4] at H
     have c4b0 := decide_eq_true c4; clear c4; replace H := Option.bind_eq_some_iff.mp H; obtain ⟨t460, A50, H⟩ := H; have A5 := am_ A50; clear A50
     by_cases c6 : ((rd_T92 l0 x5_1).f0).toList = t460.toList
     ·rw [if_pos c6] at H
      have c6b0 := beq_iff_eq.mpr c6; have c6b1 := bne_eq_false_iff_eq.mpr c6; clear c6
      by_cases c7 : ((rd_T92 l0 x5_1).f1) = (wrap64 (x1_1 + 1))
      ·rw [if_pos c7] at H
       have c7b0 := beq_iff_eq.mpr c7; have c7b1 := bne_eq_false_iff_eq.mpr c7; clear c7
       by_cases c8 : ((rd_T92 l0 x5_1).f2) = (wrap64 ((wrap64 (x1_1 + 1)) + 1))
       ·rw [if_pos c8] at H
        have c8b0 := beq_iff_eq.mpr c8; have c8b1 := bne_eq_false_iff_eq.mpr c8; clear c8
        by_cases c9 : ((rd_T92 l0 x5_1).f3) = (wrap64 ((wrap64 ((wrap64 (x1_1 + 1)) + 1)) + 1))
        ·rw [if_pos c9] at H
         have c9b0 := beq_iff_eq.mpr c9; have c9b1 := bne_eq_false_iff_eq.mpr c9; clear c9
         by_cases c10 : ((rd_T92 l0 x5_1).f4) = (wrap64 ((wrap64 ((wrap64 ((wrap64 (x1_1 + 1)) + 1)) + 1)) + 1))
         ·rw [if_pos c10] at H
          have c10b0 := beq_iff_eq.mpr c10; have c10b1 := bne_eq_false_iff_eq.mpr c10; clear c10
          by_cases c11 : ((rd_T92 l0 x5_1).f5) = (wrap64 ((wrap64 ((wrap64 ((wrap64 ((wrap64 (x1_1 + 1)) + 1)) + 1)) + 1)) + 1))
          ·rw [if_pos c11] at H
           have c11b0 := beq_iff_eq.mpr c11; have c11b1 := bne_eq_false_iff_eq.mpr c11; clear c11
           by_cases c12 : ((rd_T92 l0 x5_1).f6) = (wrap64 ((wrap64 ((wrap64 ((wrap64 ((wrap64 ((wrap64 (x1_1 + 1)) + 1)) + 1)) + 1)) + 1)) + 1))
           ·rw [if_pos c12] at H
            have c12b0 := beq_iff_eq.mpr c12; have c12b1 := bne_eq_false_iff_eq.mpr c12; clear c12
            by_cases c13 : ((rd_T92 l0 x5_1).f7) = (wrap64 ((wrap64 ((wrap64 ((wrap64 ((wrap64 ((wrap64 ((wrap64 (x1_1 + 1)) + 1)) + 1)) + 1)) + 1)) + 1)) + 1))
            ·rw [if_pos c13] at H
             have c13b0 := beq_iff_eq.mpr c13; have c13b1 := bne_eq_false_iff_eq.mpr c13; clear c13
             by_cases c14 : ((rd_T92 l0 x5_1).f8) = (wrap64 ((wrap64 ((wrap64 ((wrap64 ((wrap64 ((wrap64 ((wrap64 ((wrap64 (x1_1 + 1)) + 1)) + 1)) + 1)) + 1)) + 1)) + 1)) + 1))
             ·rw [if_pos c14] at H
              have c14b0 := beq_iff_eq.mpr c14; have c14b1 := bne_eq_false_iff_eq.mpr c14; clear c14; have H' := am_ H; clear H
              try go_wp2
              replace HB := am_ (below_drew1 HB.out); have p459 : 0 ≤ (x5_1 : Int) := of_decide_eq_true Zp; have q459 : x5_1 < (l0.length : Int) := of_decide_eq_true Zp; obtain ⟨ad459, e459, hx459_0, hx459_1, hx459_2, hx459_3, hx459_4, hx459_5, hx459_6, hx459_7, hx459_8⟩ := at_T92 HR0.out x5_1 p459 q459; have hw459_8 := hx459_8; have hw459_7 := hx459_7; have hw459_6 := hx459_6; have hw459_5 := hx459_5; have hw459_4 := hx459_4; have hw459_3 := hx459_3; have hw459_2 := hx459_2; have hw459_1 := hx459_1; have hw459_0 := hx459_0
              cases e459
              replace hx459_0 := cbH HB hx459_0; replace hx459_1 := cbH HB hx459_1; replace hx459_2 := cbH HB hx459_2; replace hx459_3 := cbH HB hx459_3; replace hx459_4 := cbH HB hx459_4; replace hx459_5 := cbH HB hx459_5; replace hx459_6 := cbH HB hx459_6; replace hx459_7 := cbH HB hx459_7; replace hx459_8 := cbH HB hx459_8; replace p459 := eq_true p459; replace q459 := eq_true q459; refine start_ (n := 8) (S := fun w' => w'.cell? (ad459.add ((x5_1).toNat * 9)) = some (.string ((rd_T92 l0 x5_1).f0)) ∧ w'.cell? ⟨(ad459.add ((x5_1).toNat * 9)).block, (ad459.add ((x5_1).toNat * 9)).off + 1, none⟩ = some (.int .i64 ((rd_T92 l0 x5_1).f1)) ∧ w'.cell? ⟨(ad459.add ((x5_1).toNat * 9)).block, (ad459.add ((x5_1).toNat * 9)).off + 2, none⟩ = some (.int .i64 ((rd_T92 l0 x5_1).f2)) ∧ w'.cell? ⟨(ad459.add ((x5_1).toNat * 9)).block, (ad459.add ((x5_1).toNat * 9)).off + 3, none⟩ = some (.int .i64 ((rd_T92 l0 x5_1).f3)) ∧ w'.cell? ⟨(ad459.add ((x5_1).toNat * 9)).block, (ad459.add ((x5_1).toNat * 9)).off + 4, none⟩ = some (.int .i64 ((rd_T92 l0 x5_1).f4)) ∧ w'.cell? ⟨(ad459.add ((x5_1).toNat * 9)).block, (ad459.add ((x5_1).toNat * 9)).off + 5, none⟩ = some (.int .i64 ((rd_T92 l0 x5_1).f5)) ∧ w'.cell? ⟨(ad459.add ((x5_1).toNat * 9)).block, (ad459.add ((x5_1).toNat * 9)).off + 6, none⟩ = some (.int .i64 ((rd_T92 l0 x5_1).f6)) ∧ w'.cell? ⟨(ad459.add ((x5_1).toNat * 9)).block, (ad459.add ((x5_1).toNat * 9)).off + 7, none⟩ = some (.int .i64 ((rd_T92 l0 x5_1).f7)) ∧ w'.cell? ⟨(ad459.add ((x5_1).toNat * 9)).block, (ad459.add ((x5_1).toNat * 9)).off + 8, none⟩ = some (.int .i64 ((rd_T92 l0 x5_1).f8))) (ds := []) (bT 8 0) Zj rfl rfl ⟨(cbH HB hw459_0 :), (cbH HB hw459_1 :), (cbH HB hw459_2 :), (cbH HB hw459_3 :), (cbH HB hw459_4 :), (cbH HB hw459_5 :), (cbH HB hw459_6 :), (cbH HB hw459_7 :), (cbH HB hw459_8 :)⟩ (fun hHeld => ?_); refine with_tabW laws_heldArticleS.tab4 laws_heldArticleS.bits4 (fun HT_ HW_ => ?_); generalize wr.drew = w15 at HB hx459_0 hx459_1 hx459_2 hx459_3 hx459_4 hx459_5 hx459_6 hx459_7 hx459_8 hHeld ⊢; refine pureZ HT_ 0 (some 12) (bT 8 1) ?_; refine pureZ HT_ 1 (some 13) (bT 8 2) ?_; refine pureZ HT_ 2 (some 14) (bT 8 3) ?_; refine pureZ HT_ 3 (some 15) (bT 8 4) ?_; refine pureZ HT_ 5 (some 17) #[true, true, true, true, false, true, false, false] ?_; refine takeZ9 HT_ HW_ 4 (some 16) (bT 8 6) hHeld ?_; refine one_ (i := 6) (N := some 18) (bT 8 7) rfl rfl (one_of HT_.out Zj) (by decide) (fun K hK => ?_); refine goes_ Try.func126 Zj rfl #[.int .i64 x1_1] (by rfl) rfl rfl Zo ?_
              with_reducible refine (laws_markText.calls k1 x1_1 t460 _ A5.out).mono ?_
              rintro e w16 ⟨rfl, hb⟩; refine ⟨_, rfl, ?_⟩; replace HB := (bsZ Zd hb)
              (try clear hb)
              (try clear hb2)
              (try clear hk)
              (try clear hi)
              refine hK.out _ _ ⟨(cbH HB hw459_0 :), (cbH HB hw459_1 :), (cbH HB hw459_2 :), (cbH HB hw459_3 :), (cbH HB hw459_4 :), (cbH HB hw459_5 :), (cbH HB hw459_6 :), (cbH HB hw459_7 :), (cbH HB hw459_8 :)⟩ (fun hHeld => ?_); clear hK K; refine normZ 18 ?_; refine pureZ HT_ 7 (some 19) (bT 8 8) ?_; refine done_ (done_of HT_.out Zj) ?_; have p461 : 0 ≤ (x5_1 : Int) := of_decide_eq_true Zp; have q461 : x5_1 < (l0.length : Int) := of_decide_eq_true Zp; obtain ⟨ad461, e461, hx461_0, hx461_1, hx461_2, hx461_3, hx461_4, hx461_5, hx461_6, hx461_7, hx461_8⟩ := at_T92 HR0.out x5_1 p461 q461; obtain rfl : ad459 = ad461 := (by injection e461); replace hx461_0 := cbH HB hx461_0; replace hx461_1 := cbH HB hx461_1; replace hx461_2 := cbH HB hx461_2; replace hx461_3 := cbH HB hx461_3; replace hx461_4 := cbH HB hx461_4; replace hx461_5 := cbH HB hx461_5; replace hx461_6 := cbH HB hx461_6; replace hx461_7 := cbH HB hx461_7; replace hx461_8 := cbH HB hx461_8; replace p461 := eq_true p461; replace q461 := eq_true q461; have p462 : 0 ≤ (x5_1 : Int) := of_decide_eq_true Zp; have q462 : x5_1 < (l0.length : Int) := of_decide_eq_true Zp; obtain ⟨ad462, e462, hx462_0, hx462_1, hx462_2, hx462_3, hx462_4, hx462_5, hx462_6, hx462_7, hx462_8⟩ := at_T92 HR0.out x5_1 p462 q462; obtain rfl : ad459 = ad462 := (by injection e462); replace hx462_0 := cbH HB hx462_0; replace hx462_1 := cbH HB hx462_1; replace hx462_2 := cbH HB hx462_2; replace hx462_3 := cbH HB hx462_3; replace hx462_4 := cbH HB hx462_4; replace hx462_5 := cbH HB hx462_5; replace hx462_6 := cbH HB hx462_6; replace hx462_7 := cbH HB hx462_7; replace hx462_8 := cbH HB hx462_8; replace p462 := eq_true p462; replace q462 := eq_true q462; have p463 : 0 ≤ (x5_1 : Int) := of_decide_eq_true Zp; have q463 : x5_1 < (l0.length : Int) := of_decide_eq_true Zp; obtain ⟨ad463, e463, hx463_0, hx463_1, hx463_2, hx463_3, hx463_4, hx463_5, hx463_6, hx463_7, hx463_8⟩ := at_T92 HR0.out x5_1 p463 q463; obtain rfl : ad459 = ad463 := (by injection e463); replace hx463_0 := cbH HB hx463_0; replace hx463_1 := cbH HB hx463_1; replace hx463_2 := cbH HB hx463_2; replace hx463_3 := cbH HB hx463_3; replace hx463_4 := cbH HB hx463_4; replace hx463_5 := cbH HB hx463_5; replace hx463_6 := cbH HB hx463_6; replace hx463_7 := cbH HB hx463_7; replace hx463_8 := cbH HB hx463_8; replace p463 := eq_true p463; replace q463 := eq_true q463; have p464 : 0 ≤ (x5_1 : Int) := of_decide_eq_true Zp; have q464 : x5_1 < (l0.length : Int) := of_decide_eq_true Zp; obtain ⟨ad464, e464, hx464_0, hx464_1, hx464_2, hx464_3, hx464_4, hx464_5, hx464_6, hx464_7, hx464_8⟩ := at_T92 HR0.out x5_1 p464 q464; obtain rfl : ad459 = ad464 := (by injection e464); replace hx464_0 := cbH HB hx464_0; replace hx464_1 := cbH HB hx464_1; replace hx464_2 := cbH HB hx464_2; replace hx464_3 := cbH HB hx464_3; replace hx464_4 := cbH HB hx464_4; replace hx464_5 := cbH HB hx464_5; replace hx464_6 := cbH HB hx464_6; replace hx464_7 := cbH HB hx464_7; replace hx464_8 := cbH HB hx464_8; replace p464 := eq_true p464
              replace q464 := eq_true q464; have p465 : 0 ≤ (x5_1 : Int) := of_decide_eq_true Zp; have q465 : x5_1 < (l0.length : Int) := of_decide_eq_true Zp; obtain ⟨ad465, e465, hx465_0, hx465_1, hx465_2, hx465_3, hx465_4, hx465_5, hx465_6, hx465_7, hx465_8⟩ := at_T92 HR0.out x5_1 p465 q465; obtain rfl : ad459 = ad465 := (by injection e465); replace hx465_0 := cbH HB hx465_0; replace hx465_1 := cbH HB hx465_1; replace hx465_2 := cbH HB hx465_2; replace hx465_3 := cbH HB hx465_3; replace hx465_4 := cbH HB hx465_4; replace hx465_5 := cbH HB hx465_5; replace hx465_6 := cbH HB hx465_6; replace hx465_7 := cbH HB hx465_7; replace hx465_8 := cbH HB hx465_8; replace p465 := eq_true p465; replace q465 := eq_true q465; have p466 : 0 ≤ (x5_1 : Int) := of_decide_eq_true Zp; have q466 : x5_1 < (l0.length : Int) := of_decide_eq_true Zp; obtain ⟨ad466, e466, hx466_0, hx466_1, hx466_2, hx466_3, hx466_4, hx466_5, hx466_6, hx466_7, hx466_8⟩ := at_T92 HR0.out x5_1 p466 q466; obtain rfl : ad459 = ad466 := (by injection e466); replace hx466_0 := cbH HB hx466_0; replace hx466_1 := cbH HB hx466_1; replace hx466_2 := cbH HB hx466_2; replace hx466_3 := cbH HB hx466_3; replace hx466_4 := cbH HB hx466_4; replace hx466_5 := cbH HB hx466_5; replace hx466_6 := cbH HB hx466_6; replace hx466_7 := cbH HB hx466_7; replace hx466_8 := cbH HB hx466_8; replace p466 := eq_true p466; replace q466 := eq_true q466; have p467 : 0 ≤ (x5_1 : Int) := of_decide_eq_true Zp; have q467 : x5_1 < (l0.length : Int) := of_decide_eq_true Zp; obtain ⟨ad467, e467, hx467_0, hx467_1, hx467_2, hx467_3, hx467_4, hx467_5, hx467_6, hx467_7, hx467_8⟩ := at_T92 HR0.out x5_1 p467 q467; obtain rfl : ad459 = ad467 := (by injection e467); replace hx467_0 := cbH HB hx467_0; replace hx467_1 := cbH HB hx467_1; replace hx467_2 := cbH HB hx467_2; replace hx467_3 := cbH HB hx467_3; replace hx467_4 := cbH HB hx467_4; replace hx467_5 := cbH HB hx467_5; replace hx467_6 := cbH HB hx467_6; replace hx467_7 := cbH HB hx467_7; replace hx467_8 := cbH HB hx467_8; replace p467 := eq_true p467; replace q467 := eq_true q467; have p468 : 0 ≤ (x5_1 : Int) := of_decide_eq_true Zp; have q468 : x5_1 < (l0.length : Int) := of_decide_eq_true Zp; obtain ⟨ad468, e468, hx468_0, hx468_1, hx468_2, hx468_3, hx468_4, hx468_5, hx468_6, hx468_7, hx468_8⟩ := at_T92 HR0.out x5_1 p468 q468; obtain rfl : ad459 = ad468 := (by injection e468); replace hx468_0 := cbH HB hx468_0; replace hx468_1 := cbH HB hx468_1; replace hx468_2 := cbH HB hx468_2; replace hx468_3 := cbH HB hx468_3; replace hx468_4 := cbH HB hx468_4; replace hx468_5 := cbH HB hx468_5; replace hx468_6 := cbH HB hx468_6; replace hx468_7 := cbH HB hx468_7; replace hx468_8 := cbH HB hx468_8; replace p468 := eq_true p468; replace q468 := eq_true q468
              try go_wp2
              go_roundg k1
              case measure => have := HK1.out; omega
              case rel => exact ⟨(wrap64 ((wrap64 ((wrap64 ((wrap64 ((wrap64 ((wrap64 ((wrap64 ((wrap64 ((wrap64 (x1_1 + 1)) + 1)) + 1)) + 1)) + 1)) + 1)) + 1)) + 1)) + 1)), (wrap64 (x5_1 + 1)), Za, Za, H', ⟨Zt⟩, ⟨Zd⟩⟩
             ·rw [if_neg c14] at H
              have c14b0 := beq_eq_false_iff_ne.mpr c14; have c14b1 := bne_iff_ne.mpr c14; exact absurd HR_.out Zaa
            ·rw [if_neg c13] at H
             have c13b0 := beq_eq_false_iff_ne.mpr c13; have c13b1 := bne_iff_ne.mpr c13; exact absurd HR_.out Zaa
           ·rw [if_neg c12] at H
            have c12b0 := beq_eq_false_iff_ne.mpr c12; have c12b1 := bne_iff_ne.mpr c12; exact absurd HR_.out Zaa
          ·rw [if_neg c11] at H
           have c11b0 := beq_eq_false_iff_ne.mpr c11; have c11b1 := bne_iff_ne.mpr c11; exact absurd HR_.out Zaa
         ·rw [if_neg c10] at H
          have c10b0 := beq_eq_false_iff_ne.mpr c10; have c10b1 := bne_iff_ne.mpr c10; exact absurd HR_.out Zaa
        ·rw [if_neg c9] at H
         have c9b0 := beq_eq_false_iff_ne.mpr c9; have c9b1 := bne_iff_ne.mpr c9; exact absurd HR_.out Zaa
       ·rw [if_neg c8] at H
        have c8b0 := beq_eq_false_iff_ne.mpr c8; have c8b1 := bne_iff_ne.mpr c8; exact absurd HR_.out Zaa
      ·rw [if_neg c7] at H
       have c7b0 := beq_eq_false_iff_ne.mpr c7; have c7b1 := bne_iff_ne.mpr c7; exact absurd HR_.out Zaa
     ·rw [if_neg c6] at H
      have c6b0 := beq_eq_false_iff_ne.mpr c6; have c6b1 := bne_iff_ne.mpr c6; exact absurd HR_.out Zaa
    ·rw [if_neg c4] at H
     exact absurd H (by simp)
   ·rw [if_neg c3] at H
    have c3b0 := decide_eq_false c3; clear c3; obtain rfl := Option.some.inj H
    go_wp2
    go_ret
    exact ⟨Zk, Zd⟩
end Go.Proofs.Ytnlbaflbhicooaa.F
namespace Go.Proofs.Ytnlbaflbhicooaa.F
open Go.RowKit Go.Proofs.YtnlbaflbhicooaaW.PrintWords Go.Proofs.YtnlbaflbhicooaaW.PrintLast Go.Proofs.YtnlbaflbhicooaaW.PrintMore
set_option linter.unusedVariables false
set_option linter.unusedSimpArgs false
attribute [local go_sem] max2_int min2_int max_two min_two max_three min_three max_four min_four
mutual
def full_toArticleS.j0 : Nat → List (S105) → Bool → Option ((List (S92)))
 | 0, _, _ => none
 | k + 1, x0, x13 => if x13 = true then (some ([] : List (S92))) else ((laws_roomBehind.f (x0.length : Int)).bind fun t224 => (if 0 ≤ (wrap64 ((x0.length : Int) + t224)) then (if (wrap64 ((x0.length : Int) + t224) : Int).toNat ≤ 3518437208883 then (full_toArticleS.l0 k x0 (List.replicate (wrap64 ((x0.length : Int) + t224) : Int).toNat z92) 0) else (none)) else (none)))
def full_toArticleS.l0 : Nat → List (S105) → List (S92) → Int → Option ((List (S92)))
 | 0, _, _, _ => none
 | k + 1, x0, x5, x6 => if x6 < (x0.length : Int) then (if 0 ≤ x6 then ((laws_toArticle.f ((rd_T105 x0 x6).f0) ((rd_T105 x0 x6).f1) ((rd_T105 x0 x6).f2) ((rd_T105 x0 x6).f3) ((rd_T105 x0 x6).f4) ((rd_T105 x0 x6).f5) ((rd_T105 x0 x6).f6) ((rd_T105 x0 x6).f7) ((rd_T105 x0 x6).f8)).bind fun bt229 => (if x6 < (x5.length : Int) then (full_toArticleS.l0 k x0 (x5.set (x6 : Int).toNat (⟨bt229.1, bt229.2.1, bt229.2.2.1, bt229.2.2.2.1, bt229.2.2.2.2.1, bt229.2.2.2.2.2.1, bt229.2.2.2.2.2.2.1, bt229.2.2.2.2.2.2.2.1, bt229.2.2.2.2.2.2.2.2⟩ : S92)) (wrap64 (x6 + 1))) else (none))) else (none)) else (full_toArticleS.l1 k x0 x5 (x0.length : Int))
def full_toArticleS.l1 : Nat → List (S105) → List (S92) → Int → Option ((List (S92)))
 | 0, _, _, _ => none
 | k + 1, x0, x5, x7 => if x7 < (x5.length : Int) then ((laws_fillerArticle.f).bind fun bt239 => (if 0 ≤ x7 then (full_toArticleS.l1 k x0 (x5.set (x7 : Int).toNat (⟨bt239.1, bt239.2.1, bt239.2.2.1, bt239.2.2.2.1, bt239.2.2.2.2.1, bt239.2.2.2.2.2.1, bt239.2.2.2.2.2.2.1, bt239.2.2.2.2.2.2.2.1, bt239.2.2.2.2.2.2.2.2⟩ : S92)) (wrap64 (x7 + 1))) else (none))) else (if 0 ≤ (x0.length : Int) then (if (x0.length : Int) ≤ (x5.length : Int) then (some x5) else (none)) else (none))
end
def full_toArticleS.f (k : Nat) (l0 : List (S105)) (a1 : Bool) : Option ((List (S92))) := if a1 = true then (full_toArticleS.j0 k l0 ((l0.length : Int) == 0)) else (full_toArticleS.j0 k l0 false)
set_option maxHeartbeats 8000000 in
set_option maxRecDepth 100000 in
theorem full_toArticleS.calls (k : Nat) (A0 : Option Addr) (c0 : Nat) (l0 : List (S105)) (a1 : Bool) (r : List (S92)) (w : World) (hr0 : Kd.C k105 w A0 l0.length l0) (hc0 : l0.length ≤ c0) (h : full_toArticleS.f k l0 a1 = some r) :
  Calls Try.prog 71 #[.slice A0 l0.length c0, .bool a1] w fun e w' => ∃ v0_ : Value, e = .returned (v0_) ∧ Full k92 92 w' w.heap.size l0.length v0_ r ∧ Below w.heap.size w w' := by
 have hu105 := Try.underlying105; have hu92 := Try.underlying92; have HR0 := am_ hr0; have HC0 := am_ hc0; clear hr0 hc0; have HB := am_ (Below.refl w.heap.size w); have H : (if a1 = true then (full_toArticleS.j0 k l0 ((l0.length : Int) == 0)) else (full_toArticleS.j0 k l0 false)) = some r := h; clear h; have HC3 := am_ H; clear H
 go_enter Try.func71, Try.ntmps71
 go_upto_region 1 with (fail)
 go_cut [13] (fun v13 wc => ∃ (kq : Nat) (x13_2 : Bool), v13 = .bool x13_2 ∧ Aside0 (full_toArticleS.j0 kq l0 x13_2 = some r) ∧ Aside0 (kq ≤ k) ∧ Aside0 (Below w.heap.size w wc))
 case first =>
  have H := HC3.out; clear HC3
  by_cases c4 : a1 = true
  ·subst c4
   have H1 : (full_toArticleS.j0 k l0 ((l0.length : Int) == 0)) = some r := by rw [if_pos rfl] at H; exact H
   clear H; have H := H1; clear H1; have H' := am_ H; clear H
   go_wp2
   go_meet
   case rel => exact ⟨_, (((l0.length : Int) == 0)), Za, H', ⟨Zm⟩, ⟨Zd⟩⟩
  ·replace c4 := Bool.eq_false_iff.mpr c4
   subst c4
   have H1 : (full_toArticleS.j0 k l0 false) = some r := by rw [if_neg (show ¬ (false = true) by decide)] at H; exact H
   clear H; have H := H1; clear H1; have H' := am_ H; clear H
   go_wp2
   go_meet
   case rel => exact ⟨_, (false), Za, H', ⟨Zm⟩, ⟨Zd⟩⟩
 case rest =>
  clear HC3
  try clear p2
  try clear c4
  obtain ⟨kq, x13_2, rfl, HA, HJ2, HB⟩ := hcut
  cases kq with
  | zero => exact absurd HA.out (by simp [full_toArticleS.j0])
  | succ kj2 =>
   have H := HA.out; clear HA; simp only [full_toArticleS.j0] at H
   by_cases c5 : x13_2 = true
   ·subst c5
    have H1 : (some ([] : List (S92))) = some r := by rw [if_pos rfl] at H; exact H
    clear H; have H := H1; clear H1; obtain rfl := Option.some.inj H
    go_wp2
    go_ret
    exact ⟨_, Zk, fun h_ => absurd rfl h_, Zd⟩
   ·replace c5 := Bool.eq_false_iff.mpr c5
    subst c5
    have H1 : ((laws_roomBehind.f (l0.length : Int)).bind fun t224 => (if 0 ≤ (wrap64 ((l0.length : Int) + t224)) then (if (wrap64 ((l0.length : Int) + t224) : Int).toNat ≤ 3518437208883 then (full_toArticleS.l0 kj2 l0 (List.replicate (wrap64 ((l0.length : Int) + t224) : Int).toNat z92) 0) else (none)) else (none))) = some r := by rw [if_neg (show ¬ (false = true) by decide)] at H; exact H
    clear H; have H := H1; clear H1; replace H := Option.bind_eq_some_iff.mp H; obtain ⟨t224, A60, H⟩ := H; have A6 := am_ A60; clear A60; obtain ⟨ji7, hji7⟩ : ∃ j_ : Int, (wrap64 ((l0.length : Int) + t224)) = j_ := ⟨_, rfl⟩
    replace H : (if 0 ≤ (ji7) then (if (ji7 : Int).toNat ≤ 3518437208883 then (full_toArticleS.l0 kj2 l0 (List.replicate (ji7 : Int).toNat z92) 0) else (none)) else (none)) = some r := by first | (rw [hji7] at H; exact H) | (simp only [hji7] at H ⊢; exact H)
    (try rw [hji7] at A6)
    have hji7w : (IntKind.i64.wrap ((l0.length : Int) + t224)) = ji7 := (i64_w _).trans hji7
    by_cases c8 : 0 ≤ (ji7)
    ·rw [if_pos c8] at H
     have c8b0 := eq_true c8; have c8b1 := decide_eq_true c8; clear c8
     by_cases c9 : (ji7 : Int).toNat ≤ 3518437208883
     ·rw [if_pos c9] at H
      have c9b0 := eq_true c9; have c9b1 := decide_eq_true c9; clear c9; obtain ⟨y225, hy225⟩ : ∃ y_ : List (S92), y_ = (List.replicate (ji7 : Int).toNat z92) := ⟨_, rfl⟩
      (first | (rw [← hy225] at H; with_reducible replace H := bindZ H) | rw [← hy225] at H)
      have Ny225 := am_ hy225; clear hy225; have H' := am_ H; clear H
      go_wp2_with (first | ((with_reducible refine gate_callee (f := 117) rfl ?_); refine goesL_ (some 18) rfl rfl Try.func117 Zj rfl #[.int .i64 (l0.length : Int)] rfl Zo ?_; (with_reducible refine (laws_roomBehind.calls (l0.length : Int) t224 _ A6.out).mono ?_); rintro e w' ⟨rfl, ⟨nd, rfl⟩⟩; refine ⟨_, rfl, ?_⟩) | ((with_reducible refine gate_dst (N := 20) rfl ?_); (try (refine gate_guard (by rfl) ?_; dsimp only)); refine Kd.R_make k92 _ 92 rfl (N := 20) rfl 29 _ _ rfl ji7 rfl rfl Try.underlying29 (.agg #[(.string ⟨#[]⟩), (.int .i64 0), (.int .i64 0), (.int .i64 0), (.int .i64 0), (.int .i64 0), (.int .i64 0), (.int .i64 0), (.int .i64 0)]) 80 info92 rfl (by decide) (by omega) z92 (ok := fun _ => True) (okp := fun _ => True) (k92_mkM _ _ _ z92 ) (fun _ hk => hk) trivial (of_decide_eq_true Zp) (Nat.le_trans (Nat.mul_le_mul_right _ (of_decide_eq_true Zp : ji7.toNat ≤ 3518437208883)) (by omega)) (Below.refl _ _) (Nat.le_refl _) ?_; intro v226 w10 ho11 hb hg_ hnew_; clear hg_ hnew_; (first | rw [← Ny225.out] at ho11 | (simp only [Int.reduceToNat] at ho11; rw [← Ny225.out] at ho11)); replace HO227 := am_ (Kd.R_lower ho11 (below_size Zd)); replace HB := (bsZ Zd hb); clear hb ho11))
      go_loopg [6] kj2 (fun kq v6 w' => ∃ (x5_2 : List (S92)) (x6_2 : Int), v6 = .int .i64 x6_2 ∧ Aside0 (full_toArticleS.l0 kq l0 x5_2 x6_2 = some r) ∧ Aside0 (kq ≤ kj2) ∧ Aside0 (Kd.R k92 92 w' w.heap.size (fun _ => True) v226 x5_2) ∧ Aside0 (Below w.heap.size w w'))
      case atStart => exact ⟨(y225), (0), Za, H', ⟨Nat.le_refl _⟩, ⟨(have z0_ := HO227; Zq)⟩, ⟨Zd⟩⟩
      case round =>
       clear H'
       try clear c1
       try clear p2
       try clear c4
       try clear c5
       try clear p6
       try clear c7
       try clear c8
       try clear c8b0
       try clear c8b1
       try clear c9
       try clear c9b0
       try clear c9b1
       try clear c11
       try clear p2
       obtain ⟨x5_2, x6_2, rfl, HA, HK2, HO_5, HB⟩ := hrel
       cases gk with
       | zero => exact absurd HA.out (by simp [full_toArticleS.l0])
       | succ k2 =>
        have H := HA.out; clear HA; simp only [full_toArticleS.l0] at H
        by_cases c12 : x6_2 < (l0.length : Int)
        ·rw [if_pos c12] at H
         have c12b0 := decide_eq_true c12; clear c12
         by_cases c13 : 0 ≤ x6_2
         ·rw [if_pos c13] at H
          have c13b0 := decide_eq_true c13; clear c13; replace H := Option.bind_eq_some_iff.mp H; obtain ⟨⟨t229, t230, t231, t232, t233, t234, t235, t236, t237⟩, A140, H⟩ := H; replace H : (if x6_2 < (x5_2.length : Int) then (full_toArticleS.l0 k2 l0 (x5_2.set (x6_2 : Int).toNat (⟨t229, t230, t231, t232, t233, t234, t235, t236, t237⟩ : S92)) (wrap64 (x6_2 + 1))) else (none)) = some r := H; have A14 := am_ A140; clear A140
          by_cases c15 : x6_2 < (x5_2.length : Int)
          ·rw [if_pos c15] at H
           have c15b0 := decide_eq_true c15; clear c15; obtain ⟨y238, hy238⟩ : ∃ y_ : List (S92), y_ = (x5_2.set (x6_2 : Int).toNat (⟨t229, t230, t231, t232, t233, t234, t235, t236, t237⟩ : S92)) := ⟨_, rfl⟩
           (first | (rw [← hy238] at H; with_reducible replace H := bindZ H) | rw [← hy238] at H)
           have Ny238 := am_ hy238; clear hy238; have H' := am_ H; clear H; have p228 : 0 ≤ (x6_2 : Int) := of_decide_eq_true Zp; have q228 : x6_2 < (l0.length : Int) := of_decide_eq_true Zp; obtain ⟨ad228, e228, hx228_0, hx228_1, hx228_2, hx228_3, hx228_4, hx228_5, hx228_6, hx228_7, hx228_8⟩ := at_T105 HR0.out x6_2 p228 q228
           cases e228
           replace hx228_0 := cbH HB hx228_0; replace hx228_1 := cbH HB hx228_1; replace hx228_2 := cbH HB hx228_2; replace hx228_3 := cbH HB hx228_3; replace hx228_4 := cbH HB hx228_4; replace hx228_5 := cbH HB hx228_5; replace hx228_6 := cbH HB hx228_6; replace hx228_7 := cbH HB hx228_7; replace hx228_8 := cbH HB hx228_8; replace p228 := eq_true p228; replace q228 := eq_true q228
           go_wp2_with (first | ((with_reducible refine gate_callee (f := 120) rfl ?_); refine goesL_ (some 33) rfl rfl Try.func120 Zj rfl #[.agg #[.string ((rd_T105 l0 x6_2).f0), .int .i64 ((rd_T105 l0 x6_2).f1), .int .i64 ((rd_T105 l0 x6_2).f2), .int .i64 ((rd_T105 l0 x6_2).f3), .int .i64 ((rd_T105 l0 x6_2).f4), .int .i64 ((rd_T105 l0 x6_2).f5), .int .i64 ((rd_T105 l0 x6_2).f6), .int .i64 ((rd_T105 l0 x6_2).f7), .int .i64 ((rd_T105 l0 x6_2).f8)]] rfl Zo ?_; (with_reducible refine (laws_toArticle.calls ((rd_T105 l0 x6_2).f0) ((rd_T105 l0 x6_2).f1) ((rd_T105 l0 x6_2).f2) ((rd_T105 l0 x6_2).f3) ((rd_T105 l0 x6_2).f4) ((rd_T105 l0 x6_2).f5) ((rd_T105 l0 x6_2).f6) ((rd_T105 l0 x6_2).f7) ((rd_T105 l0 x6_2).f8) t229 t230 t231 t232 t233 t234 t235 t236 t237 _ A14.out).mono ?_); rintro e w17 ⟨rfl, hb⟩; refine ⟨_, rfl, ?_⟩; replace HO_5 := am_ (Kd.R_below (have z0_ := HO_5; Zq) hb); replace HB := (bsZ Zd hb); (try clear hb); (try clear hb2); (try clear hk); (try clear hi); have p16 : 0 ≤ (x6_2 : Int) := of_decide_eq_true Zp; have q16 : (x6_2 : Int) < ((x5_2.length : Int) : Int) := of_decide_eq_true Zp; obtain ⟨go16, co16, eo16, gb16, gl16, cl16, HG16⟩ := Kd.R_form HO_5.out (by omega); (first | cases eo16 | (injection eo16 with ea_ en_ ec_; (first | subst ea_ | (injection ea_ with ea_; subst ea_)); subst ec_; clear en_)); have GB16 := am_ gb16; have GG16 := am_ HG16; clear gb16 gl16 HG16; obtain ⟨ce16, hcl16, hM16, hcc16, hfr16⟩ := Kd.R_elem HO_5.out z92 (x6_2 : Int) p16 q16; obtain rfl := k92_openM hM16; have hx16_0 : w17.cell? ⟨go16, (x6_2 : Int).toNat * 9, none⟩ = some (.string ((rd_T92 x5_2 x6_2).f0)) := hcc16 0 _ rfl; have hx16_1 : w17.cell? ⟨go16, (x6_2 : Int).toNat * 9 + 1, none⟩ = some (.int .i64 ((rd_T92 x5_2 x6_2).f1)) := hcc16 1 _ rfl; have hx16_2 : w17.cell? ⟨go16, (x6_2 : Int).toNat * 9 + 2, none⟩ = some (.int .i64 ((rd_T92 x5_2 x6_2).f2)) := hcc16 2 _ rfl; have hx16_3 : w17.cell? ⟨go16, (x6_2 : Int).toNat * 9 + 3, none⟩ = some (.int .i64 ((rd_T92 x5_2 x6_2).f3)) := hcc16 3 _ rfl; have hx16_4 : w17.cell? ⟨go16, (x6_2 : Int).toNat * 9 + 4, none⟩ = some (.int .i64 ((rd_T92 x5_2 x6_2).f4)) := hcc16 4 _ rfl; have hx16_5 : w17.cell? ⟨go16, (x6_2 : Int).toNat * 9 + 5, none⟩ = some (.int .i64 ((rd_T92 x5_2 x6_2).f5)) := hcc16 5 _ rfl; have hx16_6 : w17.cell? ⟨go16, (x6_2 : Int).toNat * 9 + 6, none⟩ = some (.int .i64 ((rd_T92 x5_2 x6_2).f6)) := hcc16 6 _ rfl; have hx16_7 : w17.cell? ⟨go16, (x6_2 : Int).toNat * 9 + 7, none⟩ = some (.int .i64 ((rd_T92 x5_2 x6_2).f7)) := hcc16 7 _ rfl; have hx16_8 : w17.cell? ⟨go16, (x6_2 : Int).toNat * 9 + 8, none⟩ = some (.int .i64 ((rd_T92 x5_2 x6_2).f8)) := hcc16 8 _ rfl; have hf16_0 : w17.frozen? ⟨go16, (x6_2 : Int).toNat * 9, none⟩ = false := hfr16 0; have hf16_1 := hfr16 1; have hf16_2 := hfr16 2; have hf16_3 := hfr16 3; have hf16_4 := hfr16 4; have hf16_5 := hfr16 5; have hf16_6 := hfr16 6; have hf16_7 := hfr16 7; have hf16_8 := hfr16 8; clear hcl16 hcc16 hfr16 hM16; replace p16 := eq_true p16; replace q16 := eq_true q16; have HX18 := am_ (show Kd.R k92 92 w17 w.heap.size (fun _ => True) (.slice (some ⟨go16, 0, none⟩) x5_2.length co16) x5_2 from (have z0_ := HO_5; Zq)); obtain ⟨ce18, hcl18, hM18, hcc18, hfr18⟩ := Kd.R_elem HX18.out z92 (x6_2 : Int) (of_decide_eq_true Zp) (by have h_ : (x6_2 : Int) < ((x5_2.length : Int) : Int) := of_decide_eq_true Zp; first | exact h_ | (have e_ := (Kd.R_reads' HO_5.out).1; omega) | simpa using h_); obtain rfl := k92_openM hM18; have HP18 := Kd.R_seg HX18.out (x6_2 : Int) (of_decide_eq_true Zp) (by have h_ : (x6_2 : Int) < ((x5_2.length : Int) : Int) := of_decide_eq_true Zp; first | exact h_ | (have e_ := (Kd.R_reads' HO_5.out).1; omega) | simpa using h_) (seg := [.string t229, .int .i64 t230, .int .i64 t231, .int .i64 t232, .int .i64 t233, .int .i64 t234, .int .i64 t235, .int .i64 t236, .int .i64 t237]) (j := 0) hcl18 hcc18 (show 9 ≤ 9 from by decide) (x' := (⟨t229, t230, t231, t232, t233, t234, t235, t236, t237⟩ : S92)) (k92_mkM _ _ _ (⟨t229, t230, t231, t232, t233, t234, t235, t236, t237⟩ : S92) ) (fun _ hk => hk); have hx18_0 := hcc18 0 _ rfl; (try simp only [show (k92).sz = 9 from rfl, Nat.mul_one, Nat.add_zero] at hx18_0); have hf18_0 := hfr18 0; (try simp only [show (k92).sz = 9 from rfl, Nat.mul_one, Nat.add_zero] at hf18_0); have hx18_1 := hcc18 1 _ rfl; (try simp only [show (k92).sz = 9 from rfl, Nat.mul_one, Nat.add_zero] at hx18_1); have hf18_1 := hfr18 1; (try simp only [show (k92).sz = 9 from rfl, Nat.mul_one, Nat.add_zero] at hf18_1); have hx18_2 := hcc18 2 _ rfl; (try simp only [show (k92).sz = 9 from rfl, Nat.mul_one, Nat.add_zero] at hx18_2); have hf18_2 := hfr18 2; (try simp only [show (k92).sz = 9 from rfl, Nat.mul_one, Nat.add_zero] at hf18_2); have hx18_3 := hcc18 3 _ rfl; (try simp only [show (k92).sz = 9 from rfl, Nat.mul_one, Nat.add_zero] at hx18_3); have hf18_3 := hfr18 3; (try simp only [show (k92).sz = 9 from rfl, Nat.mul_one, Nat.add_zero] at hf18_3); have hx18_4 := hcc18 4 _ rfl; (try simp only [show (k92).sz = 9 from rfl, Nat.mul_one, Nat.add_zero] at hx18_4); have hf18_4 := hfr18 4; (try simp only [show (k92).sz = 9 from rfl, Nat.mul_one, Nat.add_zero] at hf18_4); have hx18_5 := hcc18 5 _ rfl; (try simp only [show (k92).sz = 9 from rfl, Nat.mul_one, Nat.add_zero] at hx18_5); have hf18_5 := hfr18 5; (try simp only [show (k92).sz = 9 from rfl, Nat.mul_one, Nat.add_zero] at hf18_5); have hx18_6 := hcc18 6 _ rfl; (try simp only [show (k92).sz = 9 from rfl, Nat.mul_one, Nat.add_zero] at hx18_6); have hf18_6 := hfr18 6; (try simp only [show (k92).sz = 9 from rfl, Nat.mul_one, Nat.add_zero] at hf18_6); have hx18_7 := hcc18 7 _ rfl; (try simp only [show (k92).sz = 9 from rfl, Nat.mul_one, Nat.add_zero] at hx18_7); have hf18_7 := hfr18 7; (try simp only [show (k92).sz = 9 from rfl, Nat.mul_one, Nat.add_zero] at hf18_7); have hx18_8 := hcc18 8 _ rfl; (try simp only [show (k92).sz = 9 from rfl, Nat.mul_one, Nat.add_zero] at hx18_8); have hf18_8 := hfr18 8; (try simp only [show (k92).sz = 9 from rfl, Nat.mul_one, Nat.add_zero] at hf18_8); clear hcl18 hcc18 hfr18 hM18) | ((with_reducible refine gate_store (t := 92) (p := 34) rfl ?_); refine store_event (t := 92) (p := 34) (v := ?vo_w19) (w1 := (((((((((w17.setCell ⟨go16, (x6_2 : Int).toNat * 9, none⟩ (.string t229)).setCell ⟨go16, (x6_2 : Int).toNat * 9 + 1, none⟩ (.int .i64 t230)).setCell ⟨go16, (x6_2 : Int).toNat * 9 + 2, none⟩ (.int .i64 t231)).setCell ⟨go16, (x6_2 : Int).toNat * 9 + 3, none⟩ (.int .i64 t232)).setCell ⟨go16, (x6_2 : Int).toNat * 9 + 4, none⟩ (.int .i64 t233)).setCell ⟨go16, (x6_2 : Int).toNat * 9 + 5, none⟩ (.int .i64 t234)).setCell ⟨go16, (x6_2 : Int).toNat * 9 + 6, none⟩ (.int .i64 t235)).setCell ⟨go16, (x6_2 : Int).toNat * 9 + 7, none⟩ (.int .i64 t236)).setCell ⟨go16, (x6_2 : Int).toNat * 9 + 8, none⟩ (.int .i64 t237))) ?hg ?ho ?hn ?hr ?_; (case ho => rfl); (case hg => rfl); (case hn => rfl); (case hr => first | (go_simp; done) | (go_simp; rfl)); intro w19 hw; have hg : w17.grownBy w19 (some go16) := (by rw [hw]; exact HP18.2); have hp_ : Kd.R k92 92 w19 w.heap.size (fun _ => True) (.slice (some ⟨go16, 0, none⟩) x5_2.length co16) y238 := (by rw [hw, Ny238.out]; exact HP18.1); clear HP18; replace HO_5 := am_ (hp_); replace HB := am_ (((have z0_ := GB16; Zz) : Below w.heap.size w w19)); clear hg hw hp_))
           go_roundg k2
           case measure => have := HJ2.out; have := HK2.out; omega
           case rel => exact ⟨(y238), (wrap64 (x6_2 + 1)), Za, H', ⟨by have := HJ2.out; have := HK2.out; omega⟩, ⟨(have z0_ := HO_5; Zq)⟩, ⟨Zd⟩⟩
          ·rw [if_neg c15] at H
           exact absurd H (by simp)
         ·rw [if_neg c13] at H
          exact absurd H (by simp)
        ·rw [if_neg c12] at H
         have c12b0 := decide_eq_false c12; clear c12; have H' := am_ H; clear H
         go_wp2
         go_loopg [7] k2 (fun kq v7 w' => ∃ (x5_3 : List (S92)) (x7_3 : Int), v7 = .int .i64 x7_3 ∧ Aside0 (full_toArticleS.l1 kq l0 x5_3 x7_3 = some r) ∧ Aside0 (kq ≤ k2) ∧ Aside0 (Kd.R k92 92 w' w.heap.size (fun _ => True) v226 x5_3) ∧ Aside0 (Below w.heap.size w w'))
         case atStart => exact ⟨(x5_2), ((l0.length : Int)), Za, H', ⟨Nat.le_refl _⟩, ⟨(have z0_ := HO_5; Zq)⟩, ⟨Zd⟩⟩
         case round =>
          clear H'
          try clear c1
          try clear p1
          try clear q1
          try clear hx1
          try clear p2
          try clear q2
          try clear hx2
          try clear c4
          try clear c5
          try clear p6
          try clear c7
          try clear c8
          try clear c8b0
          try clear c8b1
          try clear c9
          try clear c9b0
          try clear c9b1
          try clear c11
          try clear c12
          try clear c12b0
          try clear c13
          try clear c13b0
          try clear c15
          try clear c15b0
          try clear c16
          try clear p16
          try clear q16
          try clear hx16
          try clear hf16
          try clear c18
          try clear hx18
          try clear hf18
          try clear hx16_0
          try clear hx16_1
          try clear hx16_2
          try clear hx16_3
          try clear hx16_4
          try clear hx16_5
          try clear hx16_6
          try clear hx16_7
          try clear hx16_8
          try clear hx18_0
          try clear hx18_1
          try clear hx18_2
          try clear hx18_3
          try clear hx18_4
          try clear hx18_5
          try clear hx18_6
          try clear hx18_7
          try clear hx18_8
          try clear hx228_0
          try clear hx228_1
          try clear hx228_2
          try clear hx228_3
          try clear hx228_4
          try clear hx228_5
          try clear hx228_6
          try clear hx228_7
          try clear hx228_8
          try clear p16
          try clear p2
          try clear p228
          try clear p6
          try clear q16
          try clear q228
          obtain ⟨x5_3, x7_3, rfl, HA, HK3, HO_5, HB⟩ := hrel
          cases gk with
          | zero => exact absurd HA.out (by simp [full_toArticleS.l1])
          | succ k3 =>
           have H := HA.out; clear HA; simp only [full_toArticleS.l1] at H
           by_cases c20 : x7_3 < (x5_3.length : Int)
           ·rw [if_pos c20] at H
            have c20b0 := decide_eq_true c20; clear c20; replace H := Option.bind_eq_some_iff.mp H; obtain ⟨⟨t239, t240, t241, t242, t243, t244, t245, t246, t247⟩, A210, H⟩ := H; replace H : (if 0 ≤ x7_3 then (full_toArticleS.l1 k3 l0 (x5_3.set (x7_3 : Int).toNat (⟨t239, t240, t241, t242, t243, t244, t245, t246, t247⟩ : S92)) (wrap64 (x7_3 + 1))) else (none)) = some r := H; have A21 := am_ A210; clear A210
            by_cases c22 : 0 ≤ x7_3
            ·rw [if_pos c22] at H
             have c22b0 := decide_eq_true c22; clear c22; obtain ⟨y248, hy248⟩ : ∃ y_ : List (S92), y_ = (x5_3.set (x7_3 : Int).toNat (⟨t239, t240, t241, t242, t243, t244, t245, t246, t247⟩ : S92)) := ⟨_, rfl⟩
             (first | (rw [← hy248] at H; with_reducible replace H := bindZ H) | rw [← hy248] at H)
             have Ny248 := am_ hy248; clear hy248; have H' := am_ H; clear H; obtain ⟨Ao24, co24, eo24⟩ := Kd.R_slice HO_5.out; subst eo24
             go_wp2_with (first | ((with_reducible refine gate_callee (f := 121) rfl ?_); refine goesL_ (some 45) rfl rfl Try.func121 Zj rfl #[] rfl Zo ?_; (with_reducible refine (laws_fillerArticle.calls  t239 t240 t241 t242 t243 t244 t245 t246 t247 _ A21.out).mono ?_); rintro e w25 ⟨rfl, hb⟩; refine ⟨_, rfl, ?_⟩; replace HO_5 := am_ (Kd.R_below (have z0_ := HO_5; Zq) hb); replace HB := (bsZ Zd hb); (try clear hb); (try clear hb2); (try clear hk); (try clear hi); have p23 : 0 ≤ (x7_3 : Int) := of_decide_eq_true Zp; have q23 : (x7_3 : Int) < ((x5_3.length : Int) : Int) := of_decide_eq_true Zp; obtain ⟨go23, co23, eo23, gb23, gl23, cl23, HG23⟩ := Kd.R_form HO_5.out (by omega); (first | cases eo23 | (injection eo23 with ea_ en_ ec_; (first | subst ea_ | (injection ea_ with ea_; subst ea_)); subst ec_; clear en_)); have GB23 := am_ gb23; have GG23 := am_ HG23; clear gb23 gl23 HG23; obtain ⟨ce23, hcl23, hM23, hcc23, hfr23⟩ := Kd.R_elem HO_5.out z92 (x7_3 : Int) p23 q23; obtain rfl := k92_openM hM23; have hx23_0 : w25.cell? ⟨go23, (x7_3 : Int).toNat * 9, none⟩ = some (.string ((rd_T92 x5_3 x7_3).f0)) := hcc23 0 _ rfl; have hx23_1 : w25.cell? ⟨go23, (x7_3 : Int).toNat * 9 + 1, none⟩ = some (.int .i64 ((rd_T92 x5_3 x7_3).f1)) := hcc23 1 _ rfl; have hx23_2 : w25.cell? ⟨go23, (x7_3 : Int).toNat * 9 + 2, none⟩ = some (.int .i64 ((rd_T92 x5_3 x7_3).f2)) := hcc23 2 _ rfl; have hx23_3 : w25.cell? ⟨go23, (x7_3 : Int).toNat * 9 + 3, none⟩ = some (.int .i64 ((rd_T92 x5_3 x7_3).f3)) := hcc23 3 _ rfl; have hx23_4 : w25.cell? ⟨go23, (x7_3 : Int).toNat * 9 + 4, none⟩ = some (.int .i64 ((rd_T92 x5_3 x7_3).f4)) := hcc23 4 _ rfl; have hx23_5 : w25.cell? ⟨go23, (x7_3 : Int).toNat * 9 + 5, none⟩ = some (.int .i64 ((rd_T92 x5_3 x7_3).f5)) := hcc23 5 _ rfl; have hx23_6 : w25.cell? ⟨go23, (x7_3 : Int).toNat * 9 + 6, none⟩ = some (.int .i64 ((rd_T92 x5_3 x7_3).f6)) := hcc23 6 _ rfl; have hx23_7 : w25.cell? ⟨go23, (x7_3 : Int).toNat * 9 + 7, none⟩ = some (.int .i64 ((rd_T92 x5_3 x7_3).f7)) := hcc23 7 _ rfl; have hx23_8 : w25.cell? ⟨go23, (x7_3 : Int).toNat * 9 + 8, none⟩ = some (.int .i64 ((rd_T92 x5_3 x7_3).f8)) := hcc23 8 _ rfl; have hf23_0 : w25.frozen? ⟨go23, (x7_3 : Int).toNat * 9, none⟩ = false := hfr23 0; have hf23_1 := hfr23 1; have hf23_2 := hfr23 2; have hf23_3 := hfr23 3; have hf23_4 := hfr23 4; have hf23_5 := hfr23 5; have hf23_6 := hfr23 6; have hf23_7 := hfr23 7; have hf23_8 := hfr23 8; clear hcl23 hcc23 hfr23 hM23; replace p23 := eq_true p23; replace q23 := eq_true q23; have HX26 := am_ (show Kd.R k92 92 w25 w.heap.size (fun _ => True) (.slice (some ⟨go23, 0, none⟩) x5_3.length co24) x5_3 from (have z0_ := HO_5; Zq)); obtain ⟨ce26, hcl26, hM26, hcc26, hfr26⟩ := Kd.R_elem HX26.out z92 (x7_3 : Int) (of_decide_eq_true Zp) (by have h_ : (x7_3 : Int) < ((x5_3.length : Int) : Int) := of_decide_eq_true Zp; first | exact h_ | (have e_ := (Kd.R_reads' HO_5.out).1; omega) | simpa using h_); obtain rfl := k92_openM hM26; have HP26 := Kd.R_seg HX26.out (x7_3 : Int) (of_decide_eq_true Zp) (by have h_ : (x7_3 : Int) < ((x5_3.length : Int) : Int) := of_decide_eq_true Zp; first | exact h_ | (have e_ := (Kd.R_reads' HO_5.out).1; omega) | simpa using h_) (seg := [.string t239, .int .i64 t240, .int .i64 t241, .int .i64 t242, .int .i64 t243, .int .i64 t244, .int .i64 t245, .int .i64 t246, .int .i64 t247]) (j := 0) hcl26 hcc26 (show 9 ≤ 9 from by decide) (x' := (⟨t239, t240, t241, t242, t243, t244, t245, t246, t247⟩ : S92)) (k92_mkM _ _ _ (⟨t239, t240, t241, t242, t243, t244, t245, t246, t247⟩ : S92) ) (fun _ hk => hk); have hx26_0 := hcc26 0 _ rfl; (try simp only [show (k92).sz = 9 from rfl, Nat.mul_one, Nat.add_zero] at hx26_0); have hf26_0 := hfr26 0; (try simp only [show (k92).sz = 9 from rfl, Nat.mul_one, Nat.add_zero] at hf26_0); have hx26_1 := hcc26 1 _ rfl; (try simp only [show (k92).sz = 9 from rfl, Nat.mul_one, Nat.add_zero] at hx26_1); have hf26_1 := hfr26 1; (try simp only [show (k92).sz = 9 from rfl, Nat.mul_one, Nat.add_zero] at hf26_1); have hx26_2 := hcc26 2 _ rfl; (try simp only [show (k92).sz = 9 from rfl, Nat.mul_one, Nat.add_zero] at hx26_2); have hf26_2 := hfr26 2; (try simp only [show (k92).sz = 9 from rfl, Nat.mul_one, Nat.add_zero] at hf26_2); have hx26_3 := hcc26 3 _ rfl; (try simp only [show (k92).sz = 9 from rfl, Nat.mul_one, Nat.add_zero] at hx26_3); have hf26_3 := hfr26 3; (try simp only [show (k92).sz = 9 from rfl, Nat.mul_one, Nat.add_zero] at hf26_3); have hx26_4 := hcc26 4 _ rfl; (try simp only [show (k92).sz = 9 from rfl, Nat.mul_one, Nat.add_zero] at hx26_4); have hf26_4 := hfr26 4; (try simp only [show (k92).sz = 9 from rfl, Nat.mul_one, Nat.add_zero] at hf26_4); have hx26_5 := hcc26 5 _ rfl; (try simp only [show (k92).sz = 9 from rfl, Nat.mul_one, Nat.add_zero] at hx26_5); have hf26_5 := hfr26 5; (try simp only [show (k92).sz = 9 from rfl, Nat.mul_one, Nat.add_zero] at hf26_5); have hx26_6 := hcc26 6 _ rfl; (try simp only [show (k92).sz = 9 from rfl, Nat.mul_one, Nat.add_zero] at hx26_6); have hf26_6 := hfr26 6; (try simp only [show (k92).sz = 9 from rfl, Nat.mul_one, Nat.add_zero] at hf26_6); have hx26_7 := hcc26 7 _ rfl; (try simp only [show (k92).sz = 9 from rfl, Nat.mul_one, Nat.add_zero] at hx26_7); have hf26_7 := hfr26 7; (try simp only [show (k92).sz = 9 from rfl, Nat.mul_one, Nat.add_zero] at hf26_7); have hx26_8 := hcc26 8 _ rfl; (try simp only [show (k92).sz = 9 from rfl, Nat.mul_one, Nat.add_zero] at hx26_8); have hf26_8 := hfr26 8; (try simp only [show (k92).sz = 9 from rfl, Nat.mul_one, Nat.add_zero] at hf26_8); clear hcl26 hcc26 hfr26 hM26) | ((with_reducible refine gate_store (t := 92) (p := 46) rfl ?_); refine store_event (t := 92) (p := 46) (v := ?vo_w27) (w1 := (((((((((w25.setCell ⟨go23, (x7_3 : Int).toNat * 9, none⟩ (.string t239)).setCell ⟨go23, (x7_3 : Int).toNat * 9 + 1, none⟩ (.int .i64 t240)).setCell ⟨go23, (x7_3 : Int).toNat * 9 + 2, none⟩ (.int .i64 t241)).setCell ⟨go23, (x7_3 : Int).toNat * 9 + 3, none⟩ (.int .i64 t242)).setCell ⟨go23, (x7_3 : Int).toNat * 9 + 4, none⟩ (.int .i64 t243)).setCell ⟨go23, (x7_3 : Int).toNat * 9 + 5, none⟩ (.int .i64 t244)).setCell ⟨go23, (x7_3 : Int).toNat * 9 + 6, none⟩ (.int .i64 t245)).setCell ⟨go23, (x7_3 : Int).toNat * 9 + 7, none⟩ (.int .i64 t246)).setCell ⟨go23, (x7_3 : Int).toNat * 9 + 8, none⟩ (.int .i64 t247))) ?hg ?ho ?hn ?hr ?_; (case ho => rfl); (case hg => rfl); (case hn => rfl); (case hr => first | (go_simp; done) | (go_simp; rfl)); intro w27 hw; have hg : w25.grownBy w27 (some go23) := (by rw [hw]; exact HP26.2); have hp_ : Kd.R k92 92 w27 w.heap.size (fun _ => True) (.slice (some ⟨go23, 0, none⟩) x5_3.length co24) y248 := (by rw [hw, Ny248.out]; exact HP26.1); clear HP26; replace HO_5 := am_ (hp_); replace HB := am_ (((have z0_ := GB23; Zz) : Below w.heap.size w w27)); clear hg hw hp_))
             go_roundg k3
             case measure => have := HJ2.out; have := HK2.out; have := HK3.out; omega
             case rel => exact ⟨(y248), (wrap64 (x7_3 + 1)), Za, H', ⟨Zr⟩, ⟨(have z0_ := HO_5; Zq)⟩, ⟨Zd⟩⟩
            ·rw [if_neg c22] at H
             exact absurd H (by simp)
           ·rw [if_neg c20] at H
            have c20b0 := decide_eq_false c20; clear c20
            by_cases c28 : 0 ≤ (l0.length : Int)
            ·rw [if_pos c28] at H
             have c28b0 := eq_true c28; have c28b1 := decide_eq_true c28; clear c28
             by_cases c29 : (l0.length : Int) ≤ (x5_3.length : Int)
             ·rw [if_pos c29] at H
              have c29b0 := eq_true c29; have c29b1 := decide_eq_true c29; clear c29; have HE_ := am_ (Option.some.inj H); clear H; obtain ⟨Ao30, co30, eo30⟩ := Kd.R_slice HO_5.out; subst eo30; have q31 : ((l0.length : Int) : Int) ≤ ((x5_3.length : Int) : Int) := of_decide_eq_true Zp; obtain ⟨i031, hi031, _, hsz31, _⟩ := info_parts info92; have hcut31 := cut_to (P := Try.prog) 29 92 .i64 Try.underlying29 hi031 Ao30 x5_3.length co30 (l0.length : Int) (of_decide_eq_true Zp) q31 (Kd.R_reads' HO_5.out).2.1; have hz_ : ((l0.length : Int) : Int).toNat = l0.length := Int.toNat_natCast _; rw [hz_] at hcut31; clear hi031 hsz31 hz_; have HL_ := am_ (show l0.length ≤ x5_3.length by omega); replace q31 := eq_true q31
              go_wp2
              go_ret
              exact ⟨_, rfl, (fun _ => ⟨_, _, rfl, (by rw [← HE_.out]; exact HL_.out), (by rw [← HE_.out]; (with_reducible repeat (first | apply Kd.R_alloc | apply Kd.R_drewN | apply Kd.R_drew)); exact HO_5.out)⟩), Zd⟩
             ·rw [if_neg c29] at H
              exact absurd H (by simp)
            ·rw [if_neg c28] at H
             exact absurd H (by simp)
     ·rw [if_neg c9] at H
      exact absurd H (by simp)
    ·rw [if_neg c8] at H
     exact absurd H (by simp)
def T_intactArticleS : Bool × List (List Nat × List Nat) := (true, [([], []), ([0], [0]), ([], []), ([2], [2]), ([1, 3], [1, 3]), ([4], [4]), ([5], [5]), ([5], [5]), ([6, 7, 5], [5, 6, 7]), ([5], [5]), ([5], [5]), ([9, 10, 5], [5, 9, 10]), ([8, 11, 5, 5], [5, 8, 11]), ([5, 12], [5, 12]), ([13, 12, 0, 1, 2, 3, 4, 5, 6, 7, 8, 9, 10, 11, 12, 13], [13])])
def B_intactArticleS : List Nat := [0, 1, 0, 4, 15, 31, 63, 63, 255, 63, 63, 1599, 4095, 8191, 16383]
theorem tab_intactArticleS : rtab .any (opsOf Try.f79 2) = T_intactArticleS := by kernel_rfl
theorem bits_intactArticleS : waitsOk T_intactArticleS.2 B_intactArticleS = true := by kernel_rfl
set_option maxHeartbeats 8000000 in
set_option maxRecDepth 100000 in
theorem same_intactArticleS (k n : Nat) (A0 : Option Addr) (c0 : Nat) (A1 : Option Addr) (c1 : Nat) (L : List S92) (t : Int) (w : World) (hr0 : Kd.C k92 w A0 L.length L) (hc0 : L.length ≤ c0) (hr1 : Kd.C k92 w A1 L.length L) (hc1 : L.length ≤ c1)
    (ht : laws_roomBehind.f (n : Int) = some t) (hj : wrap64 ((n : Int) + t) = (L.length : Int)) (he : laws_eqArticleS.f k L L = some true) :
    Calls Try.prog 79 #[.slice A0 n c0, .slice A1 n c1] w fun e w' => e = .returned (.bool true) ∧ Below w.heap.size w w' := by
  have HR0 := am_ hr0; have HC0 := am_ hc0; clear hr0 hc0; have HR1 := am_ hr1; have HC1 := am_ hc1; clear hr1 hc1; have HB := am_ (Below.refl w.heap.size w); have A3 := am_ ht; have A10 := am_ he; clear ht he; obtain ⟨ji5, hji⟩ : ∃ j_ : Int, (L.length : Int) = j_ := ⟨_, rfl⟩; rw [hji] at hj; have hji5w : (IntKind.i64.wrap ((n : Int) + t)) = ji5 := (i64_w _).trans hj; have hji5 := hj; clear hj; obtain ⟨i012, hi012, _, hsz12, _⟩ := info_parts info92; have hcut12 := cut_cap (P := Try.prog) 29 92 .i64 Try.underlying29 hi012 A0 n c0 ji5 (by omega) (by have := HC0.out; omega); have hcut13 := cut_cap (P := Try.prog) 29 92 .i64 Try.underlying29 hi012 A1 n c1 ji5 (by omega) (by have := HC1.out; omega)
  have hL : ji5.toNat = L.length := by omega
  rw [hL] at hcut12 hcut13; clear hL hi012 hsz12 hji
  go_enter Try.func79, Try.ntmps79
  go_wp2_with (first | ((with_reducible refine gate_callee (f := 117) rfl ?_); refine goesL_ (some 10) rfl rfl Try.func117 Zj rfl #[.int .i64 (n : Int)] rfl Zo ?_; (with_reducible refine (laws_roomBehind.calls (n : Int) t _ A3.out).mono ?_); rintro e w' ⟨rfl, ⟨nd, rfl⟩⟩; refine ⟨_, rfl, ?_⟩))
  replace HB := am_ (below_drew1 (pw_below_drewN HB.out nd)); refine start_ (n := 15) (S := fun w' => True) (ds := []) (bT 15 0) Zj rfl rfl trivial (fun hHeld => ?_); refine with_tabW tab_intactArticleS bits_intactArticleS (fun HT_ HW_ => ?_); generalize (w.drewN nd).drew = w11 at HB hHeld ⊢; refine pure_ (i := 0) (N := some 12) (v := ?_) (a' := ?_) (bT 15 1) rfl rfl (any_of HT_.out Zj) (fun _ _ _ h => h) (Or.inl ⟨by rfl, ?_⟩) ?_ ?_; rotate_left
  · intro w'
    go_simp
    with_reducible rfl
  rotate_left
  · simp only [Act.put, List.setIfInBounds_toArray, List.set_cons_zero, List.set_cons_succ, i64_w, i32_w]
    rfl
  refine pure_ (i := 1) (N := some 13) (v := ?_) (a' := ?_) (bT 15 2) rfl rfl (any_of HT_.out Zj) (fun _ _ _ h => h) (Or.inl ⟨by rfl, ?_⟩) ?_ ?_; rotate_left
  · intro w'
    go_simp
    with_reducible rfl
  rotate_left
  · simp only [Act.put, List.setIfInBounds_toArray, List.set_cons_zero, List.set_cons_succ, i64_w, i32_w]
    rfl
  refine pure_ (i := 2) (N := some 14) (v := ?_) (a' := ?_) (bT 15 3) rfl rfl (any_of HT_.out Zj) (fun _ _ _ h => h) (Or.inl ⟨by rfl, ?_⟩) ?_ ?_; rotate_left
  · intro w'
    go_simp
    with_reducible rfl
  rotate_left
  · simp only [Act.put, List.setIfInBounds_toArray, List.set_cons_zero, List.set_cons_succ, i64_w, i32_w]
    rfl
  refine pure_ (i := 3) (N := some 15) (v := ?_) (a' := ?_) (bT 15 4) rfl rfl (any_of HT_.out Zj) (fun _ _ _ h => h) (Or.inl ⟨by rfl, ?_⟩) ?_ ?_; rotate_left
  · intro w'
    go_simp
    with_reducible rfl
  rotate_left
  · simp only [Act.put, List.setIfInBounds_toArray, List.set_cons_zero, List.set_cons_succ, i64_w, i32_w]
    rfl
  refine pure_ (i := 4) (N := some 16) (v := ?_) (a' := ?_) (bT 15 5) rfl rfl (any_of HT_.out Zj) (fun _ _ _ h => h) (Or.inl ⟨by rfl, ?_⟩) ?_ ?_; rotate_left
  · intro w'
    go_simp
    with_reducible rfl
  rotate_left
  · simp only [Act.put, List.setIfInBounds_toArray, List.set_cons_zero, List.set_cons_succ, i64_w, i32_w]
    rfl
  refine pure_ (i := 5) (N := some 17) (v := ?_) (a' := ?_) (bT 15 6) rfl rfl (any_of HT_.out Zj) (fun _ _ _ h => h) (Or.inl ⟨by rfl, ?_⟩) ?_ ?_; rotate_left
  · intro w'
    go_simp
    with_reducible rfl
  rotate_left
  · simp only [Act.put, List.setIfInBounds_toArray, List.set_cons_zero, List.set_cons_succ, i64_w, i32_w]
    rfl
  refine pure_ (i := 6) (N := some 18) (v := ?_) (a' := ?_) (bT 15 7) rfl rfl (any_of HT_.out Zj) (fun _ _ _ h => h) (Or.inl ⟨by rfl, ?_⟩) ?_ ?_; rotate_left
  · intro w'
    go_simp
    with_reducible rfl
  rotate_left
  · simp only [Act.put, List.setIfInBounds_toArray, List.set_cons_zero, List.set_cons_succ, i64_w, i32_w]
    rfl
  refine pure_ (i := 7) (N := some 19) (v := ?_) (a' := ?_) (bT 15 8) rfl rfl (any_of HT_.out Zj) (fun _ _ _ h => h) (Or.inl ⟨by rfl, ?_⟩) ?_ ?_; rotate_left
  · intro w'
    go_simp
    with_reducible rfl
  rotate_left
  · simp only [Act.put, List.setIfInBounds_toArray, List.set_cons_zero, List.set_cons_succ, i64_w, i32_w]
    rfl
  refine pure_ (i := 8) (N := some 20) (v := ?_) (a' := ?_) (bT 15 9) rfl rfl (any_of HT_.out Zj) (fun _ _ _ h => h) (Or.inl ⟨by rfl, ?_⟩) ?_ ?_; rotate_left
  · intro w'
    go_simp
    with_reducible rfl
  rotate_left
  · simp only [Act.put, List.setIfInBounds_toArray, List.set_cons_zero, List.set_cons_succ, i64_w, i32_w]
    rfl
  refine pure_ (i := 9) (N := some 21) (v := ?_) (a' := ?_) (bT 15 10) rfl rfl (any_of HT_.out Zj) (fun _ _ _ h => h) (Or.inl ⟨by rfl, ?_⟩) ?_ ?_; rotate_left
  · intro w'
    go_simp
    with_reducible rfl
  rotate_left
  · simp only [Act.put, List.setIfInBounds_toArray, List.set_cons_zero, List.set_cons_succ, i64_w, i32_w]
    rfl
  refine pure_ (i := 10) (N := some 22) (v := ?_) (a' := ?_) (bT 15 11) rfl rfl (any_of HT_.out Zj) (fun _ _ _ h => h) (Or.inl ⟨by rfl, ?_⟩) ?_ ?_; rotate_left
  · intro w'
    go_simp
    with_reducible rfl
  rotate_left
  · simp only [Act.put, List.setIfInBounds_toArray, List.set_cons_zero, List.set_cons_succ, i64_w, i32_w]
    rfl
  refine pure_ (i := 11) (N := some 23) (v := ?_) (a' := ?_) (bT 15 12) rfl rfl (any_of HT_.out Zj) (fun _ _ _ h => h) (Or.inl ⟨by rfl, ?_⟩) ?_ ?_; rotate_left
  · intro w'
    go_simp
    with_reducible rfl
  rotate_left
  · simp only [Act.put, List.setIfInBounds_toArray, List.set_cons_zero, List.set_cons_succ, i64_w, i32_w]
    rfl
  refine one_ (i := 12) (N := some 24) (bT 15 13) rfl rfl (one_of HT_.out Zj) (by decide) (fun K hK => ?_); refine goes_ Try.func76 Zj rfl #[.slice A0 L.length c0, .slice A1 L.length c1] (by rfl) rfl rfl (by (try simp only [List.map_toArray, List.map_cons, List.map_nil]); first | done | rfl) ?_
  with_reducible refine (laws_eqArticleS.calls k _ _ L _ _ L true _ (Kd.C_below HR0.out HB.out) HC0.out (Kd.C_below HR1.out HB.out) HC1.out A10.out).mono ?_
  rintro e w14 ⟨rfl, hb⟩; refine ⟨_, rfl, ?_⟩; replace HB := (bsZ HB.out hb); clear hb; refine hK.out _ _ trivial (fun hHeld => ?_); clear hK K; refine normZ 24 ?_; refine pure_ (i := 13) (N := some 25) (v := ?_) (a' := ?_) (bT 15 14) rfl rfl (any_of HT_.out Zj) (fun _ _ _ h => h) (Or.inl ⟨by rfl, ?_⟩) ?_ ?_; rotate_left
  · intro w'
    go_simp
    with_reducible rfl
  rotate_left
  · simp only [Act.put, List.setIfInBounds_toArray, List.set_cons_zero, List.set_cons_succ, i64_w, i32_w]
    rfl
  refine pure_ (i := 14) (N := some 4) (v := ?_) (a' := ?_) (bT 15 15) rfl rfl (any_of HT_.out Zj) (fun _ _ _ h => h) (Or.inl ⟨by rfl, ?_⟩) ?_ ?_; rotate_left
  · intro w'
    go_simp
    with_reducible rfl
  rotate_left
  · simp only [Act.put, List.setIfInBounds_toArray, List.set_cons_zero, List.set_cons_succ, i64_w, i32_w]
    rfl
  refine done_ (done_of HT_.out Zj) ?_
  try go_wp2
  go_ret
  exact ⟨rfl, HB.out⟩
theorem one105 : Try.prog.cellsOf 2 = 1 := by kernel_rfl
theorem ones105 : Try.prog.cellsOf 9 = 1 := by kernel_rfl
theorem size105 : Try.prog.cellsOf 105 = 9 := by kernel_rfl
def Pr105 (x : S105) : Prop := x.f0.size ≤ maxLen ∧ I64 x.f1 ∧ I64 x.f2 ∧ I64 x.f3 ∧ I64 x.f4 ∧ I64 x.f5 ∧ I64 x.f6 ∧ I64 x.f7 ∧ I64 x.f8
theorem open_S105 {H : Type} {enc : TypeId × Value → H} {W : World} {base : Nat} {sp : Nat → Bool} {held : Bool} {fuel : Nat} {cs : List Value} {y : DataW H × List MemPlace} (h : DataW.trod enc Try.prog W base sp held fuel 105 cs = some y) (w : World) : ∃ a : S105, k105.K w a cs ∧ Pr105 a := by
  obtain ⟨xs, n, _, rfl, hl, hlen, hf⟩ := DataW.trod_struct Try.underlying105 h; rw [size105] at hl; obtain ⟨v0, e0, _, w0⟩ := DataW.trod_string Try.underlying9 ((hf 0 _ rfl).trans (List.getElem?_eq_getElem Zw)); have g0 : cs[0]? = some (.string v0) := one_cell (by have z : List.take (Try.prog.cellsOf 9) (List.drop 0 cs) = [.string v0] := e0; rw [ones105] at z; exact z); obtain ⟨v1, e1, _, w1⟩ := DataW.trod_int Try.underlying2 ((hf 1 _ rfl).trans (List.getElem?_eq_getElem Zw)); have g1 : cs[1]? = some (.int .i64 v1) := one_cell (by have z : List.take (Try.prog.cellsOf 2) (List.drop 1 cs) = [.int .i64 v1] := e1; rw [one105] at z; exact z); obtain ⟨v2, e2, _, w2⟩ := DataW.trod_int Try.underlying2 ((hf 2 _ rfl).trans (List.getElem?_eq_getElem Zw)); have g2 : cs[2]? = some (.int .i64 v2) := one_cell (by have z : List.take (Try.prog.cellsOf 2) (List.drop 2 cs) = [.int .i64 v2] := e2; rw [one105] at z; exact z); obtain ⟨v3, e3, _, w3⟩ := DataW.trod_int Try.underlying2 ((hf 3 _ rfl).trans (List.getElem?_eq_getElem Zw)); have g3 : cs[3]? = some (.int .i64 v3) := one_cell (by have z : List.take (Try.prog.cellsOf 2) (List.drop 3 cs) = [.int .i64 v3] := e3; rw [one105] at z; exact z); obtain ⟨v4, e4, _, w4⟩ := DataW.trod_int Try.underlying2 ((hf 4 _ rfl).trans (List.getElem?_eq_getElem Zw)); have g4 : cs[4]? = some (.int .i64 v4) := one_cell (by have z : List.take (Try.prog.cellsOf 2) (List.drop 4 cs) = [.int .i64 v4] := e4; rw [one105] at z; exact z); obtain ⟨v5, e5, _, w5⟩ := DataW.trod_int Try.underlying2 ((hf 5 _ rfl).trans (List.getElem?_eq_getElem Zw)); have g5 : cs[5]? = some (.int .i64 v5) := one_cell (by have z : List.take (Try.prog.cellsOf 2) (List.drop 5 cs) = [.int .i64 v5] := e5; rw [one105] at z; exact z); obtain ⟨v6, e6, _, w6⟩ := DataW.trod_int Try.underlying2 ((hf 6 _ rfl).trans (List.getElem?_eq_getElem Zw)); have g6 : cs[6]? = some (.int .i64 v6) := one_cell (by have z : List.take (Try.prog.cellsOf 2) (List.drop 6 cs) = [.int .i64 v6] := e6; rw [one105] at z; exact z); obtain ⟨v7, e7, _, w7⟩ := DataW.trod_int Try.underlying2 ((hf 7 _ rfl).trans (List.getElem?_eq_getElem Zw)); have g7 : cs[7]? = some (.int .i64 v7) := one_cell (by have z : List.take (Try.prog.cellsOf 2) (List.drop 7 cs) = [.int .i64 v7] := e7; rw [one105] at z; exact z); obtain ⟨v8, e8, _, w8⟩ := DataW.trod_int Try.underlying2 ((hf 8 _ rfl).trans (List.getElem?_eq_getElem Zw)); have g8 : cs[8]? = some (.int .i64 v8) := one_cell (by have z : List.take (Try.prog.cellsOf 2) (List.drop 8 cs) = [.int .i64 v8] := e8; rw [one105] at z; exact z)
  have hcs : cs = [.string v0, .int .i64 v1, .int .i64 v2, .int .i64 v3, .int .i64 v4, .int .i64 v5, .int .i64 v6, .int .i64 v7, .int .i64 v8] := by
    apply List.ext_getElem?
    intro i
    match i with
    | 0 => exact g0
    | 1 => exact g1
    | 2 => exact g2
    | 3 => exact g3
    | 4 => exact g4
    | 5 => exact g5
    | 6 => exact g6
    | 7 => exact g7
    | 8 => exact g8
    | i + 9 => rw [List.getElem?_eq_none (by omega)]; rfl
  subst hcs; exact ⟨⟨v0, v1, v2, v3, v4, v5, v6, v7, v8⟩, k105_mk w _, w0, I64_of w1, I64_of w2, I64_of w3, I64_of w4, I64_of w5, I64_of w6, I64_of w7, I64_of w8⟩
end Go.Proofs.Ytnlbaflbhicooaa.F
namespace Go.Proofs.Ytnlbaflbhicooaa.F
open Go.RowKit Go.Proofs.YtnlbaflbhicooaaW.PrintWords Go.Proofs.YtnlbaflbhicooaaW.PrintLast Go.Proofs.YtnlbaflbhicooaaW.PrintMore
attribute [local go_sem] max2_int min2_int max_two min_two max_three min_three max_four min_four
set_option linter.unusedVariables false
set_option linter.unusedSimpArgs false
def laws_szCue.f (a0_0 : Int) (a0_1 : Int) (a0_2 : ByteArray) (a0_3 : Int) (a1 : Int) : Option (Int) := if (wrap64 (a1 - (a0_2.size : Int))) < 0 then (some (-1)) else (some (wrap64 (a1 - (a0_2.size : Int))))
set_option maxHeartbeats 8000000 in
set_option maxRecDepth 100000 in
theorem laws_szCue.calls (a0_0 : Int) (a0_1 : Int) (a0_2 : ByteArray) (a0_3 : Int) (a1 : Int) (r : Int) (w : World) (h : laws_szCue.f a0_0 a0_1 a0_2 a0_3 a1 = some r) :
  Calls Try.prog 27 #[.agg #[.int .i64 a0_0, .int .i64 a0_1, .string a0_2, .int .i64 a0_3], .int .i64 a1] w fun e w' => e = .returned (.int .i64 r) ∧ Below w.heap.size w w' := by
 have hu40 := Try.underlying40; have HB := am_ (Below.refl w.heap.size w); have H : (if (wrap64 (a1 - (a0_2.size : Int))) < 0 then (some (-1)) else (some (wrap64 (a1 - (a0_2.size : Int))))) = some r := h; clear h
 by_cases c3 : (wrap64 (a1 - (a0_2.size : Int))) < 0
 ·rw [if_pos c3] at H
  have c3b0 := decide_eq_true c3; clear c3; obtain rfl := Option.some.inj H
  go_enter Try.func27, Try.ntmps27
  go_wp2_with (first | ((with_reducible refine gate_dst (N := 2) rfl ?_); refine boxZ 2 #[.int .i64 a0_0, .int .i64 a0_1, .string a0_2, .int .i64 a0_3] 40 ?_; intro gb104 hg w4 hbox hb; replace BK104 := am_ (hbox); replace GW104 := am_ ((Zc : w.heap.size ≤ gb104)); replace GE104 := GW104; replace HB := (bsZ Zd hb); clear hb hbox hg; refine ci4 BK104 ?_; intros))
  go_ret
  exact ⟨Zk, (have z0_ := GE104; Zf)⟩
 ·rw [if_neg c3] at H
  have c3b0 := decide_eq_false c3; clear c3; obtain rfl := Option.some.inj H
  go_enter Try.func27, Try.ntmps27
  go_wp2_with (first | ((with_reducible refine gate_dst (N := 2) rfl ?_); refine boxZ 2 #[.int .i64 a0_0, .int .i64 a0_1, .string a0_2, .int .i64 a0_3] 40 ?_; intro gb104 hg w6 hbox hb; replace BK104 := am_ (hbox); replace GW104 := am_ ((Zc : w.heap.size ≤ gb104)); replace GE104 := GW104; replace HB := (bsZ Zd hb); clear hb hbox hg; refine ci4 BK104 ?_; intros))
  go_ret
  exact ⟨Zk, (have z0_ := GE104; Zf)⟩
def laws_szCueS.l0 : Nat → List (S40) → Int → Int → Option (Int)
 | 0, _, _, _ => none
 | k + 1, x0, x1, x5 => if x5 < (x0.length : Int) then (if 0 ≤ x5 then ((laws_szCue.f ((rd_T40 x0 x5).f0) ((rd_T40 x0 x5).f1) ((rd_T40 x0 x5).f2) ((rd_T40 x0 x5).f3) x1).bind fun t106 => (if t106 < 0 then (some (-1)) else (laws_szCueS.l0 k x0 t106 (wrap64 (x5 + 1))))) else (none)) else (some x1)
def laws_szCueS.f (k : Nat) (l0 : List (S40)) (a1 : Int) : Option (Int) := if (wrap64 (a1 - (l0.length : Int))) < 0 then (some (-1)) else (laws_szCueS.l0 k l0 (wrap64 (a1 - (l0.length : Int))) 0)
set_option maxHeartbeats 8000000 in
set_option maxRecDepth 100000 in
theorem laws_szCueS.calls (k : Nat) (A0 : Option Addr) (c0 : Nat) (l0 : List (S40)) (a1 : Int) (r : Int) (w : World) (hr0 : Kd.C k40 w A0 l0.length l0) (hc0 : l0.length ≤ c0) (h : laws_szCueS.f k l0 a1 = some r) :
  Calls Try.prog 67 #[.slice A0 l0.length c0, .int .i64 a1] w fun e w' => e = .returned (.int .i64 r) ∧ Below w.heap.size w w' := by
 have hu40 := Try.underlying40; have HR0 := am_ hr0; have HC0 := am_ hc0; clear hr0 hc0; have HB := am_ (Below.refl w.heap.size w); have H : (if (wrap64 (a1 - (l0.length : Int))) < 0 then (some (-1)) else (laws_szCueS.l0 k l0 (wrap64 (a1 - (l0.length : Int))) 0)) = some r := h; clear h
 by_cases c3 : (wrap64 (a1 - (l0.length : Int))) < 0
 ·rw [if_pos c3] at H
  have c3b0 := decide_eq_true c3; clear c3; obtain rfl := Option.some.inj H
  go_enter Try.func67, Try.ntmps67
  go_wp2
  go_ret
  exact ⟨Zk, Zd⟩
 ·rw [if_neg c3] at H
  have c3b0 := decide_eq_false c3; clear c3; have H' := am_ H; clear H
  go_enter Try.func67, Try.ntmps67
  go_wp2
  go_loopg [1, 5] k (fun kq v1 v5 w' => ∃ (x1_1 : Int) (x5_1 : Int), v1 = .int .i64 x1_1 ∧ v5 = .int .i64 x5_1 ∧ Aside0 (laws_szCueS.l0 kq l0 x1_1 x5_1 = some r) ∧ Aside0 (kq ≤ k) ∧ Aside0 (Below w.heap.size w w'))
  case atStart => exact ⟨(wrap64 (a1 - (l0.length : Int))), (0), Za, Za, H', ⟨Nat.le_refl _⟩, ⟨Zd⟩⟩
  case round =>
   clear H'
   try clear p2
   try clear c3
   try clear c3b0
   obtain ⟨x1_1, x5_1, rfl, rfl, HA, HK1, HB⟩ := hrel
   cases gk with
   | zero => exact absurd HA.out (by simp [laws_szCueS.l0])
   | succ k1 =>
    have H := HA.out; clear HA; simp only [laws_szCueS.l0] at H
    by_cases c4 : x5_1 < (l0.length : Int)
    ·rw [if_pos c4] at H
     have c4b0 := decide_eq_true c4; clear c4
     by_cases c5 : 0 ≤ x5_1
     ·rw [if_pos c5] at H
      have c5b0 := decide_eq_true c5; clear c5; replace H := Option.bind_eq_some_iff.mp H; obtain ⟨t106, A60, H⟩ := H; have A6 := am_ A60; clear A60
      by_cases c7 : t106 < 0
      ·rw [if_pos c7] at H
       have c7b0 := decide_eq_true c7; clear c7; obtain rfl := Option.some.inj H; have p105 : 0 ≤ (x5_1 : Int) := of_decide_eq_true Zp; have q105 : x5_1 < (l0.length : Int) := of_decide_eq_true Zp; obtain ⟨ad105, e105, hx105_0, hx105_1, hx105_2, hx105_3⟩ := at_T40 HR0.out x5_1 p105 q105
       cases e105
       replace hx105_0 := cbH HB hx105_0; replace hx105_1 := cbH HB hx105_1; replace hx105_2 := cbH HB hx105_2; replace hx105_3 := cbH HB hx105_3; replace p105 := eq_true p105; replace q105 := eq_true q105
       go_wp2_with (first | ((with_reducible refine gate_callee (f := 27) rfl ?_); refine goesL_ (some 23) rfl rfl Try.func27 Zj rfl #[.agg #[.int .i64 ((rd_T40 l0 x5_1).f0), .int .i64 ((rd_T40 l0 x5_1).f1), .string ((rd_T40 l0 x5_1).f2), .int .i64 ((rd_T40 l0 x5_1).f3)], .int .i64 x1_1] rfl Zo ?_; (with_reducible refine (laws_szCue.calls ((rd_T40 l0 x5_1).f0) ((rd_T40 l0 x5_1).f1) ((rd_T40 l0 x5_1).f2) ((rd_T40 l0 x5_1).f3) x1_1 t106 _ A6.out).mono ?_); rintro e w8 ⟨rfl, hb⟩; refine ⟨_, rfl, ?_⟩; replace HB := (bsZ Zd hb); (try clear hb); (try clear hb2); (try clear hk); (try clear hi)))
       go_ret
       exact ⟨Zk, Zd⟩
      ·rw [if_neg c7] at H
       have c7b0 := decide_eq_false c7; clear c7; have H' := am_ H; clear H; have p105 : 0 ≤ (x5_1 : Int) := of_decide_eq_true Zp; have q105 : x5_1 < (l0.length : Int) := of_decide_eq_true Zp; obtain ⟨ad105, e105, hx105_0, hx105_1, hx105_2, hx105_3⟩ := at_T40 HR0.out x5_1 p105 q105
       cases e105
       replace hx105_0 := cbH HB hx105_0; replace hx105_1 := cbH HB hx105_1; replace hx105_2 := cbH HB hx105_2; replace hx105_3 := cbH HB hx105_3; replace p105 := eq_true p105; replace q105 := eq_true q105
       go_wp2_with (first | ((with_reducible refine gate_callee (f := 27) rfl ?_); refine goesL_ (some 23) rfl rfl Try.func27 Zj rfl #[.agg #[.int .i64 ((rd_T40 l0 x5_1).f0), .int .i64 ((rd_T40 l0 x5_1).f1), .string ((rd_T40 l0 x5_1).f2), .int .i64 ((rd_T40 l0 x5_1).f3)], .int .i64 x1_1] rfl Zo ?_; (with_reducible refine (laws_szCue.calls ((rd_T40 l0 x5_1).f0) ((rd_T40 l0 x5_1).f1) ((rd_T40 l0 x5_1).f2) ((rd_T40 l0 x5_1).f3) x1_1 t106 _ A6.out).mono ?_); rintro e w9 ⟨rfl, hb⟩; refine ⟨_, rfl, ?_⟩; replace HB := (bsZ Zd hb); (try clear hb); (try clear hb2); (try clear hk); (try clear hi)))
       go_roundg k1
       case measure => have := HK1.out; omega
       case rel => exact ⟨(t106), (wrap64 (x5_1 + 1)), Za, Za, H', ⟨Zt⟩, ⟨Zd⟩⟩
     ·rw [if_neg c5] at H
      exact absurd H (by simp)
    ·rw [if_neg c4] at H
     have c4b0 := decide_eq_false c4; clear c4; obtain rfl := Option.some.inj H
     go_wp2
     go_ret
     exact ⟨Zk, Zd⟩
def laws_toCue.f (a0_0 : Int) (a0_1 : Int) (a0_2 : ByteArray) (a0_3 : Int) : Option (Int × Int × ByteArray × Int) := some (a0_0, a0_1, a0_2, a0_3)
set_option maxHeartbeats 8000000 in
set_option maxRecDepth 100000 in
theorem laws_toCue.calls (a0_0 : Int) (a0_1 : Int) (a0_2 : ByteArray) (a0_3 : Int) (r1 : Int) (r2 : Int) (r3 : ByteArray) (r4 : Int) (w : World) (h : laws_toCue.f a0_0 a0_1 a0_2 a0_3 = some (r1, r2, r3, r4)) :
  Calls Try.prog 29 #[.agg #[.int .i64 a0_0, .int .i64 a0_1, .string a0_2, .int .i64 a0_3]] w fun e w' => e = .returned (.agg #[.int .i64 r1, .int .i64 r2, .string r3, .int .i64 r4]) ∧ Below w.heap.size w w' := by
 have hu40 := Try.underlying40; have hu43 := Try.underlying43; have HB := am_ (Below.refl w.heap.size w); have H : (some (a0_0, a0_1, a0_2, a0_3)) = some (r1, r2, r3, r4) := h; clear h; simp only [Option.some.injEq, Prod.mk.injEq] at H; obtain ⟨rfl, rfl, rfl, rfl⟩ := H
 go_enter Try.func29, Try.ntmps29
 go_wp2_with (first | ((with_reducible refine gate_dst (N := 1) rfl ?_); refine boxZ 1 #[.int .i64 a0_0, .int .i64 a0_1, .string a0_2, .int .i64 a0_3] 40 ?_; intro gb252 hg w2 hbox hb; replace BK252 := am_ (hbox); replace GW252 := am_ ((Zc : w.heap.size ≤ gb252)); replace GE252 := GW252; replace HB := (bsZ Zd hb); clear hb hbox hg) | ((with_reducible refine gate_dst (N := 2) rfl ?_); refine boxZ 2 #[.int .i64 0, .int .i64 0, .string (⟨#[]⟩ : ByteArray), .int .i64 0] 43 ?_; intro gb253 hg w3 hbox hb; replace BK253 := am_ (hbox); replace GW253 := am_ (((have z0_ := GE252; Ze) : w.heap.size ≤ gb253)); replace GE253 := GW253; replace HB := (bsZ (have z0_ := GE252; Zf) hb); replace NB252_253 := am_ (((have z0_ := BK252; Zab) : gb252 ≠ gb253)); replace NB253_252 := am_ (((have z0_ := BK252; Zac) : gb253 ≠ gb252)); replace BK252 := (have z0_ := BK252; bkZ hb); clear hb hbox hg) | ((with_reducible refine gate_dst (N := 3) rfl ?_); refine boxZ 3 #[.int .i64 0, .int .i64 0, .string (⟨#[]⟩ : ByteArray), .int .i64 0] 43 ?_; intro gb254 hg w4 hbox hb; replace BK254 := am_ (hbox); replace GW254 := am_ (((have z0_ := GE252; have z1_ := GE253; Zh) : w.heap.size ≤ gb254)); replace GE254 := GW254; replace HB := (bsZ (have z0_ := GE252; have z1_ := GE253; Zi) hb); replace NB252_254 := am_ (((have z0_ := BK252; Zab) : gb252 ≠ gb254)); replace NB254_252 := am_ (((have z0_ := BK252; Zac) : gb254 ≠ gb252)); replace BK252 := (have z0_ := BK252; bkZ hb); replace NB253_254 := am_ ((by rw [hg]; exact Nat.ne_of_lt (blk_lt (g := gb253) (o := .cells #[.int .i64 0, .int .i64 0, .string (⟨#[]⟩ : ByteArray), .int .i64 0] 43 (0, 0)) (have z0_ := BK253; Zg)) : gb253 ≠ gb254)); replace NB254_253 := am_ ((by rw [hg]; exact Nat.ne_of_gt (blk_lt (g := gb253) (o := .cells #[.int .i64 0, .int .i64 0, .string (⟨#[]⟩ : ByteArray), .int .i64 0] 43 (0, 0)) (have z0_ := BK253; Zg)) : gb254 ≠ gb253)); replace BK253 := (have z0_ := BK253; bkZ hb); clear hb hbox hg; have hnb5 := NB252_253.out; have hnc5 := NB253_252.out; have hnb6 := NB252_254.out; have hnc6 := NB254_252.out; refine ci4 BK252 ?_; intros; have hnb8 := NB254_253.out; have hnc8 := NB253_254.out; refine ci4 BK254 ?_; intros; refine ci4 BK253 ?_; intros))
 refine bodyPost_ret (results_cell_row rfl _ _ gb253 43 #[.int .i64 a0_0, .int .i64 a0_1, .string a0_2, .int .i64 a0_3] (0, 0) _ rfl (by (with_reducible repeat (first | refine blk_drewN ?_ _ | refine blk_drew ?_ | refine blk_alloc ?_ _)); refine blk_put (cs := #[.int .i64 a0_0, .int .i64 a0_1, .string a0_2, .int .i64 0]) ?_ 3 _ rfl; refine blk_put (cs := #[.int .i64 a0_0, .int .i64 a0_1, .string (⟨#[]⟩ : ByteArray), .int .i64 0]) ?_ 2 _ rfl; refine blk_put (cs := #[.int .i64 a0_0, .int .i64 0, .string (⟨#[]⟩ : ByteArray), .int .i64 0]) ?_ 1 _ rfl; refine blk_put (cs := #[.int .i64 0, .int .i64 0, .string (⟨#[]⟩ : ByteArray), .int .i64 0]) ?_ 0 _ rfl; (with_reducible repeat (first | refine blk_drewN ?_ _ | refine blk_drew ?_ | refine blk_alloc ?_ _)); refine blk_far ?_ NB253_254.out _; (with_reducible repeat (first | refine blk_drewN ?_ _ | refine blk_drew ?_ | refine blk_alloc ?_ _)); refine blk_far ?_ NB253_254.out _; (with_reducible repeat (first | refine blk_drewN ?_ _ | refine blk_drew ?_ | refine blk_alloc ?_ _)); refine blk_far ?_ NB253_254.out _; (with_reducible repeat (first | refine blk_drewN ?_ _ | refine blk_drew ?_ | refine blk_alloc ?_ _)); refine blk_far ?_ NB253_254.out _; (with_reducible repeat (first | refine blk_drewN ?_ _ | refine blk_drew ?_ | refine blk_alloc ?_ _)); exact BK253.out) Try.underlying43 rfl Zj) rfl ?_; exact ⟨Zk, (have z0_ := GE252; have z1_ := GE253; have z2_ := GE254; Zl)⟩
def laws_fillerCue.f  : Option (Int × Int × ByteArray × Int) := some ((-7000000000000000101), (-7000000000000000101), (⟨#[126, 115, 112, 97, 114, 101, 126]⟩ : ByteArray), (-7000000000000000101))
set_option maxHeartbeats 8000000 in
set_option maxRecDepth 100000 in
theorem laws_fillerCue.calls  (r1 : Int) (r2 : Int) (r3 : ByteArray) (r4 : Int) (w : World) (h : laws_fillerCue.f  = some (r1, r2, r3, r4)) :
  Calls Try.prog 122 #[] w fun e w' => e = .returned (.agg #[.int .i64 r1, .int .i64 r2, .string r3, .int .i64 r4]) ∧ Below w.heap.size w w' := by
 have hu43 := Try.underlying43; have HB := am_ (Below.refl w.heap.size w); have H : (some ((-7000000000000000101), (-7000000000000000101), (⟨#[126, 115, 112, 97, 114, 101, 126]⟩ : ByteArray), (-7000000000000000101))) = some (r1, r2, r3, r4) := h; clear h; simp only [Option.some.injEq, Prod.mk.injEq] at H; obtain ⟨rfl, rfl, rfl, rfl⟩ := H
 go_enter Try.func122, Try.ntmps122
 go_wp2_with (first | ((with_reducible refine gate_dst (N := 0) rfl ?_); refine boxZ 0 #[.int .i64 0, .int .i64 0, .string (⟨#[]⟩ : ByteArray), .int .i64 0] 43 ?_; intro gb255 hg w1 hbox hb; replace BK255 := am_ (hbox); replace GW255 := am_ ((Zc : w.heap.size ≤ gb255)); replace GE255 := GW255; replace HB := (bsZ Zd hb); clear hb hbox hg; refine ci4 BK255 ?_; intros))
 refine bodyPost_ret (results_cell_row rfl _ _ gb255 43 #[.int .i64 (-7000000000000000101), .int .i64 (-7000000000000000101), .string (⟨#[126, 115, 112, 97, 114, 101, 126]⟩ : ByteArray), .int .i64 (-7000000000000000101)] (0, 0) _ rfl (by (with_reducible repeat (first | refine blk_drewN ?_ _ | refine blk_drew ?_ | refine blk_alloc ?_ _)); refine blk_put (cs := #[.int .i64 (-7000000000000000101), .int .i64 (-7000000000000000101), .string (⟨#[126, 115, 112, 97, 114, 101, 126]⟩ : ByteArray), .int .i64 0]) ?_ 3 _ rfl; refine blk_put (cs := #[.int .i64 (-7000000000000000101), .int .i64 (-7000000000000000101), .string (⟨#[]⟩ : ByteArray), .int .i64 0]) ?_ 2 _ rfl; refine blk_put (cs := #[.int .i64 (-7000000000000000101), .int .i64 0, .string (⟨#[]⟩ : ByteArray), .int .i64 0]) ?_ 1 _ rfl; refine blk_put (cs := #[.int .i64 0, .int .i64 0, .string (⟨#[]⟩ : ByteArray), .int .i64 0]) ?_ 0 _ rfl; (with_reducible repeat (first | refine blk_drewN ?_ _ | refine blk_drew ?_ | refine blk_alloc ?_ _)); exact BK255.out) Try.underlying43 rfl Zj) rfl ?_; exact ⟨Zk, (have z0_ := GE255; Zf)⟩
mutual
def laws_toCueS.j0 : Nat → List (S40) → Bool → Option ((List (S43)))
 | 0, _, _ => none
 | k + 1, x0, x13 => if x13 = true then (some ([] : List (S43))) else ((laws_roomBehind.f (x0.length : Int)).bind fun t256 => (if 0 ≤ (wrap64 ((x0.length : Int) + t256)) then (if (wrap64 ((x0.length : Int) + t256) : Int).toNat ≤ 7036874417766 then (laws_toCueS.l0 k x0 (List.replicate (wrap64 ((x0.length : Int) + t256) : Int).toNat z43) 0) else (none)) else (none)))
def laws_toCueS.l0 : Nat → List (S40) → List (S43) → Int → Option ((List (S43)))
 | 0, _, _, _ => none
 | k + 1, x0, x5, x6 => if x6 < (x0.length : Int) then (if 0 ≤ x6 then ((laws_toCue.f ((rd_T40 x0 x6).f0) ((rd_T40 x0 x6).f1) ((rd_T40 x0 x6).f2) ((rd_T40 x0 x6).f3)).bind fun bt261 => (if x6 < (x5.length : Int) then (laws_toCueS.l0 k x0 (x5.set (x6 : Int).toNat (⟨bt261.1, bt261.2.1, bt261.2.2.1, bt261.2.2.2⟩ : S43)) (wrap64 (x6 + 1))) else (none))) else (none)) else (laws_toCueS.l1 k x0 x5 (x0.length : Int))
def laws_toCueS.l1 : Nat → List (S40) → List (S43) → Int → Option ((List (S43)))
 | 0, _, _, _ => none
 | k + 1, x0, x5, x7 => if x7 < (x5.length : Int) then ((laws_fillerCue.f).bind fun bt266 => (if 0 ≤ x7 then (laws_toCueS.l1 k x0 (x5.set (x7 : Int).toNat (⟨bt266.1, bt266.2.1, bt266.2.2.1, bt266.2.2.2⟩ : S43)) (wrap64 (x7 + 1))) else (none))) else (if 0 ≤ (x0.length : Int) then (if (x0.length : Int) ≤ (x5.length : Int) then (some (x5.take ((x0.length : Int) : Int).toNat)) else (none)) else (none))
end
def laws_toCueS.f (k : Nat) (l0 : List (S40)) (a1 : Bool) : Option ((List (S43))) := if a1 = true then (laws_toCueS.j0 k l0 ((l0.length : Int) == 0)) else (laws_toCueS.j0 k l0 false)
set_option maxHeartbeats 8000000 in
set_option maxRecDepth 100000 in
theorem laws_toCueS.calls (k : Nat) (A0 : Option Addr) (c0 : Nat) (l0 : List (S40)) (a1 : Bool) (r : List (S43)) (w : World) (hr0 : Kd.C k40 w A0 l0.length l0) (hc0 : l0.length ≤ c0) (h : laws_toCueS.f k l0 a1 = some r) :
  Calls Try.prog 72 #[.slice A0 l0.length c0, .bool a1] w fun e w' => ∃ v0_ : Value, e = .returned (v0_) ∧ Kd.R k43 43 w' w.heap.size (fun _ => True) v0_ r ∧ Below w.heap.size w w' := by
 have hu40 := Try.underlying40; have hu43 := Try.underlying43; have HR0 := am_ hr0; have HC0 := am_ hc0; clear hr0 hc0; have HB := am_ (Below.refl w.heap.size w); have H : (if a1 = true then (laws_toCueS.j0 k l0 ((l0.length : Int) == 0)) else (laws_toCueS.j0 k l0 false)) = some r := h; clear h; have HC3 := am_ H; clear H
 go_enter Try.func72, Try.ntmps72
 go_upto_region 1 with (fail)
 go_cut [13] (fun v13 wc => ∃ (kq : Nat) (x13_2 : Bool), v13 = .bool x13_2 ∧ Aside0 (laws_toCueS.j0 kq l0 x13_2 = some r) ∧ Aside0 (kq ≤ k) ∧ Aside0 (Below w.heap.size w wc))
 case first =>
  have H := HC3.out; clear HC3
  by_cases c4 : a1 = true
  ·subst c4
   have H1 : (laws_toCueS.j0 k l0 ((l0.length : Int) == 0)) = some r := by rw [if_pos rfl] at H; exact H
   clear H; have H := H1; clear H1; have H' := am_ H; clear H
   go_wp2
   go_meet
   case rel => exact ⟨_, (((l0.length : Int) == 0)), Za, H', ⟨Zm⟩, ⟨Zd⟩⟩
  ·replace c4 := Bool.eq_false_iff.mpr c4
   subst c4
   have H1 : (laws_toCueS.j0 k l0 false) = some r := by rw [if_neg (show ¬ (false = true) by decide)] at H; exact H
   clear H; have H := H1; clear H1; have H' := am_ H; clear H
   go_wp2
   go_meet
   case rel => exact ⟨_, (false), Za, H', ⟨Zm⟩, ⟨Zd⟩⟩
 case rest =>
  clear HC3
  try clear p2
  try clear c4
  obtain ⟨kq, x13_2, rfl, HA, HJ2, HB⟩ := hcut
  cases kq with
  | zero => exact absurd HA.out (by simp [laws_toCueS.j0])
  | succ kj2 =>
   have H := HA.out; clear HA; simp only [laws_toCueS.j0] at H
   by_cases c5 : x13_2 = true
   ·subst c5
    have H1 : (some ([] : List (S43))) = some r := by rw [if_pos rfl] at H; exact H
    clear H; have H := H1; clear H1; obtain rfl := Option.some.inj H
    go_wp2
    go_ret
    exact ⟨_, Zk, Zn, Zd⟩
   ·replace c5 := Bool.eq_false_iff.mpr c5
    subst c5
    have H1 : ((laws_roomBehind.f (l0.length : Int)).bind fun t256 => (if 0 ≤ (wrap64 ((l0.length : Int) + t256)) then (if (wrap64 ((l0.length : Int) + t256) : Int).toNat ≤ 7036874417766 then (laws_toCueS.l0 kj2 l0 (List.replicate (wrap64 ((l0.length : Int) + t256) : Int).toNat z43) 0) else (none)) else (none))) = some r := by rw [if_neg (show ¬ (false = true) by decide)] at H; exact H
    clear H; have H := H1; clear H1; replace H := Option.bind_eq_some_iff.mp H; obtain ⟨t256, A60, H⟩ := H; have A6 := am_ A60; clear A60; obtain ⟨ji7, hji7⟩ : ∃ j_ : Int, (wrap64 ((l0.length : Int) + t256)) = j_ := ⟨_, rfl⟩
    replace H : (if 0 ≤ (ji7) then (if (ji7 : Int).toNat ≤ 7036874417766 then (laws_toCueS.l0 kj2 l0 (List.replicate (ji7 : Int).toNat z43) 0) else (none)) else (none)) = some r := by first | (rw [hji7] at H; exact H) | (simp only [hji7] at H ⊢; exact H)
    (try rw [hji7] at A6)
    have hji7w : (IntKind.i64.wrap ((l0.length : Int) + t256)) = ji7 := (i64_w _).trans hji7
    by_cases c8 : 0 ≤ (ji7)
    ·rw [if_pos c8] at H
     have c8b0 := eq_true c8; have c8b1 := decide_eq_true c8; clear c8
     by_cases c9 : (ji7 : Int).toNat ≤ 7036874417766
     ·rw [if_pos c9] at H
      have c9b0 := eq_true c9; have c9b1 := decide_eq_true c9; clear c9; obtain ⟨y257, hy257⟩ : ∃ y_ : List (S43), y_ = (List.replicate (ji7 : Int).toNat z43) := ⟨_, rfl⟩
      (first | (rw [← hy257] at H; with_reducible replace H := bindZ H) | rw [← hy257] at H)
      have Ny257 := am_ hy257; clear hy257; have H' := am_ H; clear H
      go_wp2_with (first | ((with_reducible refine gate_callee (f := 117) rfl ?_); refine goesL_ (some 18) rfl rfl Try.func117 Zj rfl #[.int .i64 (l0.length : Int)] rfl Zo ?_; (with_reducible refine (laws_roomBehind.calls (l0.length : Int) t256 _ A6.out).mono ?_); rintro e w' ⟨rfl, ⟨nd, rfl⟩⟩; refine ⟨_, rfl, ?_⟩) | ((with_reducible refine gate_dst (N := 20) rfl ?_); (try (refine gate_guard (by rfl) ?_; dsimp only)); refine Kd.R_make k43 _ 43 rfl (N := 20) rfl 30 _ _ rfl ji7 rfl rfl Try.underlying30 (.agg #[(.int .i64 0), (.int .i64 0), (.string ⟨#[]⟩), (.int .i64 0)]) 40 info43 rfl (by decide) (by omega) z43 (ok := fun _ => True) (okp := fun _ => True) (k43_mkM _ _ _ z43 ) (fun _ hk => hk) trivial (of_decide_eq_true Zp) (Nat.le_trans (Nat.mul_le_mul_right _ (of_decide_eq_true Zp : ji7.toNat ≤ 7036874417766)) (by omega)) (Below.refl _ _) (Nat.le_refl _) ?_; intro v258 w10 ho11 hb hg_ hnew_; clear hg_ hnew_; (first | rw [← Ny257.out] at ho11 | (simp only [Int.reduceToNat] at ho11; rw [← Ny257.out] at ho11)); replace HO259 := am_ (Kd.R_lower ho11 (below_size Zd)); replace HB := (bsZ Zd hb); clear hb ho11))
      go_loopg [6] kj2 (fun kq v6 w' => ∃ (x5_2 : List (S43)) (x6_2 : Int), v6 = .int .i64 x6_2 ∧ Aside0 (laws_toCueS.l0 kq l0 x5_2 x6_2 = some r) ∧ Aside0 (kq ≤ kj2) ∧ Aside0 (Kd.R k43 43 w' w.heap.size (fun _ => True) v258 x5_2) ∧ Aside0 (Below w.heap.size w w'))
      case atStart => exact ⟨(y257), (0), Za, H', ⟨Nat.le_refl _⟩, ⟨(have z0_ := HO259; Zq)⟩, ⟨Zd⟩⟩
      case round =>
       clear H'
       try clear c1
       try clear p2
       try clear c4
       try clear c5
       try clear p6
       try clear c7
       try clear c8
       try clear c8b0
       try clear c8b1
       try clear c9
       try clear c9b0
       try clear c9b1
       try clear c11
       try clear p2
       obtain ⟨x5_2, x6_2, rfl, HA, HK2, HO_5, HB⟩ := hrel
       cases gk with
       | zero => exact absurd HA.out (by simp [laws_toCueS.l0])
       | succ k2 =>
        have H := HA.out; clear HA; simp only [laws_toCueS.l0] at H
        by_cases c12 : x6_2 < (l0.length : Int)
        ·rw [if_pos c12] at H
         have c12b0 := decide_eq_true c12; clear c12
         by_cases c13 : 0 ≤ x6_2
         ·rw [if_pos c13] at H
          have c13b0 := decide_eq_true c13; clear c13; replace H := Option.bind_eq_some_iff.mp H; obtain ⟨⟨t261, t262, t263, t264⟩, A140, H⟩ := H; replace H : (if x6_2 < (x5_2.length : Int) then (laws_toCueS.l0 k2 l0 (x5_2.set (x6_2 : Int).toNat (⟨t261, t262, t263, t264⟩ : S43)) (wrap64 (x6_2 + 1))) else (none)) = some r := H; have A14 := am_ A140; clear A140
          by_cases c15 : x6_2 < (x5_2.length : Int)
          ·rw [if_pos c15] at H
           have c15b0 := decide_eq_true c15; clear c15; obtain ⟨y265, hy265⟩ : ∃ y_ : List (S43), y_ = (x5_2.set (x6_2 : Int).toNat (⟨t261, t262, t263, t264⟩ : S43)) := ⟨_, rfl⟩
           (first | (rw [← hy265] at H; with_reducible replace H := bindZ H) | rw [← hy265] at H)
           have Ny265 := am_ hy265; clear hy265; have H' := am_ H; clear H; have p260 : 0 ≤ (x6_2 : Int) := of_decide_eq_true Zp; have q260 : x6_2 < (l0.length : Int) := of_decide_eq_true Zp; obtain ⟨ad260, e260, hx260_0, hx260_1, hx260_2, hx260_3⟩ := at_T40 HR0.out x6_2 p260 q260
           cases e260
           replace hx260_0 := cbH HB hx260_0; replace hx260_1 := cbH HB hx260_1; replace hx260_2 := cbH HB hx260_2; replace hx260_3 := cbH HB hx260_3; replace p260 := eq_true p260; replace q260 := eq_true q260
           go_wp2_with (first | ((with_reducible refine gate_callee (f := 29) rfl ?_); refine goesL_ (some 33) rfl rfl Try.func29 Zj rfl #[.agg #[.int .i64 ((rd_T40 l0 x6_2).f0), .int .i64 ((rd_T40 l0 x6_2).f1), .string ((rd_T40 l0 x6_2).f2), .int .i64 ((rd_T40 l0 x6_2).f3)]] rfl Zo ?_; (with_reducible refine (laws_toCue.calls ((rd_T40 l0 x6_2).f0) ((rd_T40 l0 x6_2).f1) ((rd_T40 l0 x6_2).f2) ((rd_T40 l0 x6_2).f3) t261 t262 t263 t264 _ A14.out).mono ?_); rintro e w17 ⟨rfl, hb⟩; refine ⟨_, rfl, ?_⟩; replace HO_5 := am_ (Kd.R_below (have z0_ := HO_5; Zq) hb); replace HB := (bsZ Zd hb); (try clear hb); (try clear hb2); (try clear hk); (try clear hi); have p16 : 0 ≤ (x6_2 : Int) := of_decide_eq_true Zp; have q16 : (x6_2 : Int) < ((x5_2.length : Int) : Int) := of_decide_eq_true Zp; obtain ⟨go16, co16, eo16, gb16, gl16, cl16, HG16⟩ := Kd.R_form HO_5.out (by omega); (first | cases eo16 | (injection eo16 with ea_ en_ ec_; (first | subst ea_ | (injection ea_ with ea_; subst ea_)); subst ec_; clear en_)); have GB16 := am_ gb16; have GG16 := am_ HG16; clear gb16 gl16 HG16; obtain ⟨ce16, hcl16, hM16, hcc16, hfr16⟩ := Kd.R_elem HO_5.out z43 (x6_2 : Int) p16 q16; obtain rfl := k43_openM hM16; have hx16_0 : w17.cell? ⟨go16, (x6_2 : Int).toNat * 4, none⟩ = some (.int .i64 ((rd_T43 x5_2 x6_2).f0)) := hcc16 0 _ rfl; have hx16_1 : w17.cell? ⟨go16, (x6_2 : Int).toNat * 4 + 1, none⟩ = some (.int .i64 ((rd_T43 x5_2 x6_2).f1)) := hcc16 1 _ rfl; have hx16_2 : w17.cell? ⟨go16, (x6_2 : Int).toNat * 4 + 2, none⟩ = some (.string ((rd_T43 x5_2 x6_2).f2)) := hcc16 2 _ rfl; have hx16_3 : w17.cell? ⟨go16, (x6_2 : Int).toNat * 4 + 3, none⟩ = some (.int .i64 ((rd_T43 x5_2 x6_2).f3)) := hcc16 3 _ rfl; have hf16_0 : w17.frozen? ⟨go16, (x6_2 : Int).toNat * 4, none⟩ = false := hfr16 0; have hf16_1 := hfr16 1; have hf16_2 := hfr16 2; have hf16_3 := hfr16 3; clear hcl16 hcc16 hfr16 hM16; replace p16 := eq_true p16; replace q16 := eq_true q16; have HX18 := am_ (show Kd.R k43 43 w17 w.heap.size (fun _ => True) (.slice (some ⟨go16, 0, none⟩) x5_2.length co16) x5_2 from (have z0_ := HO_5; Zq)); obtain ⟨ce18, hcl18, hM18, hcc18, hfr18⟩ := Kd.R_elem HX18.out z43 (x6_2 : Int) (of_decide_eq_true Zp) (by have h_ : (x6_2 : Int) < ((x5_2.length : Int) : Int) := of_decide_eq_true Zp; first | exact h_ | (have e_ := (Kd.R_reads' HO_5.out).1; omega) | simpa using h_); obtain rfl := k43_openM hM18; have HP18 := Kd.R_seg HX18.out (x6_2 : Int) (of_decide_eq_true Zp) (by have h_ : (x6_2 : Int) < ((x5_2.length : Int) : Int) := of_decide_eq_true Zp; first | exact h_ | (have e_ := (Kd.R_reads' HO_5.out).1; omega) | simpa using h_) (seg := [.int .i64 t261, .int .i64 t262, .string t263, .int .i64 t264]) (j := 0) hcl18 hcc18 (show 4 ≤ 4 from by decide) (x' := (⟨t261, t262, t263, t264⟩ : S43)) (k43_mkM _ _ _ (⟨t261, t262, t263, t264⟩ : S43) ) (fun _ hk => hk); have hx18_0 := hcc18 0 _ rfl; (try simp only [show (k43).sz = 4 from rfl, Nat.mul_one, Nat.add_zero] at hx18_0); have hf18_0 := hfr18 0; (try simp only [show (k43).sz = 4 from rfl, Nat.mul_one, Nat.add_zero] at hf18_0); have hx18_1 := hcc18 1 _ rfl; (try simp only [show (k43).sz = 4 from rfl, Nat.mul_one, Nat.add_zero] at hx18_1); have hf18_1 := hfr18 1; (try simp only [show (k43).sz = 4 from rfl, Nat.mul_one, Nat.add_zero] at hf18_1); have hx18_2 := hcc18 2 _ rfl; (try simp only [show (k43).sz = 4 from rfl, Nat.mul_one, Nat.add_zero] at hx18_2); have hf18_2 := hfr18 2; (try simp only [show (k43).sz = 4 from rfl, Nat.mul_one, Nat.add_zero] at hf18_2); have hx18_3 := hcc18 3 _ rfl; (try simp only [show (k43).sz = 4 from rfl, Nat.mul_one, Nat.add_zero] at hx18_3); have hf18_3 := hfr18 3; (try simp only [show (k43).sz = 4 from rfl, Nat.mul_one, Nat.add_zero] at hf18_3); clear hcl18 hcc18 hfr18 hM18) | ((with_reducible refine gate_store (t := 43) (p := 34) rfl ?_); refine store_event (t := 43) (p := 34) (v := ?vo_w19) (w1 := ((((w17.setCell ⟨go16, (x6_2 : Int).toNat * 4, none⟩ (.int .i64 t261)).setCell ⟨go16, (x6_2 : Int).toNat * 4 + 1, none⟩ (.int .i64 t262)).setCell ⟨go16, (x6_2 : Int).toNat * 4 + 2, none⟩ (.string t263)).setCell ⟨go16, (x6_2 : Int).toNat * 4 + 3, none⟩ (.int .i64 t264))) ?hg ?ho ?hn ?hr ?_; (case ho => rfl); (case hg => rfl); (case hn => rfl); (case hr => first | (go_simp; done) | (go_simp; rfl)); intro w19 hw; have hg : w17.grownBy w19 (some go16) := (by rw [hw]; exact HP18.2); have hp_ : Kd.R k43 43 w19 w.heap.size (fun _ => True) (.slice (some ⟨go16, 0, none⟩) x5_2.length co16) y265 := (by rw [hw, Ny265.out]; exact HP18.1); clear HP18; replace HO_5 := am_ (hp_); replace HB := am_ (((have z0_ := GB16; Zad) : Below w.heap.size w w19)); clear hg hw hp_))
           go_roundg k2
           case measure => have := HJ2.out; have := HK2.out; omega
           case rel => exact ⟨(y265), (wrap64 (x6_2 + 1)), Za, H', ⟨by have := HJ2.out; have := HK2.out; omega⟩, ⟨(have z0_ := HO_5; Zq)⟩, ⟨Zd⟩⟩
          ·rw [if_neg c15] at H
           exact absurd H (by simp)
         ·rw [if_neg c13] at H
          exact absurd H (by simp)
        ·rw [if_neg c12] at H
         have c12b0 := decide_eq_false c12; clear c12; have H' := am_ H; clear H
         go_wp2
         go_loopg [7] k2 (fun kq v7 w' => ∃ (x5_3 : List (S43)) (x7_3 : Int), v7 = .int .i64 x7_3 ∧ Aside0 (laws_toCueS.l1 kq l0 x5_3 x7_3 = some r) ∧ Aside0 (kq ≤ k2) ∧ Aside0 (Kd.R k43 43 w' w.heap.size (fun _ => True) v258 x5_3) ∧ Aside0 (Below w.heap.size w w'))
         case atStart => exact ⟨(x5_2), ((l0.length : Int)), Za, H', ⟨Nat.le_refl _⟩, ⟨(have z0_ := HO_5; Zq)⟩, ⟨Zd⟩⟩
         case round =>
          clear H'
          try clear c1
          try clear p1
          try clear q1
          try clear hx1
          try clear c2
          try clear p2
          try clear q2
          try clear hx2
          try clear c4
          try clear c5
          try clear p6
          try clear c7
          try clear c8
          try clear c8b0
          try clear c8b1
          try clear c9
          try clear c9b0
          try clear c9b1
          try clear c11
          try clear c12
          try clear c12b0
          try clear c13
          try clear c13b0
          try clear c15
          try clear c15b0
          try clear c16
          try clear p16
          try clear q16
          try clear hx16
          try clear hf16
          try clear c18
          try clear hx18
          try clear hf18
          try clear hx16_0
          try clear hx16_1
          try clear hx16_2
          try clear hx16_3
          try clear hx18_0
          try clear hx18_1
          try clear hx18_2
          try clear hx18_3
          try clear hx260_0
          try clear hx260_1
          try clear hx260_2
          try clear hx260_3
          try clear p16
          try clear p2
          try clear p260
          try clear p6
          try clear q16
          try clear q260
          obtain ⟨x5_3, x7_3, rfl, HA, HK3, HO_5, HB⟩ := hrel
          cases gk with
          | zero => exact absurd HA.out (by simp [laws_toCueS.l1])
          | succ k3 =>
           have H := HA.out; clear HA; simp only [laws_toCueS.l1] at H
           by_cases c20 : x7_3 < (x5_3.length : Int)
           ·rw [if_pos c20] at H
            have c20b0 := decide_eq_true c20; clear c20; replace H := Option.bind_eq_some_iff.mp H; obtain ⟨⟨t266, t267, t268, t269⟩, A210, H⟩ := H; replace H : (if 0 ≤ x7_3 then (laws_toCueS.l1 k3 l0 (x5_3.set (x7_3 : Int).toNat (⟨t266, t267, t268, t269⟩ : S43)) (wrap64 (x7_3 + 1))) else (none)) = some r := H; have A21 := am_ A210; clear A210
            by_cases c22 : 0 ≤ x7_3
            ·rw [if_pos c22] at H
             have c22b0 := decide_eq_true c22; clear c22; obtain ⟨y270, hy270⟩ : ∃ y_ : List (S43), y_ = (x5_3.set (x7_3 : Int).toNat (⟨t266, t267, t268, t269⟩ : S43)) := ⟨_, rfl⟩
             (first | (rw [← hy270] at H; with_reducible replace H := bindZ H) | rw [← hy270] at H)
             have Ny270 := am_ hy270; clear hy270; have H' := am_ H; clear H; obtain ⟨Ao24, co24, eo24⟩ := Kd.R_slice HO_5.out; subst eo24
             go_wp2_with (first | ((with_reducible refine gate_callee (f := 122) rfl ?_); refine goesL_ (some 45) rfl rfl Try.func122 Zj rfl #[] rfl Zo ?_; (with_reducible refine (laws_fillerCue.calls  t266 t267 t268 t269 _ A21.out).mono ?_); rintro e w25 ⟨rfl, hb⟩; refine ⟨_, rfl, ?_⟩; replace HO_5 := am_ (Kd.R_below (have z0_ := HO_5; Zq) hb); replace HB := (bsZ Zd hb); (try clear hb); (try clear hb2); (try clear hk); (try clear hi); have p23 : 0 ≤ (x7_3 : Int) := of_decide_eq_true Zp; have q23 : (x7_3 : Int) < ((x5_3.length : Int) : Int) := of_decide_eq_true Zp; obtain ⟨go23, co23, eo23, gb23, gl23, cl23, HG23⟩ := Kd.R_form HO_5.out (by omega); (first | cases eo23 | (injection eo23 with ea_ en_ ec_; (first | subst ea_ | (injection ea_ with ea_; subst ea_)); subst ec_; clear en_)); have GB23 := am_ gb23; have GG23 := am_ HG23; clear gb23 gl23 HG23; obtain ⟨ce23, hcl23, hM23, hcc23, hfr23⟩ := Kd.R_elem HO_5.out z43 (x7_3 : Int) p23 q23; obtain rfl := k43_openM hM23; have hx23_0 : w25.cell? ⟨go23, (x7_3 : Int).toNat * 4, none⟩ = some (.int .i64 ((rd_T43 x5_3 x7_3).f0)) := hcc23 0 _ rfl; have hx23_1 : w25.cell? ⟨go23, (x7_3 : Int).toNat * 4 + 1, none⟩ = some (.int .i64 ((rd_T43 x5_3 x7_3).f1)) := hcc23 1 _ rfl; have hx23_2 : w25.cell? ⟨go23, (x7_3 : Int).toNat * 4 + 2, none⟩ = some (.string ((rd_T43 x5_3 x7_3).f2)) := hcc23 2 _ rfl; have hx23_3 : w25.cell? ⟨go23, (x7_3 : Int).toNat * 4 + 3, none⟩ = some (.int .i64 ((rd_T43 x5_3 x7_3).f3)) := hcc23 3 _ rfl; have hf23_0 : w25.frozen? ⟨go23, (x7_3 : Int).toNat * 4, none⟩ = false := hfr23 0; have hf23_1 := hfr23 1; have hf23_2 := hfr23 2; have hf23_3 := hfr23 3; clear hcl23 hcc23 hfr23 hM23; replace p23 := eq_true p23; replace q23 := eq_true q23; have HX26 := am_ (show Kd.R k43 43 w25 w.heap.size (fun _ => True) (.slice (some ⟨go23, 0, none⟩) x5_3.length co24) x5_3 from (have z0_ := HO_5; Zq)); obtain ⟨ce26, hcl26, hM26, hcc26, hfr26⟩ := Kd.R_elem HX26.out z43 (x7_3 : Int) (of_decide_eq_true Zp) (by have h_ : (x7_3 : Int) < ((x5_3.length : Int) : Int) := of_decide_eq_true Zp; first | exact h_ | (have e_ := (Kd.R_reads' HO_5.out).1; omega) | simpa using h_); obtain rfl := k43_openM hM26; have HP26 := Kd.R_seg HX26.out (x7_3 : Int) (of_decide_eq_true Zp) (by have h_ : (x7_3 : Int) < ((x5_3.length : Int) : Int) := of_decide_eq_true Zp; first | exact h_ | (have e_ := (Kd.R_reads' HO_5.out).1; omega) | simpa using h_) (seg := [.int .i64 t266, .int .i64 t267, .string t268, .int .i64 t269]) (j := 0) hcl26 hcc26 (show 4 ≤ 4 from by decide) (x' := (⟨t266, t267, t268, t269⟩ : S43)) (k43_mkM _ _ _ (⟨t266, t267, t268, t269⟩ : S43) ) (fun _ hk => hk); have hx26_0 := hcc26 0 _ rfl; (try simp only [show (k43).sz = 4 from rfl, Nat.mul_one, Nat.add_zero] at hx26_0); have hf26_0 := hfr26 0; (try simp only [show (k43).sz = 4 from rfl, Nat.mul_one, Nat.add_zero] at hf26_0); have hx26_1 := hcc26 1 _ rfl; (try simp only [show (k43).sz = 4 from rfl, Nat.mul_one, Nat.add_zero] at hx26_1); have hf26_1 := hfr26 1; (try simp only [show (k43).sz = 4 from rfl, Nat.mul_one, Nat.add_zero] at hf26_1); have hx26_2 := hcc26 2 _ rfl; (try simp only [show (k43).sz = 4 from rfl, Nat.mul_one, Nat.add_zero] at hx26_2); have hf26_2 := hfr26 2; (try simp only [show (k43).sz = 4 from rfl, Nat.mul_one, Nat.add_zero] at hf26_2); have hx26_3 := hcc26 3 _ rfl; (try simp only [show (k43).sz = 4 from rfl, Nat.mul_one, Nat.add_zero] at hx26_3); have hf26_3 := hfr26 3; (try simp only [show (k43).sz = 4 from rfl, Nat.mul_one, Nat.add_zero] at hf26_3); clear hcl26 hcc26 hfr26 hM26) | ((with_reducible refine gate_store (t := 43) (p := 46) rfl ?_); refine store_event (t := 43) (p := 46) (v := ?vo_w27) (w1 := ((((w25.setCell ⟨go23, (x7_3 : Int).toNat * 4, none⟩ (.int .i64 t266)).setCell ⟨go23, (x7_3 : Int).toNat * 4 + 1, none⟩ (.int .i64 t267)).setCell ⟨go23, (x7_3 : Int).toNat * 4 + 2, none⟩ (.string t268)).setCell ⟨go23, (x7_3 : Int).toNat * 4 + 3, none⟩ (.int .i64 t269))) ?hg ?ho ?hn ?hr ?_; (case ho => rfl); (case hg => rfl); (case hn => rfl); (case hr => first | (go_simp; done) | (go_simp; rfl)); intro w27 hw; have hg : w25.grownBy w27 (some go23) := (by rw [hw]; exact HP26.2); have hp_ : Kd.R k43 43 w27 w.heap.size (fun _ => True) (.slice (some ⟨go23, 0, none⟩) x5_3.length co24) y270 := (by rw [hw, Ny270.out]; exact HP26.1); clear HP26; replace HO_5 := am_ (hp_); replace HB := am_ (((have z0_ := GB23; Zad) : Below w.heap.size w w27)); clear hg hw hp_))
             go_roundg k3
             case measure => have := HJ2.out; have := HK2.out; have := HK3.out; omega
             case rel => exact ⟨(y270), (wrap64 (x7_3 + 1)), Za, H', ⟨Zr⟩, ⟨(have z0_ := HO_5; Zq)⟩, ⟨Zd⟩⟩
            ·rw [if_neg c22] at H
             exact absurd H (by simp)
           ·rw [if_neg c20] at H
            have c20b0 := decide_eq_false c20; clear c20
            by_cases c28 : 0 ≤ (l0.length : Int)
            ·rw [if_pos c28] at H
             have c28b0 := eq_true c28; have c28b1 := decide_eq_true c28; clear c28
             by_cases c29 : (l0.length : Int) ≤ (x5_3.length : Int)
             ·rw [if_pos c29] at H
              have c29b0 := eq_true c29; have c29b1 := decide_eq_true c29; clear c29; obtain ⟨y271, hy271⟩ : ∃ y_ : List (S43), y_ = (x5_3.take ((l0.length : Int) : Int).toNat) := ⟨_, rfl⟩
              (first | (rw [← hy271] at H; with_reducible replace H := bindZ H) | rw [← hy271] at H)
              have Ny271 := am_ hy271; clear hy271; obtain rfl := Option.some.inj H; obtain ⟨Ao30, co30, eo30⟩ := Kd.R_slice HO_5.out; subst eo30; have q31 : ((l0.length : Int) : Int) ≤ ((x5_3.length : Int) : Int) := of_decide_eq_true Zp; obtain ⟨i031, hi031, _, hsz31, _⟩ := info_parts info43; have hcut31 := cut_to (P := Try.prog) 30 43 .i64 Try.underlying30 hi031 Ao30 x5_3.length co30 (l0.length : Int) (of_decide_eq_true Zp) q31 (Kd.R_reads' HO_5.out).2.1; have hr31 := Kd.R_take (m := ((l0.length : Int) : Int).toNat) HO_5.out (by omega); have hy31 : y271.length = ((l0.length : Int) : Int).toNat := (by rw [Ny271.out, List.length_take]; omega); rw [← Ny271.out] at hr31; rw [← hy31] at hr31 hcut31; clear hy31 hi031 hsz31 HO_5; have HO273 := am_ hr31; clear hr31; replace q31 := eq_true q31
              go_wp2
              go_ret
              exact ⟨_, Zs, (have z0_ := HO273; Zq), Zd⟩
             ·rw [if_neg c29] at H
              exact absurd H (by simp)
            ·rw [if_neg c28] at H
             exact absurd H (by simp)
     ·rw [if_neg c9] at H
      exact absurd H (by simp)
    ·rw [if_neg c8] at H
     exact absurd H (by simp)
def laws_eqCue.f (a0_0 : Int) (a0_1 : Int) (a0_2 : ByteArray) (a0_3 : Int) (a1_0 : Int) (a1_1 : Int) (a1_2 : ByteArray) (a1_3 : Int) : Option (Bool) := if a0_0 = a1_0 then (if a0_1 = a1_1 then (if a0_2.toList = a1_2.toList then (if a0_3 = a1_3 then (some true) else (some false)) else (some false)) else (some false)) else (some false)
set_option maxHeartbeats 8000000 in
set_option maxRecDepth 100000 in
theorem laws_eqCue.calls (a0_0 : Int) (a0_1 : Int) (a0_2 : ByteArray) (a0_3 : Int) (a1_0 : Int) (a1_1 : Int) (a1_2 : ByteArray) (a1_3 : Int) (r : Bool) (w : World) (h : laws_eqCue.f a0_0 a0_1 a0_2 a0_3 a1_0 a1_1 a1_2 a1_3 = some r) (hr_ : r = true := by rfl) :
  Calls Try.prog 125 #[.agg #[.int .i64 a0_0, .int .i64 a0_1, .string a0_2, .int .i64 a0_3], .agg #[.int .i64 a1_0, .int .i64 a1_1, .string a1_2, .int .i64 a1_3]] w fun e w' => e = .returned (.bool r) ∧ Below w.heap.size w w' := by
 have HR_ := am_ hr_; clear hr_; have hu43 := Try.underlying43; have HB := am_ (Below.refl w.heap.size w); have H : (if a0_0 = a1_0 then (if a0_1 = a1_1 then (if a0_2.toList = a1_2.toList then (if a0_3 = a1_3 then (some true) else (some false)) else (some false)) else (some false)) else (some false)) = some r := h; clear h
 by_cases c3 : a0_0 = a1_0
 ·rw [if_pos c3] at H
  have c3b0 := beq_iff_eq.mpr c3; have c3b1 := bne_eq_false_iff_eq.mpr c3; clear c3
  by_cases c4 : a0_1 = a1_1
  ·rw [if_pos c4] at H
   have c4b0 := beq_iff_eq.mpr c4; have c4b1 := bne_eq_false_iff_eq.mpr c4; clear c4
   by_cases c5 : a0_2.toList = a1_2.toList
   ·rw [if_pos c5] at H
    have c5b0 := beq_iff_eq.mpr c5; have c5b1 := bne_eq_false_iff_eq.mpr c5; clear c5
    by_cases c6 : a0_3 = a1_3
    ·rw [if_pos c6] at H
     have c6b0 := beq_iff_eq.mpr c6; have c6b1 := bne_eq_false_iff_eq.mpr c6; clear c6; obtain rfl := Option.some.inj H
     go_enter Try.func125, Try.ntmps125
     go_wp2_with (first | ((with_reducible refine gate_dst (N := 2) rfl ?_); refine boxZ 2 #[.int .i64 a0_0, .int .i64 a0_1, .string a0_2, .int .i64 a0_3] 43 ?_; intro gb385 hg w7 hbox hb; replace BK385 := am_ (hbox); replace GW385 := am_ ((Zc : w.heap.size ≤ gb385)); replace GE385 := GW385; replace HB := (bsZ Zd hb); clear hb hbox hg) | ((with_reducible refine gate_dst (N := 3) rfl ?_); refine boxZ 3 #[.int .i64 a1_0, .int .i64 a1_1, .string a1_2, .int .i64 a1_3] 43 ?_; intro gb386 hg w8 hbox hb; replace BK386 := am_ (hbox); replace GW386 := am_ (((have z0_ := GE385; Ze) : w.heap.size ≤ gb386)); replace GE386 := GW386; replace HB := (bsZ (have z0_ := GE385; Zf) hb); replace NB385_386 := am_ ((by rw [hg]; exact Nat.ne_of_lt (blk_lt (g := gb385) (o := .cells #[.int .i64 a0_0, .int .i64 a0_1, .string a0_2, .int .i64 a0_3] 43 (0, 0)) (have z0_ := BK385; Zg)) : gb385 ≠ gb386)); replace NB386_385 := am_ ((by rw [hg]; exact Nat.ne_of_gt (blk_lt (g := gb385) (o := .cells #[.int .i64 a0_0, .int .i64 a0_1, .string a0_2, .int .i64 a0_3] 43 (0, 0)) (have z0_ := BK385; Zg)) : gb386 ≠ gb385)); replace BK385 := (have z0_ := BK385; bkZ hb); clear hb hbox hg; have hnb9 := NB385_386.out; have hnc9 := NB386_385.out; refine ci4 BK385 ?_; intros; refine ci4 BK386 ?_; intros))
     go_ret
     exact ⟨Zk, (have z0_ := GE385; have z1_ := GE386; Zi)⟩
    ·rw [if_neg c6] at H
     have c6b0 := beq_eq_false_iff_ne.mpr c6; have c6b1 := bne_iff_ne.mpr c6; exact absurd ((Option.some.inj H).trans HR_.out) (by decide)
   ·rw [if_neg c5] at H
    have c5b0 := beq_eq_false_iff_ne.mpr c5; have c5b1 := bne_iff_ne.mpr c5; exact absurd ((Option.some.inj H).trans HR_.out) (by decide)
  ·rw [if_neg c4] at H
   have c4b0 := beq_eq_false_iff_ne.mpr c4; have c4b1 := bne_iff_ne.mpr c4; exact absurd ((Option.some.inj H).trans HR_.out) (by decide)
 ·rw [if_neg c3] at H
  have c3b0 := beq_eq_false_iff_ne.mpr c3; have c3b1 := bne_iff_ne.mpr c3; exact absurd ((Option.some.inj H).trans HR_.out) (by decide)
def laws_eqCueS.l0 : Nat → List (S43) → List (S43) → Int → Option (Bool)
 | 0, _, _, _ => none
 | k + 1, x0, x1, x5 => if x5 < (x0.length : Int) then (if 0 ≤ x5 then (if x5 < (x1.length : Int) then ((laws_eqCue.f ((rd_T43 x0 x5).f0) ((rd_T43 x0 x5).f1) ((rd_T43 x0 x5).f2) ((rd_T43 x0 x5).f3) ((rd_T43 x1 x5).f0) ((rd_T43 x1 x5).f1) ((rd_T43 x1 x5).f2) ((rd_T43 x1 x5).f3)).bind fun t389 => (if t389 = true then (laws_eqCueS.l0 k x0 x1 (wrap64 (x5 + 1))) else (some false))) else (none)) else (none)) else (some true)
def laws_eqCueS.f (k : Nat) (l0 : List (S43)) (l1 : List (S43)) : Option (Bool) := if (l0.length : Int) = (l1.length : Int) then (laws_eqCueS.l0 k l0 l1 0) else (some false)
def laws_eqCueS.T6 : Bool × List (List Nat × List Nat) := (true, [([], []), ([], []), ([0, 1], [0, 1]), ([2], [2]), ([], []), ([], []), ([4, 5], [4, 5]), ([6], [6]), ([3, 7], [3, 7]), ([8], [8])])
def laws_eqCueS.B6 : List Nat := [0, 0, 3, 7, 0, 0, 48, 112, 255, 511]
theorem laws_eqCueS.tab6 : rtab .any (opsOf Try.f77 6) = laws_eqCueS.T6 := by kernel_rfl
theorem laws_eqCueS.bits6 : waitsOk laws_eqCueS.T6.2 laws_eqCueS.B6 = true := by kernel_rfl
set_option maxHeartbeats 8000000 in
set_option maxRecDepth 100000 in
theorem laws_eqCueS.calls (k : Nat) (A0 : Option Addr) (c0 : Nat) (l0 : List (S43)) (A1 : Option Addr) (c1 : Nat) (l1 : List (S43)) (r : Bool) (w : World) (hr0 : Kd.C k43 w A0 l0.length l0) (hc0 : l0.length ≤ c0) (hr1 : Kd.C k43 w A1 l1.length l1) (hc1 : l1.length ≤ c1) (h : laws_eqCueS.f k l0 l1 = some r) (hr_ : r = true := by rfl) :
  Calls Try.prog 77 #[.slice A0 l0.length c0, .slice A1 l1.length c1] w fun e w' => e = .returned (.bool r) ∧ Below w.heap.size w w' := by
 have HR_ := am_ hr_; clear hr_; have hu43 := Try.underlying43; have HR0 := am_ hr0; have HC0 := am_ hc0; clear hr0 hc0; have HR1 := am_ hr1; have HC1 := am_ hc1; clear hr1 hc1; have HB := am_ (Below.refl w.heap.size w); have H : (if (l0.length : Int) = (l1.length : Int) then (laws_eqCueS.l0 k l0 l1 0) else (some false)) = some r := h; clear h
 by_cases c3 : (l0.length : Int) = (l1.length : Int)
 ·rw [if_pos c3] at H
  have c3b0 := beq_iff_eq.mpr c3; have c3b1 := bne_eq_false_iff_eq.mpr c3
  have c3b2 : (l0.length == l1.length) = true := by first | simpa using c3 | (simp at c3 ⊢; omega)
  clear c3; have H' := am_ H; clear H
  go_enter Try.func77, Try.ntmps77
  go_wp2
  go_loopg [5] k (fun kq v5 w' => ∃ (x5_1 : Int), v5 = .int .i64 x5_1 ∧ Aside0 (laws_eqCueS.l0 kq l0 l1 x5_1 = some r) ∧ Aside0 (kq ≤ k) ∧ Aside0 (Below w.heap.size w w'))
  case atStart => exact ⟨(0), Za, H', ⟨Nat.le_refl _⟩, ⟨Zd⟩⟩
  case round =>
   clear H'
   try clear c1
   try clear p2
   try clear c3
   try clear c3b0
   try clear c3b1
   try clear c3b2
   obtain ⟨x5_1, rfl, HA, HK1, HB⟩ := hrel
   cases gk with
   | zero => exact absurd HA.out (by simp [laws_eqCueS.l0])
   | succ k1 =>
    have H := HA.out; clear HA; simp only [laws_eqCueS.l0] at H
    by_cases c4 : x5_1 < (l0.length : Int)
    ·rw [if_pos c4] at H
     have c4b0 := decide_eq_true c4; clear c4
     by_cases c5 : 0 ≤ x5_1
     ·rw [if_pos c5] at H
      have c5b0 := decide_eq_true c5; clear c5
      by_cases c6 : x5_1 < (l1.length : Int)
      ·rw [if_pos c6] at H
       have c6b0 := decide_eq_true c6; clear c6; replace H := Option.bind_eq_some_iff.mp H; obtain ⟨t389, A70, H⟩ := H; have A7 := am_ A70; clear A70
       by_cases c8 : t389 = true
       ·subst c8
        have H1 : (laws_eqCueS.l0 k1 l0 l1 (wrap64 (x5_1 + 1))) = some r := by rw [if_pos rfl] at H; exact H
        clear H; have H := H1; clear H1; have H' := am_ H; clear H
        try go_wp2
        replace HB := am_ (below_drew1 HB.out); have p387 : 0 ≤ (x5_1 : Int) := of_decide_eq_true Zp; have q387 : x5_1 < (l0.length : Int) := of_decide_eq_true Zp; obtain ⟨ad387, e387, hx387_0, hx387_1, hx387_2, hx387_3⟩ := at_T43 HR0.out x5_1 p387 q387; have hw387_3 := hx387_3; have hw387_2 := hx387_2; have hw387_1 := hx387_1; have hw387_0 := hx387_0
        cases e387
        replace hx387_0 := cbH HB hx387_0; replace hx387_1 := cbH HB hx387_1; replace hx387_2 := cbH HB hx387_2; replace hx387_3 := cbH HB hx387_3; replace p387 := eq_true p387; replace q387 := eq_true q387; have p388 : 0 ≤ (x5_1 : Int) := of_decide_eq_true Zp; have q388 : x5_1 < (l1.length : Int) := of_decide_eq_true Zp; obtain ⟨ad388, e388, hx388_0, hx388_1, hx388_2, hx388_3⟩ := at_T43 HR1.out x5_1 p388 q388; have hw388_3 := hx388_3; have hw388_2 := hx388_2; have hw388_1 := hx388_1; have hw388_0 := hx388_0
        cases e388
        replace hx388_0 := cbH HB hx388_0; replace hx388_1 := cbH HB hx388_1; replace hx388_2 := cbH HB hx388_2; replace hx388_3 := cbH HB hx388_3; replace p388 := eq_true p388; replace q388 := eq_true q388; refine start_ (n := 10) (S := fun w' => w'.cell? (ad387.add ((x5_1).toNat * 4)) = some (.int .i64 ((rd_T43 l0 x5_1).f0)) ∧ w'.cell? ⟨(ad387.add ((x5_1).toNat * 4)).block, (ad387.add ((x5_1).toNat * 4)).off + 1, none⟩ = some (.int .i64 ((rd_T43 l0 x5_1).f1)) ∧ w'.cell? ⟨(ad387.add ((x5_1).toNat * 4)).block, (ad387.add ((x5_1).toNat * 4)).off + 2, none⟩ = some (.string ((rd_T43 l0 x5_1).f2)) ∧ w'.cell? ⟨(ad387.add ((x5_1).toNat * 4)).block, (ad387.add ((x5_1).toNat * 4)).off + 3, none⟩ = some (.int .i64 ((rd_T43 l0 x5_1).f3)) ∧ w'.cell? (ad388.add ((x5_1).toNat * 4)) = some (.int .i64 ((rd_T43 l1 x5_1).f0)) ∧ w'.cell? ⟨(ad388.add ((x5_1).toNat * 4)).block, (ad388.add ((x5_1).toNat * 4)).off + 1, none⟩ = some (.int .i64 ((rd_T43 l1 x5_1).f1)) ∧ w'.cell? ⟨(ad388.add ((x5_1).toNat * 4)).block, (ad388.add ((x5_1).toNat * 4)).off + 2, none⟩ = some (.string ((rd_T43 l1 x5_1).f2)) ∧ w'.cell? ⟨(ad388.add ((x5_1).toNat * 4)).block, (ad388.add ((x5_1).toNat * 4)).off + 3, none⟩ = some (.int .i64 ((rd_T43 l1 x5_1).f3))) (ds := []) (bT 10 0) Zj rfl rfl ⟨(cbH HB hw387_0 :), (cbH HB hw387_1 :), (cbH HB hw387_2 :), (cbH HB hw387_3 :), (cbH HB hw388_0 :), (cbH HB hw388_1 :), (cbH HB hw388_2 :), (cbH HB hw388_3 :)⟩ (fun hHeld => ?_); refine with_tabW laws_eqCueS.tab6 laws_eqCueS.bits6 (fun HT_ HW_ => ?_); generalize wr.drew = w9 at HB hx387_0 hx387_1 hx387_2 hx387_3 hx388_0 hx388_1 hx388_2 hx388_3 hHeld ⊢; refine pureZ HT_ 0 (some 17) (bT 10 1) ?_; refine pureZ HT_ 1 (some 18) (bT 10 2) ?_; refine pureZ HT_ 2 (some 19) (bT 10 3) ?_; refine pureZ HT_ 4 (some 21) #[true, true, true, false, true, false, false, false, false, false] ?_; refine pureZ HT_ 5 (some 22) #[true, true, true, false, true, true, false, false, false, false] ?_; refine pureZ HT_ 6 (some 23) #[true, true, true, false, true, true, true, false, false, false] ?_; refine takeZ8 HT_ HW_ 3 (some 20) (bT 10 7) hHeld ?_; refine takeZ8 HT_ HW_ 7 (some 24) (bT 10 8) hHeld ?_; refine one_ (i := 8) (N := some 25) (bT 10 9) rfl rfl (one_of HT_.out Zj) (by decide) (fun K hK => ?_); refine goes_ Try.func125 Zj rfl #[.agg #[.int .i64 ((rd_T43 l0 x5_1).f0), .int .i64 ((rd_T43 l0 x5_1).f1), .string ((rd_T43 l0 x5_1).f2), .int .i64 ((rd_T43 l0 x5_1).f3)], .agg #[.int .i64 ((rd_T43 l1 x5_1).f0), .int .i64 ((rd_T43 l1 x5_1).f1), .string ((rd_T43 l1 x5_1).f2), .int .i64 ((rd_T43 l1 x5_1).f3)]] (by rfl) rfl rfl Zo ?_
        with_reducible refine (laws_eqCue.calls ((rd_T43 l0 x5_1).f0) ((rd_T43 l0 x5_1).f1) ((rd_T43 l0 x5_1).f2) ((rd_T43 l0 x5_1).f3) ((rd_T43 l1 x5_1).f0) ((rd_T43 l1 x5_1).f1) ((rd_T43 l1 x5_1).f2) ((rd_T43 l1 x5_1).f3) true _ A7.out).mono ?_
        rintro e w10 ⟨rfl, hb⟩; refine ⟨_, rfl, ?_⟩; replace HB := (bsZ Zd hb)
        (try clear hb)
        (try clear hb2)
        (try clear hk)
        (try clear hi)
        refine hK.out _ _ ⟨(cbH HB hw387_0 :), (cbH HB hw387_1 :), (cbH HB hw387_2 :), (cbH HB hw387_3 :), (cbH HB hw388_0 :), (cbH HB hw388_1 :), (cbH HB hw388_2 :), (cbH HB hw388_3 :)⟩ (fun hHeld => ?_); clear hK K; refine normZ 25 ?_; refine pureZ HT_ 9 (some 26) (bT 10 10) ?_; refine done_ (done_of HT_.out Zj) ?_
        try go_wp2
        go_roundg k1
        case measure => have := HK1.out; omega
        case rel => exact ⟨(wrap64 (x5_1 + 1)), Za, H', ⟨Zt⟩, ⟨Zd⟩⟩
       ·replace c8 := Bool.eq_false_iff.mpr c8
        subst c8
        have H1 : (some false) = some r := by rw [if_neg (show ¬ (false = true) by decide)] at H; exact H
        clear H; have H := H1; clear H1; exact absurd ((Option.some.inj H).trans HR_.out) (by decide)
      ·rw [if_neg c6] at H
       exact absurd H (by simp)
     ·rw [if_neg c5] at H
      exact absurd H (by simp)
    ·rw [if_neg c4] at H
     have c4b0 := decide_eq_false c4; clear c4; obtain rfl := Option.some.inj H
     go_wp2
     go_ret
     exact ⟨Zk, Zd⟩
 ·rw [if_neg c3] at H
  have c3b0 := beq_eq_false_iff_ne.mpr c3; have c3b1 := bne_iff_ne.mpr c3
  have c3b2 : (l0.length == l1.length) = false := by first | simpa using c3 | (simp at c3 ⊢; omega)
  exact absurd ((Option.some.inj H).trans HR_.out) (by decide)
def laws_markCueS.l0 : Nat → List (S43) → Int → Int → Option (Int × (List (S43)))
 | 0, _, _, _ => none
 | k + 1, x0, x1, x5 => if x5 < (x0.length : Int) then (if 0 ≤ x5 then ((some (x0.set (x5 : Int).toNat (⟨x1, (rd_T43 x0 x5).f1, (rd_T43 x0 x5).f2, (rd_T43 x0 x5).f3⟩ : S43) : List (S43))).bind fun y445 => ((some (y445.set (x5 : Int).toNat (⟨(rd_T43 y445 x5).f0, wrap64 (x1 + 1), (rd_T43 y445 x5).f2, (rd_T43 y445 x5).f3⟩ : S43) : List (S43))).bind fun y446 => ((laws_markText.f k (wrap64 ((wrap64 (x1 + 1)) + 1))).bind fun t447 => ((some (y446.set (x5 : Int).toNat (⟨(rd_T43 y446 x5).f0, (rd_T43 y446 x5).f1, t447, (rd_T43 y446 x5).f3⟩ : S43) : List (S43))).bind fun y448 => (laws_markCueS.l0 k (y448.set (x5 : Int).toNat (⟨(rd_T43 y448 x5).f0, (rd_T43 y448 x5).f1, (rd_T43 y448 x5).f2, wrap64 ((wrap64 ((wrap64 (x1 + 1)) + 1)) + 1)⟩ : S43)) (wrap64 ((wrap64 ((wrap64 ((wrap64 (x1 + 1)) + 1)) + 1)) + 1)) (wrap64 (x5 + 1))))))) else (none)) else (some (x1, x0))
def laws_markCueS.f (k : Nat) (l0 : List (S43)) (a1 : Int) : Option (Int × (List (S43))) := laws_markCueS.l0 k l0 a1 0
set_option maxHeartbeats 8000000 in
set_option maxRecDepth 100000 in
theorem laws_markCueS.calls (k : Nat) (P0_ : Nat → Prop) (u9000_ : Value) (l0 : List (S43)) (a1 : Int) (r1 : Int) (r2 : List (S43)) (w0 w : World) (hB : Below w0.heap.size w0 w) (ho0 : Kd.R k43 43 w w0.heap.size P0_ u9000_ l0) (h : laws_markCueS.f k l0 a1 = some (r1, r2)) :
  Calls Try.prog 83 #[u9000_, .int .i64 a1] w fun e w' => e = .returned (.int .i64 r1) ∧ Kd.R k43 43 w' w0.heap.size (fun k_ => (P0_ k_ ∨ w.heap.size ≤ k_)) u9000_ r2 ∧ Below w0.heap.size w0 w' ∧ Kept w w' (fun k_ => P0_ k_) := by
 have HO0 := am_ (show Kd.R k43 43 w w0.heap.size (fun k_ => (P0_ k_ ∨ w.heap.size ≤ k_)) u9000_ l0 from Kd.R_mono ho0 (fun k_ hk => (.inl hk))); have HK := am_ (Kept.refl w (fun k_ => P0_ k_)); have HW0 := am_ hB.size; have HB := am_ hB; clear hB; have H : (laws_markCueS.l0 k l0 a1 0) = some (r1, r2) := h; clear h; have H' := am_ H; clear H
 go_enter Try.func83, Try.ntmps83
 go_wp2
 go_loopg [1, 5] k (fun kq v1 v5 w' => ∃ (x0_1 : List (S43)) (x1_1 : Int) (x5_1 : Int), v1 = .int .i64 x1_1 ∧ v5 = .int .i64 x5_1 ∧ Aside0 (laws_markCueS.l0 kq x0_1 x1_1 x5_1 = some (r1, r2)) ∧ Aside0 (kq ≤ k) ∧ Aside0 (Kd.R k43 43 w' w0.heap.size (fun k_ => (P0_ k_ ∨ w.heap.size ≤ k_)) u9000_ x0_1) ∧ Aside0 (Kept w w' (fun k_ => P0_ k_)) ∧ Aside0 (Below w0.heap.size w0 w'))
 case atStart => exact ⟨(l0), (a1), (0), Za, Za, H', ⟨Nat.le_refl _⟩, ⟨(have z0_ := HO0; Zq)⟩, ⟨Zu⟩, ⟨Zd⟩⟩
 case round =>
  clear H'
  try clear p2
  obtain ⟨x0_1, x1_1, x5_1, rfl, rfl, HA, HK1, HO_0, HK, HB⟩ := hrel
  cases gk with
  | zero => exact absurd HA.out (by simp [laws_markCueS.l0])
  | succ k1 =>
   have H := HA.out; clear HA; simp only [laws_markCueS.l0] at H
   by_cases c3 : x5_1 < (x0_1.length : Int)
   ·rw [if_pos c3] at H
    have c3b0 := decide_eq_true c3; clear c3
    by_cases c4 : 0 ≤ x5_1
    ·rw [if_pos c4] at H
     have c4b0 := decide_eq_true c4; clear c4; obtain ⟨y445, hy445⟩ : ∃ y_ : List (S43), y_ = (x0_1.set (x5_1 : Int).toNat (⟨x1_1, (rd_T43 x0_1 x5_1).f1, (rd_T43 x0_1 x5_1).f2, (rd_T43 x0_1 x5_1).f3⟩ : S43)) := ⟨_, rfl⟩
     (first | (rw [← hy445] at H; with_reducible replace H := bindZ H) | rw [← hy445] at H)
     have Ny445 := am_ hy445; clear hy445; obtain ⟨y446, hy446⟩ : ∃ y_ : List (S43), y_ = (y445.set (x5_1 : Int).toNat (⟨(rd_T43 y445 x5_1).f0, wrap64 (x1_1 + 1), (rd_T43 y445 x5_1).f2, (rd_T43 y445 x5_1).f3⟩ : S43)) := ⟨_, rfl⟩
     (first | (rw [← hy446] at H; with_reducible replace H := bindZ H) | rw [← hy446] at H)
     have Ny446 := am_ hy446; clear hy446; replace H := Option.bind_eq_some_iff.mp H; obtain ⟨t447, A70, H⟩ := H; have A7 := am_ A70; clear A70; obtain ⟨y448, hy448⟩ : ∃ y_ : List (S43), y_ = (y446.set (x5_1 : Int).toNat (⟨(rd_T43 y446 x5_1).f0, (rd_T43 y446 x5_1).f1, t447, (rd_T43 y446 x5_1).f3⟩ : S43)) := ⟨_, rfl⟩
     (first | (rw [← hy448] at H; with_reducible replace H := bindZ H) | rw [← hy448] at H)
     have Ny448 := am_ hy448; clear hy448; obtain ⟨y449, hy449⟩ : ∃ y_ : List (S43), y_ = (y448.set (x5_1 : Int).toNat (⟨(rd_T43 y448 x5_1).f0, (rd_T43 y448 x5_1).f1, (rd_T43 y448 x5_1).f2, wrap64 ((wrap64 ((wrap64 (x1_1 + 1)) + 1)) + 1)⟩ : S43)) := ⟨_, rfl⟩
     (first | (rw [← hy449] at H; with_reducible replace H := bindZ H) | rw [← hy449] at H)
     have Ny449 := am_ hy449; clear hy449; have H' := am_ H; clear H; obtain ⟨Ao10, co10, eo10⟩ := Kd.R_slice HO_0.out; subst eo10; have p5 : 0 ≤ (x5_1 : Int) := of_decide_eq_true Zp; have q5 : (x5_1 : Int) < ((x0_1.length : Int) : Int) := of_decide_eq_true Zp; obtain ⟨go5, co5, eo5, gb5, gl5, cl5, HG5⟩ := Kd.R_form HO_0.out (by omega)
     (first | cases eo5 | (injection eo5 with ea_ en_ ec_; (first | subst ea_ | (injection ea_ with ea_; subst ea_)); subst ec_; clear en_))
     have GB5 := am_ gb5; have GG5 := am_ HG5; clear gb5 gl5 HG5; have HMgo5 := am_ (show (P0_ go5 ∨ w.heap.size ≤ go5) from (HO_0.out.1 _ rfl)); obtain ⟨ce5, hcl5, hM5, hcc5, hfr5⟩ := Kd.R_elem HO_0.out z43 (x5_1 : Int) p5 q5; obtain rfl := k43_openM hM5; have hx5_0 : wr.cell? ⟨go5, (x5_1 : Int).toNat * 4, none⟩ = some (.int .i64 ((rd_T43 x0_1 x5_1).f0)) := hcc5 0 _ rfl; have hx5_1 : wr.cell? ⟨go5, (x5_1 : Int).toNat * 4 + 1, none⟩ = some (.int .i64 ((rd_T43 x0_1 x5_1).f1)) := hcc5 1 _ rfl; have hx5_2 : wr.cell? ⟨go5, (x5_1 : Int).toNat * 4 + 2, none⟩ = some (.string ((rd_T43 x0_1 x5_1).f2)) := hcc5 2 _ rfl; have hx5_3 : wr.cell? ⟨go5, (x5_1 : Int).toNat * 4 + 3, none⟩ = some (.int .i64 ((rd_T43 x0_1 x5_1).f3)) := hcc5 3 _ rfl; have hf5_0 : wr.frozen? ⟨go5, (x5_1 : Int).toNat * 4, none⟩ = false := hfr5 0; have hf5_1 := hfr5 1; have hf5_2 := hfr5 2; have hf5_3 := hfr5 3; clear hcl5 hcc5 hfr5 hM5; replace p5 := eq_true p5; replace q5 := eq_true q5; have HX11 := am_ (show Kd.R k43 43 wr w0.heap.size (fun k_ => (P0_ k_ ∨ w.heap.size ≤ k_)) (.slice (some ⟨go5, 0, none⟩) x0_1.length co10) x0_1 from (have z0_ := HO_0; Zq)); obtain ⟨ce11, hcl11, hM11, hcc11, hfr11⟩ := Kd.R_elem HX11.out z43 (x5_1 : Int) (of_decide_eq_true Zp) (by have h_ : (x5_1 : Int) < ((x0_1.length : Int) : Int) := of_decide_eq_true Zp; first | exact h_ | (have e_ := (Kd.R_reads' HO_0.out).1; omega) | simpa using h_); obtain rfl := k43_openM hM11; have HP11 := Kd.R_seg HX11.out (x5_1 : Int) (of_decide_eq_true Zp) (by have h_ : (x5_1 : Int) < ((x0_1.length : Int) : Int) := of_decide_eq_true Zp; first | exact h_ | (have e_ := (Kd.R_reads' HO_0.out).1; omega) | simpa using h_) (seg := [.int .i64 x1_1]) (j := 0) hcl11 hcc11 (show 1 ≤ 4 from by decide) (x' := (⟨x1_1, (rd_T43 x0_1 x5_1).f1, (rd_T43 x0_1 x5_1).f2, (rd_T43 x0_1 x5_1).f3⟩ : S43)) (k43_mkM _ _ _ (⟨x1_1, (rd_T43 x0_1 x5_1).f1, (rd_T43 x0_1 x5_1).f2, (rd_T43 x0_1 x5_1).f3⟩ : S43) ) (fun _ hk => hk); have hx11_0 := hcc11 0 _ rfl
     (try simp only [show (k43).sz = 4 from rfl, Nat.mul_one, Nat.add_zero] at hx11_0)
     have hf11_0 := hfr11 0
     (try simp only [show (k43).sz = 4 from rfl, Nat.mul_one, Nat.add_zero] at hf11_0)
     clear hcl11 hcc11 hfr11 hM11
     go_wp2_with (first | ((with_reducible refine gate_store (t := 2) (p := 16) rfl ?_); refine store_event (t := 2) (p := 16) (v := ?vo_w12) (w1 := (wr.setCell ⟨go5, (x5_1 : Int).toNat * 4, none⟩ (.int .i64 x1_1))) ?hg ?ho ?hn ?hr ?_; (case ho => rfl); (case hg => rfl); (case hn => rfl); (case hr => first | (go_simp; done) | (go_simp; rfl)); intro w12 hw; have hg : wr.grownBy w12 (some go5) := (by rw [hw]; exact HP11.2); have hp_ : Kd.R k43 43 w12 w0.heap.size (fun k_ => (P0_ k_ ∨ w.heap.size ≤ k_)) (.slice (some ⟨go5, 0, none⟩) x0_1.length co10) y445 := (by rw [hw, Ny445.out]; exact HP11.1); clear HP11; replace HB := am_ (((have z0_ := GB5; Zv) : Below w0.heap.size w0 w12)); replace HK := am_ (Kept.of_grown (S := (fun k_ => P0_ k_)) hg Zu (fun k_ e_ => (HO_0.out.1 k_ e_))); replace HO_0 := am_ (hp_); clear hg hw hp_; have p6 : 0 ≤ (x5_1 : Int) := of_decide_eq_true Zp; have q6 : (x5_1 : Int) < ((x0_1.length : Int) : Int) := of_decide_eq_true Zp; obtain ⟨ce6, hcl6, hM6, hcc6, hfr6⟩ := Kd.R_elem HO_0.out z43 (x5_1 : Int) p6 q6; obtain rfl := k43_openM hM6; have hx6_0 : w12.cell? ⟨go5, (x5_1 : Int).toNat * 4, none⟩ = some (.int .i64 ((rd_T43 y445 x5_1).f0)) := hcc6 0 _ rfl; have hx6_1 : w12.cell? ⟨go5, (x5_1 : Int).toNat * 4 + 1, none⟩ = some (.int .i64 ((rd_T43 y445 x5_1).f1)) := hcc6 1 _ rfl; have hx6_2 : w12.cell? ⟨go5, (x5_1 : Int).toNat * 4 + 2, none⟩ = some (.string ((rd_T43 y445 x5_1).f2)) := hcc6 2 _ rfl; have hx6_3 : w12.cell? ⟨go5, (x5_1 : Int).toNat * 4 + 3, none⟩ = some (.int .i64 ((rd_T43 y445 x5_1).f3)) := hcc6 3 _ rfl; have hf6_0 : w12.frozen? ⟨go5, (x5_1 : Int).toNat * 4, none⟩ = false := hfr6 0; have hf6_1 := hfr6 1; have hf6_2 := hfr6 2; have hf6_3 := hfr6 3; clear hcl6 hcc6 hfr6 hM6; replace p6 := eq_true p6; replace q6 := eq_true q6; have HX13 := am_ (show Kd.R k43 43 w12 w0.heap.size (fun k_ => (P0_ k_ ∨ w.heap.size ≤ k_)) (.slice (some ⟨go5, 0, none⟩) x0_1.length co10) y445 from (have z0_ := HO_0; Zq)); obtain ⟨ce13, hcl13, hM13, hcc13, hfr13⟩ := Kd.R_elem HX13.out z43 (x5_1 : Int) (of_decide_eq_true Zp) (by have h_ : (x5_1 : Int) < ((x0_1.length : Int) : Int) := of_decide_eq_true Zp; first | exact h_ | (have e_ := (Kd.R_reads' HO_0.out).1; omega) | simpa using h_); obtain rfl := k43_openM hM13; have HP13 := Kd.R_seg HX13.out (x5_1 : Int) (of_decide_eq_true Zp) (by have h_ : (x5_1 : Int) < ((x0_1.length : Int) : Int) := of_decide_eq_true Zp; first | exact h_ | (have e_ := (Kd.R_reads' HO_0.out).1; omega) | simpa using h_) (seg := [.int .i64 (wrap64 (x1_1 + 1))]) (j := 1) hcl13 hcc13 (show 2 ≤ 4 from by decide) (x' := (⟨(rd_T43 y445 x5_1).f0, wrap64 (x1_1 + 1), (rd_T43 y445 x5_1).f2, (rd_T43 y445 x5_1).f3⟩ : S43)) (k43_mkM _ _ _ (⟨(rd_T43 y445 x5_1).f0, wrap64 (x1_1 + 1), (rd_T43 y445 x5_1).f2, (rd_T43 y445 x5_1).f3⟩ : S43) ) (fun _ hk => hk); have hx13_1 := hcc13 1 _ rfl; (try simp only [show (k43).sz = 4 from rfl, Nat.mul_one, Nat.add_zero] at hx13_1); have hf13_1 := hfr13 1; (try simp only [show (k43).sz = 4 from rfl, Nat.mul_one, Nat.add_zero] at hf13_1); clear hcl13 hcc13 hfr13 hM13) | ((with_reducible refine gate_store (t := 2) (p := 23) rfl ?_); refine store_event (t := 2) (p := 23) (v := ?vo_w14) (w1 := (w12.setCell ⟨go5, (x5_1 : Int).toNat * 4 + 1, none⟩ (.int .i64 (wrap64 (x1_1 + 1))))) ?hg ?ho ?hn ?hr ?_; (case ho => rfl); (case hg => rfl); (case hn => rfl); (case hr => first | (go_simp; done) | (go_simp; rfl)); intro w14 hw; have hg : w12.grownBy w14 (some go5) := (by rw [hw]; exact HP13.2); have hp_ : Kd.R k43 43 w14 w0.heap.size (fun k_ => (P0_ k_ ∨ w.heap.size ≤ k_)) (.slice (some ⟨go5, 0, none⟩) x0_1.length co10) y446 := (by rw [hw, Ny446.out]; exact HP13.1); clear HP13; replace HB := am_ (((have z0_ := GB5; Zv) : Below w0.heap.size w0 w14)); replace HK := am_ (Kept.of_grown (S := (fun k_ => P0_ k_)) hg Zu (fun k_ e_ => (HO_0.out.1 k_ e_))); replace HO_0 := am_ (hp_); clear hg hw hp_) | ((with_reducible refine gate_callee (f := 126) rfl ?_); refine goesL_ (some 29) rfl rfl Try.func126 Zj rfl #[.int .i64 (wrap64 ((wrap64 (x1_1 + 1)) + 1))] rfl Zo ?_; (with_reducible refine (laws_markText.calls k1 (wrap64 ((wrap64 (x1_1 + 1)) + 1)) t447 _ A7.out).mono ?_); rintro e w15 ⟨rfl, hb⟩; refine ⟨_, rfl, ?_⟩; replace HO_0 := am_ (Kd.R_below (have z0_ := HO_0; Zq) hb); replace HK := am_ (Kept.below (S := (fun k_ => P0_ k_)) Zu hb); replace HB := (bsZ Zd hb); (try clear hb); (try clear hb2); (try clear hk); (try clear hi); have p8 : 0 ≤ (x5_1 : Int) := of_decide_eq_true Zp; have q8 : (x5_1 : Int) < ((x0_1.length : Int) : Int) := of_decide_eq_true Zp; obtain ⟨ce8, hcl8, hM8, hcc8, hfr8⟩ := Kd.R_elem HO_0.out z43 (x5_1 : Int) p8 q8; obtain rfl := k43_openM hM8; have hx8_0 : w15.cell? ⟨go5, (x5_1 : Int).toNat * 4, none⟩ = some (.int .i64 ((rd_T43 y446 x5_1).f0)) := hcc8 0 _ rfl; have hx8_1 : w15.cell? ⟨go5, (x5_1 : Int).toNat * 4 + 1, none⟩ = some (.int .i64 ((rd_T43 y446 x5_1).f1)) := hcc8 1 _ rfl; have hx8_2 : w15.cell? ⟨go5, (x5_1 : Int).toNat * 4 + 2, none⟩ = some (.string ((rd_T43 y446 x5_1).f2)) := hcc8 2 _ rfl; have hx8_3 : w15.cell? ⟨go5, (x5_1 : Int).toNat * 4 + 3, none⟩ = some (.int .i64 ((rd_T43 y446 x5_1).f3)) := hcc8 3 _ rfl; have hf8_0 : w15.frozen? ⟨go5, (x5_1 : Int).toNat * 4, none⟩ = false := hfr8 0; have hf8_1 := hfr8 1; have hf8_2 := hfr8 2; have hf8_3 := hfr8 3; clear hcl8 hcc8 hfr8 hM8; replace p8 := eq_true p8; replace q8 := eq_true q8; have HX16 := am_ (show Kd.R k43 43 w15 w0.heap.size (fun k_ => (P0_ k_ ∨ w.heap.size ≤ k_)) (.slice (some ⟨go5, 0, none⟩) x0_1.length co10) y446 from (have z0_ := HO_0; Zq)); obtain ⟨ce16, hcl16, hM16, hcc16, hfr16⟩ := Kd.R_elem HX16.out z43 (x5_1 : Int) (of_decide_eq_true Zp) (by have h_ : (x5_1 : Int) < ((x0_1.length : Int) : Int) := of_decide_eq_true Zp; first | exact h_ | (have e_ := (Kd.R_reads' HO_0.out).1; omega) | simpa using h_); obtain rfl := k43_openM hM16; have HP16 := Kd.R_seg HX16.out (x5_1 : Int) (of_decide_eq_true Zp) (by have h_ : (x5_1 : Int) < ((x0_1.length : Int) : Int) := of_decide_eq_true Zp; first | exact h_ | (have e_ := (Kd.R_reads' HO_0.out).1; omega) | simpa using h_) (seg := [.string t447]) (j := 2) hcl16 hcc16 (show 3 ≤ 4 from by decide) (x' := (⟨(rd_T43 y446 x5_1).f0, (rd_T43 y446 x5_1).f1, t447, (rd_T43 y446 x5_1).f3⟩ : S43)) (k43_mkM _ _ _ (⟨(rd_T43 y446 x5_1).f0, (rd_T43 y446 x5_1).f1, t447, (rd_T43 y446 x5_1).f3⟩ : S43) ) (fun _ hk => hk); have hx16_2 := hcc16 2 _ rfl; (try simp only [show (k43).sz = 4 from rfl, Nat.mul_one, Nat.add_zero] at hx16_2); have hf16_2 := hfr16 2; (try simp only [show (k43).sz = 4 from rfl, Nat.mul_one, Nat.add_zero] at hf16_2); clear hcl16 hcc16 hfr16 hM16) | ((with_reducible refine gate_store (t := 9) (p := 31) rfl ?_); refine store_event (t := 9) (p := 31) (v := ?vo_w17) (w1 := (w15.setCell ⟨go5, (x5_1 : Int).toNat * 4 + 2, none⟩ (.string t447))) ?hg ?ho ?hn ?hr ?_; (case ho => rfl); (case hg => rfl); (case hn => rfl); (case hr => first | (go_simp; done) | (go_simp; rfl)); intro w17 hw; have hg : w15.grownBy w17 (some go5) := (by rw [hw]; exact HP16.2); have hp_ : Kd.R k43 43 w17 w0.heap.size (fun k_ => (P0_ k_ ∨ w.heap.size ≤ k_)) (.slice (some ⟨go5, 0, none⟩) x0_1.length co10) y448 := (by rw [hw, Ny448.out]; exact HP16.1); clear HP16; replace HB := am_ (((have z0_ := GB5; Zv) : Below w0.heap.size w0 w17)); replace HK := am_ (Kept.of_grown (S := (fun k_ => P0_ k_)) hg Zu (fun k_ e_ => (HO_0.out.1 k_ e_))); replace HO_0 := am_ (hp_); clear hg hw hp_; have p9 : 0 ≤ (x5_1 : Int) := of_decide_eq_true Zp; have q9 : (x5_1 : Int) < ((x0_1.length : Int) : Int) := of_decide_eq_true Zp; obtain ⟨ce9, hcl9, hM9, hcc9, hfr9⟩ := Kd.R_elem HO_0.out z43 (x5_1 : Int) p9 q9; obtain rfl := k43_openM hM9; have hx9_0 : w17.cell? ⟨go5, (x5_1 : Int).toNat * 4, none⟩ = some (.int .i64 ((rd_T43 y448 x5_1).f0)) := hcc9 0 _ rfl; have hx9_1 : w17.cell? ⟨go5, (x5_1 : Int).toNat * 4 + 1, none⟩ = some (.int .i64 ((rd_T43 y448 x5_1).f1)) := hcc9 1 _ rfl; have hx9_2 : w17.cell? ⟨go5, (x5_1 : Int).toNat * 4 + 2, none⟩ = some (.string ((rd_T43 y448 x5_1).f2)) := hcc9 2 _ rfl; have hx9_3 : w17.cell? ⟨go5, (x5_1 : Int).toNat * 4 + 3, none⟩ = some (.int .i64 ((rd_T43 y448 x5_1).f3)) := hcc9 3 _ rfl; have hf9_0 : w17.frozen? ⟨go5, (x5_1 : Int).toNat * 4, none⟩ = false := hfr9 0; have hf9_1 := hfr9 1; have hf9_2 := hfr9 2; have hf9_3 := hfr9 3; clear hcl9 hcc9 hfr9 hM9; replace p9 := eq_true p9; replace q9 := eq_true q9; have HX18 := am_ (show Kd.R k43 43 w17 w0.heap.size (fun k_ => (P0_ k_ ∨ w.heap.size ≤ k_)) (.slice (some ⟨go5, 0, none⟩) x0_1.length co10) y448 from (have z0_ := HO_0; Zq)); obtain ⟨ce18, hcl18, hM18, hcc18, hfr18⟩ := Kd.R_elem HX18.out z43 (x5_1 : Int) (of_decide_eq_true Zp) (by have h_ : (x5_1 : Int) < ((x0_1.length : Int) : Int) := of_decide_eq_true Zp; first | exact h_ | (have e_ := (Kd.R_reads' HO_0.out).1; omega) | simpa using h_); obtain rfl := k43_openM hM18; have HP18 := Kd.R_seg HX18.out (x5_1 : Int) (of_decide_eq_true Zp) (by have h_ : (x5_1 : Int) < ((x0_1.length : Int) : Int) := of_decide_eq_true Zp; first | exact h_ | (have e_ := (Kd.R_reads' HO_0.out).1; omega) | simpa using h_) (seg := [.int .i64 (wrap64 ((wrap64 ((wrap64 (x1_1 + 1)) + 1)) + 1))]) (j := 3) hcl18 hcc18 (show 4 ≤ 4 from by decide) (x' := (⟨(rd_T43 y448 x5_1).f0, (rd_T43 y448 x5_1).f1, (rd_T43 y448 x5_1).f2, wrap64 ((wrap64 ((wrap64 (x1_1 + 1)) + 1)) + 1)⟩ : S43)) (k43_mkM _ _ _ (⟨(rd_T43 y448 x5_1).f0, (rd_T43 y448 x5_1).f1, (rd_T43 y448 x5_1).f2, wrap64 ((wrap64 ((wrap64 (x1_1 + 1)) + 1)) + 1)⟩ : S43) ) (fun _ hk => hk); have hx18_3 := hcc18 3 _ rfl; (try simp only [show (k43).sz = 4 from rfl, Nat.mul_one, Nat.add_zero] at hx18_3); have hf18_3 := hfr18 3; (try simp only [show (k43).sz = 4 from rfl, Nat.mul_one, Nat.add_zero] at hf18_3); clear hcl18 hcc18 hfr18 hM18) | ((with_reducible refine gate_store (t := 2) (p := 38) rfl ?_); refine store_event (t := 2) (p := 38) (v := ?vo_w19) (w1 := (w17.setCell ⟨go5, (x5_1 : Int).toNat * 4 + 3, none⟩ (.int .i64 (wrap64 ((wrap64 ((wrap64 (x1_1 + 1)) + 1)) + 1))))) ?hg ?ho ?hn ?hr ?_; (case ho => rfl); (case hg => rfl); (case hn => rfl); (case hr => first | (go_simp; done) | (go_simp; rfl)); intro w19 hw; have hg : w17.grownBy w19 (some go5) := (by rw [hw]; exact HP18.2); have hp_ : Kd.R k43 43 w19 w0.heap.size (fun k_ => (P0_ k_ ∨ w.heap.size ≤ k_)) (.slice (some ⟨go5, 0, none⟩) x0_1.length co10) y449 := (by rw [hw, Ny449.out]; exact HP18.1); clear HP18; replace HB := am_ (((have z0_ := GB5; Zv) : Below w0.heap.size w0 w19)); replace HK := am_ (Kept.of_grown (S := (fun k_ => P0_ k_)) hg Zu (fun k_ e_ => (HO_0.out.1 k_ e_))); replace HO_0 := am_ (hp_); clear hg hw hp_))
     go_roundg k1
     case measure => have := HK1.out; omega
     case rel => exact ⟨(y449), (wrap64 ((wrap64 ((wrap64 ((wrap64 (x1_1 + 1)) + 1)) + 1)) + 1)), (wrap64 (x5_1 + 1)), Za, Za, H', ⟨Zt⟩, ⟨(have z0_ := HO_0; Zq)⟩, ⟨Zu⟩, ⟨Zd⟩⟩
    ·rw [if_neg c4] at H
     exact absurd H (by simp)
   ·rw [if_neg c3] at H
    have c3b0 := decide_eq_false c3; clear c3; simp only [Option.some.injEq, Prod.mk.injEq] at H; obtain ⟨rfl, rfl⟩ := H; obtain ⟨Ao20, co20, eo20⟩ := Kd.R_slice HO_0.out; subst eo20
    go_wp2
    go_ret
    exact ⟨Zk, (have z0_ := HO_0; Zq), Zd, Zu⟩
def laws_heldCueS.l0 : Nat → List (S43) → Int → Int → Option (Int)
 | 0, _, _, _ => none
 | k + 1, x0, x1, x5 => if x5 < (x0.length : Int) then (if 0 ≤ x5 then (if ((rd_T43 x0 x5).f0) = x1 then (if ((rd_T43 x0 x5).f1) = (wrap64 (x1 + 1)) then ((laws_markText.f k (wrap64 ((wrap64 (x1 + 1)) + 1))).bind fun t472 => (if ((rd_T43 x0 x5).f2).toList = t472.toList then (if ((rd_T43 x0 x5).f3) = (wrap64 ((wrap64 ((wrap64 (x1 + 1)) + 1)) + 1)) then (laws_heldCueS.l0 k x0 (wrap64 ((wrap64 ((wrap64 ((wrap64 (x1 + 1)) + 1)) + 1)) + 1)) (wrap64 (x5 + 1))) else (some (-1))) else (some (-1)))) else (some (-1))) else (some (-1))) else (none)) else (some x1)
def laws_heldCueS.f (k : Nat) (l0 : List (S43)) (a1 : Int) : Option (Int) := laws_heldCueS.l0 k l0 a1 0
def laws_heldCueS.T10 : Bool × List (List Nat × List Nat) := (true, [([], []), ([], []), ([0, 1], [0, 1]), ([2], [2]), ([3], [3]), ([], []), ([5], [5]), ([4, 6], [4, 6])])
def laws_heldCueS.B10 : List Nat := [0, 0, 3, 7, 15, 0, 32, 127]
theorem laws_heldCueS.tab10 : rtab .any (opsOf Try.f86 10) = laws_heldCueS.T10 := by kernel_rfl
theorem laws_heldCueS.bits10 : waitsOk laws_heldCueS.T10.2 laws_heldCueS.B10 = true := by kernel_rfl
set_option maxHeartbeats 8000000 in
set_option maxRecDepth 100000 in
theorem laws_heldCueS.calls (k : Nat) (A0 : Option Addr) (c0 : Nat) (l0 : List (S43)) (a1 : Int) (r : Int) (w : World) (hr0 : Kd.C k43 w A0 l0.length l0) (hc0 : l0.length ≤ c0) (h : laws_heldCueS.f k l0 a1 = some r) (hr_ : 0 ≤ r := by first | exact HF.out.mg0 | exact Int.not_lt.1 (of_decide_eq_false (by assumption))) :
  Calls Try.prog 86 #[.slice A0 l0.length c0, .int .i64 a1] w fun e w' => e = .returned (.int .i64 r) ∧ Below w.heap.size w w' := by
 have HR_ := am_ hr_; clear hr_; have HR0 := am_ hr0; have HC0 := am_ hc0; clear hr0 hc0; have HB := am_ (Below.refl w.heap.size w); have H : (laws_heldCueS.l0 k l0 a1 0) = some r := h; clear h; have H' := am_ H; clear H
 go_enter Try.func86, Try.ntmps86
 go_wp2
 go_loopg [1, 5] k (fun kq v1 v5 w' => ∃ (x1_1 : Int) (x5_1 : Int), v1 = .int .i64 x1_1 ∧ v5 = .int .i64 x5_1 ∧ Aside0 (laws_heldCueS.l0 kq l0 x1_1 x5_1 = some r) ∧ Aside0 (kq ≤ k) ∧ Aside0 (Below w.heap.size w w'))
 case atStart => exact ⟨(a1), (0), Za, Za, H', ⟨Nat.le_refl _⟩, ⟨Zd⟩⟩
 case round =>
  clear H'
  try clear p2
  obtain ⟨x1_1, x5_1, rfl, rfl, HA, HK1, HB⟩ := hrel
  cases gk with
  | zero => exact absurd HA.out (by simp [laws_heldCueS.l0])
  | succ k1 =>
   have H := HA.out; clear HA; simp only [laws_heldCueS.l0] at H
   by_cases c3 : x5_1 < (l0.length : Int)
   ·rw [if_pos c3] at H
    have c3b0 := decide_eq_true c3; clear c3
    by_cases c4 : 0 ≤ x5_1
    ·rw [if_pos c4] at H
     have c4b0 := decide_eq_true c4; clear c4
     by_cases c5 : ((rd_T43 l0 x5_1).f0) = x1_1
     ·rw [if_pos c5] at H
      have c5b0 := beq_iff_eq.mpr c5; have c5b1 := bne_eq_false_iff_eq.mpr c5; clear c5
      by_cases c6 : ((rd_T43 l0 x5_1).f1) = (wrap64 (x1_1 + 1))
      ·rw [if_pos c6] at H
       have c6b0 := beq_iff_eq.mpr c6; have c6b1 := bne_eq_false_iff_eq.mpr c6; clear c6; replace H := Option.bind_eq_some_iff.mp H; obtain ⟨t472, A70, H⟩ := H; have A7 := am_ A70; clear A70
       by_cases c8 : ((rd_T43 l0 x5_1).f2).toList = t472.toList
       ·rw [if_pos c8] at H
        have c8b0 := beq_iff_eq.mpr c8; have c8b1 := bne_eq_false_iff_eq.mpr c8; clear c8
        by_cases c9 : ((rd_T43 l0 x5_1).f3) = (wrap64 ((wrap64 ((wrap64 (x1_1 + 1)) + 1)) + 1))
        ·rw [if_pos c9] at H
         have c9b0 := beq_iff_eq.mpr c9; have c9b1 := bne_eq_false_iff_eq.mpr c9; clear c9; have H' := am_ H; clear H; have p469 : 0 ≤ (x5_1 : Int) := of_decide_eq_true Zp; have q469 : x5_1 < (l0.length : Int) := of_decide_eq_true Zp; obtain ⟨ad469, e469, hx469_0, hx469_1, hx469_2, hx469_3⟩ := at_T43 HR0.out x5_1 p469 q469
         cases e469
         replace hx469_0 := cbH HB hx469_0; replace hx469_1 := cbH HB hx469_1; replace hx469_2 := cbH HB hx469_2; replace hx469_3 := cbH HB hx469_3; replace p469 := eq_true p469; replace q469 := eq_true q469; have p470 : 0 ≤ (x5_1 : Int) := of_decide_eq_true Zp; have q470 : x5_1 < (l0.length : Int) := of_decide_eq_true Zp; obtain ⟨ad470, e470, hx470_0, hx470_1, hx470_2, hx470_3⟩ := at_T43 HR0.out x5_1 p470 q470; obtain rfl : ad469 = ad470 := (by injection e470); replace hx470_0 := cbH HB hx470_0; replace hx470_1 := cbH HB hx470_1; replace hx470_2 := cbH HB hx470_2; replace hx470_3 := cbH HB hx470_3; replace p470 := eq_true p470; replace q470 := eq_true q470
         try go_wp2
         replace HB := am_ (below_drew1 HB.out); have p471 : 0 ≤ (x5_1 : Int) := of_decide_eq_true Zp; have q471 : x5_1 < (l0.length : Int) := of_decide_eq_true Zp; obtain ⟨ad471, e471, hx471_0, hx471_1, hx471_2, hx471_3⟩ := at_T43 HR0.out x5_1 p471 q471; have hw471_3 := hx471_3; have hw471_2 := hx471_2; have hw471_1 := hx471_1; have hw471_0 := hx471_0; obtain rfl : ad469 = ad471 := (by injection e471); replace hx471_0 := cbH HB hx471_0; replace hx471_1 := cbH HB hx471_1; replace hx471_2 := cbH HB hx471_2; replace hx471_3 := cbH HB hx471_3; replace p471 := eq_true p471; replace q471 := eq_true q471; refine start_ (n := 8) (S := fun w' => w'.cell? (ad469.add ((x5_1).toNat * 4)) = some (.int .i64 ((rd_T43 l0 x5_1).f0)) ∧ w'.cell? ⟨(ad469.add ((x5_1).toNat * 4)).block, (ad469.add ((x5_1).toNat * 4)).off + 1, none⟩ = some (.int .i64 ((rd_T43 l0 x5_1).f1)) ∧ w'.cell? ⟨(ad469.add ((x5_1).toNat * 4)).block, (ad469.add ((x5_1).toNat * 4)).off + 2, none⟩ = some (.string ((rd_T43 l0 x5_1).f2)) ∧ w'.cell? ⟨(ad469.add ((x5_1).toNat * 4)).block, (ad469.add ((x5_1).toNat * 4)).off + 3, none⟩ = some (.int .i64 ((rd_T43 l0 x5_1).f3))) (ds := []) (bT 8 0) Zj rfl rfl ⟨(cbH HB hw471_0 :), (cbH HB hw471_1 :), (cbH HB hw471_2 :), (cbH HB hw471_3 :)⟩ (fun hHeld => ?_); refine with_tabW laws_heldCueS.tab10 laws_heldCueS.bits10 (fun HT_ HW_ => ?_); generalize wr.drew = w10 at HB hx471_0 hx471_1 hx471_2 hx471_3 hHeld ⊢; refine pureZ HT_ 0 (some 30) (bT 8 1) ?_; refine pureZ HT_ 1 (some 31) (bT 8 2) ?_; refine pureZ HT_ 2 (some 32) (bT 8 3) ?_; refine pureZ HT_ 3 (some 33) (bT 8 4) ?_; refine pureZ HT_ 5 (some 35) #[true, true, true, true, false, true, false, false] ?_; refine takeZ4 HT_ HW_ 4 (some 34) (bT 8 6) hHeld ?_; refine one_ (i := 6) (N := some 36) (bT 8 7) rfl rfl (one_of HT_.out Zj) (by decide) (fun K hK => ?_); refine goes_ Try.func126 Zj rfl #[.int .i64 (wrap64 ((wrap64 (x1_1 + 1)) + 1))] (by rfl) rfl rfl Zo ?_
         with_reducible refine (laws_markText.calls k1 (wrap64 ((wrap64 (x1_1 + 1)) + 1)) t472 _ A7.out).mono ?_
         rintro e w11 ⟨rfl, hb⟩; refine ⟨_, rfl, ?_⟩; replace HB := (bsZ Zd hb)
         (try clear hb)
         (try clear hb2)
         (try clear hk)
         (try clear hi)
         refine hK.out _ _ ⟨(cbH HB hw471_0 :), (cbH HB hw471_1 :), (cbH HB hw471_2 :), (cbH HB hw471_3 :)⟩ (fun hHeld => ?_); clear hK K; refine normZ 36 ?_; refine pureZ HT_ 7 (some 37) (bT 8 8) ?_; refine done_ (done_of HT_.out Zj) ?_; have p473 : 0 ≤ (x5_1 : Int) := of_decide_eq_true Zp; have q473 : x5_1 < (l0.length : Int) := of_decide_eq_true Zp; obtain ⟨ad473, e473, hx473_0, hx473_1, hx473_2, hx473_3⟩ := at_T43 HR0.out x5_1 p473 q473; obtain rfl : ad469 = ad473 := (by injection e473); replace hx473_0 := cbH HB hx473_0; replace hx473_1 := cbH HB hx473_1; replace hx473_2 := cbH HB hx473_2; replace hx473_3 := cbH HB hx473_3; replace p473 := eq_true p473; replace q473 := eq_true q473
         try go_wp2
         go_roundg k1
         case measure => have := HK1.out; omega
         case rel => exact ⟨(wrap64 ((wrap64 ((wrap64 ((wrap64 (x1_1 + 1)) + 1)) + 1)) + 1)), (wrap64 (x5_1 + 1)), Za, Za, H', ⟨Zt⟩, ⟨Zd⟩⟩
        ·rw [if_neg c9] at H
         have c9b0 := beq_eq_false_iff_ne.mpr c9; have c9b1 := bne_iff_ne.mpr c9; exact absurd HR_.out Zaa
       ·rw [if_neg c8] at H
        have c8b0 := beq_eq_false_iff_ne.mpr c8; have c8b1 := bne_iff_ne.mpr c8; exact absurd HR_.out Zaa
      ·rw [if_neg c6] at H
       have c6b0 := beq_eq_false_iff_ne.mpr c6; have c6b1 := bne_iff_ne.mpr c6; obtain rfl := Option.some.inj H; have p469 : 0 ≤ (x5_1 : Int) := of_decide_eq_true Zp; have q469 : x5_1 < (l0.length : Int) := of_decide_eq_true Zp; obtain ⟨ad469, e469, hx469_0, hx469_1, hx469_2, hx469_3⟩ := at_T43 HR0.out x5_1 p469 q469
       cases e469
       replace hx469_0 := cbH HB hx469_0; replace hx469_1 := cbH HB hx469_1; replace hx469_2 := cbH HB hx469_2; replace hx469_3 := cbH HB hx469_3; replace p469 := eq_true p469; replace q469 := eq_true q469; have p470 : 0 ≤ (x5_1 : Int) := of_decide_eq_true Zp; have q470 : x5_1 < (l0.length : Int) := of_decide_eq_true Zp; obtain ⟨ad470, e470, hx470_0, hx470_1, hx470_2, hx470_3⟩ := at_T43 HR0.out x5_1 p470 q470; obtain rfl : ad469 = ad470 := (by injection e470); replace hx470_0 := cbH HB hx470_0; replace hx470_1 := cbH HB hx470_1; replace hx470_2 := cbH HB hx470_2; replace hx470_3 := cbH HB hx470_3; replace p470 := eq_true p470; replace q470 := eq_true q470
       go_wp2
       go_ret
       exact ⟨Zk, Zd⟩
     ·rw [if_neg c5] at H
      have c5b0 := beq_eq_false_iff_ne.mpr c5; have c5b1 := bne_iff_ne.mpr c5; obtain rfl := Option.some.inj H; have p469 : 0 ≤ (x5_1 : Int) := of_decide_eq_true Zp; have q469 : x5_1 < (l0.length : Int) := of_decide_eq_true Zp; obtain ⟨ad469, e469, hx469_0, hx469_1, hx469_2, hx469_3⟩ := at_T43 HR0.out x5_1 p469 q469
      cases e469
      replace hx469_0 := cbH HB hx469_0; replace hx469_1 := cbH HB hx469_1; replace hx469_2 := cbH HB hx469_2; replace hx469_3 := cbH HB hx469_3; replace p469 := eq_true p469; replace q469 := eq_true q469
      go_wp2
      go_ret
      exact ⟨Zk, Zd⟩
    ·rw [if_neg c4] at H
     exact absurd H (by simp)
   ·rw [if_neg c3] at H
    have c3b0 := decide_eq_false c3; clear c3; obtain rfl := Option.some.inj H
    go_wp2
    go_ret
    exact ⟨Zk, Zd⟩
end Go.Proofs.Ytnlbaflbhicooaa.F
