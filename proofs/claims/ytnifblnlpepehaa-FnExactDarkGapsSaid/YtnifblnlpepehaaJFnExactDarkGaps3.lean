import Derived.Test.YtnifblnlpepehaaJFnExactDarkGaps2
import Derived.Below
import Derived.Deep.Draws
import Derived.Deep.AppendLies
import Derived.Maps.AppendAt
import Derived.OwnWalk
import Derived.Laws.BytesArg
import Derived.Laws.MakeOwn
import Derived.Laws.OwnMore
import Derived.Tactics
import Derived.Lib.ConvBytes
import Derived.Laws.Slices
import Derived.WalkKit
import Derived.KernelRfl
import Derived.RowKit3
import Derived.Deep.LoopGhost
import Derived.Deep.QuietTactic
import Derived.BigQuiet
import Derived.WideLaws
import Derived.Deep.DeepCutAuto
import Derived.Deep.CutBlock
import Derived.Deep.RegionHeld3
import Derived.Lib.AppendStr
import Derived.ArgAppend
import Derived.Laws.IdiomCopy
import Derived.RowKit
import Derived.OrdersHeld
import Derived.Laws.BitsLemmas
import Derived.Laws.StructEq
import Derived.Test.YtnifblnlpepehaaProg
import Derived.ChangeSlices
import Derived.OpenShut
namespace Go.Proofs.Ytnifblnlpepehaa.F
open Go.RowKit Go.Proofs.YtnifblnlpepehaaW.PrintWords Go.Proofs.YtnifblnlpepehaaW.PrintLast Go.Proofs.YtnifblnlpepehaaW.PrintMore
attribute [local go_sem] max2_int min2_int max_two min_two max_three min_three max_four min_four
set_option linter.unusedVariables false
set_option linter.unusedSimpArgs false
def laws_szArticle.f (a0_0 : ByteArray) (a0_1 : Int) (a0_2 : Int) (a0_3 : Int) (a0_4 : Int) (a0_5 : Int) (a0_6 : Int) (a0_7 : Int) (a0_8 : Int) (a1 : Int) : Option (Int) := if (wrap64 (a1 - (a0_0.size : Int))) < 0 then (some (-1)) else (some (wrap64 (a1 - (a0_0.size : Int))))
set_option maxHeartbeats 8000000 in
set_option maxRecDepth 100000 in
theorem laws_szArticle.calls (a0_0 : ByteArray) (a0_1 : Int) (a0_2 : Int) (a0_3 : Int) (a0_4 : Int) (a0_5 : Int) (a0_6 : Int) (a0_7 : Int) (a0_8 : Int) (a1 : Int) (r : Int) (w : World) (h : laws_szArticle.f a0_0 a0_1 a0_2 a0_3 a0_4 a0_5 a0_6 a0_7 a0_8 a1 = some r) :
  Calls Try.prog 47 #[.agg #[.string a0_0, .int .i64 a0_1, .int .i64 a0_2, .int .i64 a0_3, .int .i64 a0_4, .int .i64 a0_5, .int .i64 a0_6, .int .i64 a0_7, .int .i64 a0_8], .int .i64 a1] w fun e w' => e = .returned (.int .i64 r) ∧ Below w.heap.size w w' := by
 have hu74 := Try.underlying74; have HB := am_ (Below.refl w.heap.size w); have H : (if (wrap64 (a1 - (a0_0.size : Int))) < 0 then (some (-1)) else (some (wrap64 (a1 - (a0_0.size : Int))))) = some r := h; clear h
 by_cases c3 : (wrap64 (a1 - (a0_0.size : Int))) < 0
 ·rw [if_pos c3] at H
  have c3b0 := decide_eq_true c3; clear c3; obtain rfl := Option.some.inj H
  go_enter Try.func47, Try.ntmps47
  go_wp2_with (first | ((with_reducible refine gate_dst (N := 2) rfl ?_); refine boxZ 2 #[.string a0_0, .int .i64 a0_1, .int .i64 a0_2, .int .i64 a0_3, .int .i64 a0_4, .int .i64 a0_5, .int .i64 a0_6, .int .i64 a0_7, .int .i64 a0_8] 74 ?_; intro gb850 hg w4 hbox hb; replace BK850 := am_ (hbox); replace GW850 := am_ ((Zc : w.heap.size ≤ gb850)); replace GE850 := GW850; replace HB := (bsZ Zd hb); clear hb hbox hg; refine ci9 BK850 ?_; intros))
  go_ret
  exact ⟨Zj, (Zf GE850)⟩
 ·rw [if_neg c3] at H
  have c3b0 := decide_eq_false c3; clear c3; obtain rfl := Option.some.inj H
  go_enter Try.func47, Try.ntmps47
  go_wp2_with (first | ((with_reducible refine gate_dst (N := 2) rfl ?_); refine boxZ 2 #[.string a0_0, .int .i64 a0_1, .int .i64 a0_2, .int .i64 a0_3, .int .i64 a0_4, .int .i64 a0_5, .int .i64 a0_6, .int .i64 a0_7, .int .i64 a0_8] 74 ?_; intro gb850 hg w6 hbox hb; replace BK850 := am_ (hbox); replace GW850 := am_ ((Zc : w.heap.size ≤ gb850)); replace GE850 := GW850; replace HB := (bsZ Zd hb); clear hb hbox hg; refine ci9 BK850 ?_; intros))
  go_ret
  exact ⟨Zj, (Zf GE850)⟩
 /-! ### laws_szArticleS: function 21 -/
def laws_szArticleS.l0 : Nat → List (S74) → Int → Int → Option (Int)
 | 0, _, _, _ => none
 | k + 1, x0, x1, x5 => if x5 < (x0.length : Int) then (if 0 ≤ x5 then ((laws_szArticle.f ((rd_T74 x0 x5).f0) ((rd_T74 x0 x5).f1) ((rd_T74 x0 x5).f2) ((rd_T74 x0 x5).f3) ((rd_T74 x0 x5).f4) ((rd_T74 x0 x5).f5) ((rd_T74 x0 x5).f6) ((rd_T74 x0 x5).f7) ((rd_T74 x0 x5).f8) x1).bind fun t852 => (if t852 < 0 then (some (-1)) else (laws_szArticleS.l0 k x0 t852 (wrap64 (x5 + 1))))) else (none)) else (some x1)
def laws_szArticleS.f (k : Nat) (l0 : List (S74)) (a1 : Int) : Option (Int) := if (wrap64 (a1 - (l0.length : Int))) < 0 then (some (-1)) else (laws_szArticleS.l0 k l0 (wrap64 (a1 - (l0.length : Int))) 0)
set_option maxHeartbeats 8000000 in
set_option maxRecDepth 100000 in
theorem laws_szArticleS.calls (k : Nat) (A0 : Option Addr) (c0 : Nat) (l0 : List (S74)) (a1 : Int) (r : Int) (w : World) (hr0 : Kd.C k74 w A0 l0.length l0) (hc0 : l0.length ≤ c0) (h : laws_szArticleS.f k l0 a1 = some r) :
  Calls Try.prog 21 #[.slice A0 l0.length c0, .int .i64 a1] w fun e w' => e = .returned (.int .i64 r) ∧ Below w.heap.size w w' := by
 have hu74 := Try.underlying74; have HR0 := am_ hr0; have HC0 := am_ hc0; clear hr0 hc0; have HB := am_ (Below.refl w.heap.size w); have H : (if (wrap64 (a1 - (l0.length : Int))) < 0 then (some (-1)) else (laws_szArticleS.l0 k l0 (wrap64 (a1 - (l0.length : Int))) 0)) = some r := h; clear h
 by_cases c3 : (wrap64 (a1 - (l0.length : Int))) < 0
 ·rw [if_pos c3] at H
  have c3b0 := decide_eq_true c3; clear c3; obtain rfl := Option.some.inj H
  go_enter Try.func21, Try.ntmps21
  go_wp2
  go_ret
  exact ⟨Zj, Zd⟩
 ·rw [if_neg c3] at H
  have c3b0 := decide_eq_false c3; clear c3; have H' := am_ H; clear H
  go_enter Try.func21, Try.ntmps21
  go_wp2
  go_loopg [1, 5] k (fun kq v1 v5 w' => ∃ (x1_1 : Int) (x5_1 : Int), v1 = .int .i64 x1_1 ∧ v5 = .int .i64 x5_1 ∧ Aside0 (laws_szArticleS.l0 kq l0 x1_1 x5_1 = some r) ∧ Aside0 (kq ≤ k) ∧ Aside0 (Below w.heap.size w w'))
  case atStart => exact ⟨(wrap64 (a1 - (l0.length : Int))), (0), Za, Za, H', ⟨Nat.le_refl _⟩, ⟨Zd⟩⟩
  case round =>
   clear H'
   try clear c2
   try clear p2
   try clear c3
   try clear c3b0
   obtain ⟨x1_1, x5_1, rfl, rfl, HA, HK1, HB⟩ := hrel
   cases gk with
   | zero => exact absurd HA.out (by simp [laws_szArticleS.l0])
   | succ k1 =>
    have H := HA.out; clear HA; simp only [laws_szArticleS.l0] at H
    by_cases c4 : x5_1 < (l0.length : Int)
    ·rw [if_pos c4] at H
     have c4b0 := decide_eq_true c4; clear c4
     by_cases c5 : 0 ≤ x5_1
     ·rw [if_pos c5] at H
      have c5b0 := decide_eq_true c5; clear c5; replace H := Option.bind_eq_some_iff.mp H; obtain ⟨t852, A60, H⟩ := H; have A6 := am_ A60; clear A60; have HS_ := am_ H; clear H; have p851 : 0 ≤ (x5_1 : Int) := of_decide_eq_true Zn; have q851 : x5_1 < (l0.length : Int) := of_decide_eq_true Zn; obtain ⟨ad851, e851, hx851_0, hx851_1, hx851_2, hx851_3, hx851_4, hx851_5, hx851_6, hx851_7, hx851_8⟩ := at_T74 HR0.out x5_1 p851 q851
      cases e851
      replace hx851_0 := cbH HB hx851_0; replace hx851_1 := cbH HB hx851_1; replace hx851_2 := cbH HB hx851_2; replace hx851_3 := cbH HB hx851_3; replace hx851_4 := cbH HB hx851_4; replace hx851_5 := cbH HB hx851_5; replace hx851_6 := cbH HB hx851_6; replace hx851_7 := cbH HB hx851_7; replace hx851_8 := cbH HB hx851_8; replace p851 := eq_true p851; replace q851 := eq_true q851
      go_wp2_with (first | ((with_reducible refine gate_callee (f := 47) rfl ?_); refine gZ 23 Try.func47 #[.agg #[.string ((rd_T74 l0 x5_1).f0), .int .i64 ((rd_T74 l0 x5_1).f1), .int .i64 ((rd_T74 l0 x5_1).f2), .int .i64 ((rd_T74 l0 x5_1).f3), .int .i64 ((rd_T74 l0 x5_1).f4), .int .i64 ((rd_T74 l0 x5_1).f5), .int .i64 ((rd_T74 l0 x5_1).f6), .int .i64 ((rd_T74 l0 x5_1).f7), .int .i64 ((rd_T74 l0 x5_1).f8)], .int .i64 x1_1] ?_; (with_reducible refine (laws_szArticle.calls ((rd_T74 l0 x5_1).f0) ((rd_T74 l0 x5_1).f1) ((rd_T74 l0 x5_1).f2) ((rd_T74 l0 x5_1).f3) ((rd_T74 l0 x5_1).f4) ((rd_T74 l0 x5_1).f5) ((rd_T74 l0 x5_1).f6) ((rd_T74 l0 x5_1).f7) ((rd_T74 l0 x5_1).f8) x1_1 t852 _ A6.out).mono ?_); rintro e w8 ⟨rfl, hb⟩; refine ⟨_, rfl, ?_⟩; replace HB := (bsZ Zd hb); clear hb; refine ?roundEnd))
      case roundEnd =>
       by_cases c7 : t852 < 0
       ·have H := HS_.out
        clear HS_; rw [if_pos c7] at H; have c7b0 := decide_eq_true c7; clear c7; obtain rfl := Option.some.inj H
        go_wp2_with (first | fail)
        go_ret
        exact ⟨Zj, Zd⟩
       ·have H := HS_.out
        clear HS_; rw [if_neg c7] at H; have c7b0 := decide_eq_false c7; clear c7; have H' := am_ H; clear H
        go_wp2_with (first | fail)
        go_roundg k1
        case measure => have := HK1.out; omega
        case rel => exact ⟨(t852), (wrap64 (x5_1 + 1)), Za, Za, H', ⟨Zs⟩, ⟨Zd⟩⟩
     ·rw [if_neg c5] at H
      exact absurd H (by simp)
    ·rw [if_neg c4] at H
     have c4b0 := decide_eq_false c4; clear c4; obtain rfl := Option.some.inj H
     go_wp2
     go_ret
     exact ⟨Zj, Zd⟩
 /-! ### laws_toArticle: function 58 -/
def laws_toArticle.f (a0_0 : ByteArray) (a0_1 : Int) (a0_2 : Int) (a0_3 : Int) (a0_4 : Int) (a0_5 : Int) (a0_6 : Int) (a0_7 : Int) (a0_8 : Int) : Option (ByteArray × Int × Int × Int × Int × Int × Int × Int × Int) := some (a0_0, a0_1, a0_2, a0_3, a0_4, a0_5, a0_6, a0_7, a0_8)
set_option maxHeartbeats 8000000 in
set_option maxRecDepth 100000 in
theorem laws_toArticle.calls (a0_0 : ByteArray) (a0_1 : Int) (a0_2 : Int) (a0_3 : Int) (a0_4 : Int) (a0_5 : Int) (a0_6 : Int) (a0_7 : Int) (a0_8 : Int) (r1 : ByteArray) (r2 : Int) (r3 : Int) (r4 : Int) (r5 : Int) (r6 : Int) (r7 : Int) (r8 : Int) (r9 : Int) (w : World) (h : laws_toArticle.f a0_0 a0_1 a0_2 a0_3 a0_4 a0_5 a0_6 a0_7 a0_8 = some (r1, r2, r3, r4, r5, r6, r7, r8, r9)) :
  Calls Try.prog 58 #[.agg #[.string a0_0, .int .i64 a0_1, .int .i64 a0_2, .int .i64 a0_3, .int .i64 a0_4, .int .i64 a0_5, .int .i64 a0_6, .int .i64 a0_7, .int .i64 a0_8]] w fun e w' => e = .returned (.agg #[.string r1, .int .i64 r2, .int .i64 r3, .int .i64 r4, .int .i64 r5, .int .i64 r6, .int .i64 r7, .int .i64 r8, .int .i64 r9]) ∧ Below w.heap.size w w' := by
 have hu74 := Try.underlying74; have hu91 := Try.underlying91; have HB := am_ (Below.refl w.heap.size w); have H : (some (a0_0, a0_1, a0_2, a0_3, a0_4, a0_5, a0_6, a0_7, a0_8)) = some (r1, r2, r3, r4, r5, r6, r7, r8, r9) := h; clear h; simp only [Option.some.injEq, Prod.mk.injEq] at H; obtain ⟨rfl, rfl, rfl, rfl, rfl, rfl, rfl, rfl, rfl⟩ := H
 go_enter Try.func58, Try.ntmps58
 go_wp2_with (first | ((with_reducible refine gate_dst (N := 1) rfl ?_); refine boxZ 1 #[.string a0_0, .int .i64 a0_1, .int .i64 a0_2, .int .i64 a0_3, .int .i64 a0_4, .int .i64 a0_5, .int .i64 a0_6, .int .i64 a0_7, .int .i64 a0_8] 74 ?_; intro gb878 hg w2 hbox hb; replace BK878 := am_ (hbox); replace GW878 := am_ ((Zc : w.heap.size ≤ gb878)); replace GE878 := GW878; replace HB := (bsZ Zd hb); clear hb hbox hg) | ((with_reducible refine gate_dst (N := 2) rfl ?_); refine boxZ 2 #[.string (⟨#[]⟩ : ByteArray), .int .i64 0, .int .i64 0, .int .i64 0, .int .i64 0, .int .i64 0, .int .i64 0, .int .i64 0, .int .i64 0] 91 ?_; intro gb879 hg w3 hbox hb; replace BK879 := am_ (hbox); replace GW879 := am_ (((Ze GE878) : w.heap.size ≤ gb879)); replace GE879 := GW879; replace HB := (bsZ (Zf GE878) hb); replace NB878_879 := am_ ((by rw [hg]; exact Nat.ne_of_lt (blk_lt (g := gb878) (b0Z BK878)) : gb878 ≠ gb879)); replace NB879_878 := am_ ((by rw [hg]; exact Nat.ne_of_gt (blk_lt (g := gb878) (b0Z BK878)) : gb879 ≠ gb878)); replace BK878 := (bkZ BK878 hb); clear hb hbox hg) | ((with_reducible refine gate_dst (N := 3) rfl ?_); refine boxZ 3 #[.string (⟨#[]⟩ : ByteArray), .int .i64 0, .int .i64 0, .int .i64 0, .int .i64 0, .int .i64 0, .int .i64 0, .int .i64 0, .int .i64 0] 91 ?_; intro gb880 hg w4 hbox hb; replace BK880 := am_ (hbox); replace GW880 := am_ (((Zg GE878 GE879) : w.heap.size ≤ gb880)); replace GE880 := GW880; replace HB := (bsZ (Zh GE878 GE879) hb); replace NB878_880 := am_ ((by rw [hg]; exact Nat.ne_of_lt (blk_lt (g := gb878) (b0Z BK878)) : gb878 ≠ gb880)); replace NB880_878 := am_ ((by rw [hg]; exact Nat.ne_of_gt (blk_lt (g := gb878) (b0Z BK878)) : gb880 ≠ gb878)); replace BK878 := (bkZ BK878 hb); replace NB879_880 := am_ ((by rw [hg]; exact Nat.ne_of_lt (blk_lt (g := gb879) (b0Z BK879)) : gb879 ≠ gb880)); replace NB880_879 := am_ ((by rw [hg]; exact Nat.ne_of_gt (blk_lt (g := gb879) (b0Z BK879)) : gb880 ≠ gb879)); replace BK879 := (bkZ BK879 hb); clear hb hbox hg; have hnb5 := NB878_879.out; have hnc5 := NB879_878.out; have hnb6 := NB878_880.out; have hnc6 := NB880_878.out; refine ci9 BK878 ?_; intros; have hnb8 := NB880_879.out; have hnc8 := NB879_880.out; refine ci9 BK880 ?_; intros; refine ci9 BK879 ?_; intros))
 refine bodyPost_ret (results_cell_row rfl _ _ gb879 91 #[.string a0_0, .int .i64 a0_1, .int .i64 a0_2, .int .i64 a0_3, .int .i64 a0_4, .int .i64 a0_5, .int .i64 a0_6, .int .i64 a0_7, .int .i64 a0_8] (0, 0) _ rfl (bmZ BK879 NB879_880) Try.underlying91 rfl Zi) rfl ?_; exact ⟨Zj, (Zk GE878 GE879 GE880)⟩
 /-! ### laws_fillerArticle: function 59 -/
def laws_fillerArticle.f  : Option (ByteArray × Int × Int × Int × Int × Int × Int × Int × Int) := some ((⟨#[126, 115, 112, 97, 114, 101, 126]⟩ : ByteArray), (-7000000000000000101), (-7000000000000000101), (-7000000000000000101), (-7000000000000000101), (-7000000000000000101), (-7000000000000000101), (-7000000000000000101), (-7000000000000000101))
set_option maxHeartbeats 8000000 in
set_option maxRecDepth 100000 in
theorem laws_fillerArticle.calls  (r1 : ByteArray) (r2 : Int) (r3 : Int) (r4 : Int) (r5 : Int) (r6 : Int) (r7 : Int) (r8 : Int) (r9 : Int) (w : World) (h : laws_fillerArticle.f  = some (r1, r2, r3, r4, r5, r6, r7, r8, r9)) :
  Calls Try.prog 59 #[] w fun e w' => e = .returned (.agg #[.string r1, .int .i64 r2, .int .i64 r3, .int .i64 r4, .int .i64 r5, .int .i64 r6, .int .i64 r7, .int .i64 r8, .int .i64 r9]) ∧ Below w.heap.size w w' := by
 have hu91 := Try.underlying91; have HB := am_ (Below.refl w.heap.size w); have H : (some ((⟨#[126, 115, 112, 97, 114, 101, 126]⟩ : ByteArray), (-7000000000000000101), (-7000000000000000101), (-7000000000000000101), (-7000000000000000101), (-7000000000000000101), (-7000000000000000101), (-7000000000000000101), (-7000000000000000101))) = some (r1, r2, r3, r4, r5, r6, r7, r8, r9) := h; clear h; simp only [Option.some.injEq, Prod.mk.injEq] at H; obtain ⟨rfl, rfl, rfl, rfl, rfl, rfl, rfl, rfl, rfl⟩ := H
 go_enter Try.func59, Try.ntmps59
 go_wp2_with (first | ((with_reducible refine gate_dst (N := 0) rfl ?_); refine boxZ 0 #[.string (⟨#[]⟩ : ByteArray), .int .i64 0, .int .i64 0, .int .i64 0, .int .i64 0, .int .i64 0, .int .i64 0, .int .i64 0, .int .i64 0] 91 ?_; intro gb881 hg w1 hbox hb; replace BK881 := am_ (hbox); replace GW881 := am_ ((Zc : w.heap.size ≤ gb881)); replace GE881 := GW881; replace HB := (bsZ Zd hb); clear hb hbox hg; refine ci9 BK881 ?_; intros))
 refine bodyPost_ret (results_cell_row rfl _ _ gb881 91 #[.string (⟨#[126, 115, 112, 97, 114, 101, 126]⟩ : ByteArray), .int .i64 (-7000000000000000101), .int .i64 (-7000000000000000101), .int .i64 (-7000000000000000101), .int .i64 (-7000000000000000101), .int .i64 (-7000000000000000101), .int .i64 (-7000000000000000101), .int .i64 (-7000000000000000101), .int .i64 (-7000000000000000101)] (0, 0) _ rfl (bpZ BK881) Try.underlying91 rfl Zi) rfl ?_; exact ⟨Zj, (Zf GE881)⟩
 /-! ### laws_toArticleS: function 28 -/
 mutual
def laws_toArticleS.j0 : Nat → List (S74) → Bool → Option ((List (S91)))
 | 0, _, _ => none
 | k + 1, x0, x13 => if x13 = true then (some ([] : List (S91))) else ((laws_roomBehind.f (x0.length : Int)).bind fun t882 => (if 0 ≤ (wrap64 ((x0.length : Int) + t882)) then (if (wrap64 ((x0.length : Int) + t882) : Int).toNat ≤ 3518437208883 then (laws_toArticleS.l0 k x0 (List.replicate (wrap64 ((x0.length : Int) + t882) : Int).toNat z91) 0) else (none)) else (none)))
def laws_toArticleS.l0 : Nat → List (S74) → List (S91) → Int → Option ((List (S91)))
 | 0, _, _, _ => none
 | k + 1, x0, x5, x6 => if x6 < (x0.length : Int) then (if 0 ≤ x6 then ((laws_toArticle.f ((rd_T74 x0 x6).f0) ((rd_T74 x0 x6).f1) ((rd_T74 x0 x6).f2) ((rd_T74 x0 x6).f3) ((rd_T74 x0 x6).f4) ((rd_T74 x0 x6).f5) ((rd_T74 x0 x6).f6) ((rd_T74 x0 x6).f7) ((rd_T74 x0 x6).f8)).bind fun bt887 => (if x6 < (x5.length : Int) then (laws_toArticleS.l0 k x0 (x5.set (x6 : Int).toNat (⟨bt887.1, bt887.2.1, bt887.2.2.1, bt887.2.2.2.1, bt887.2.2.2.2.1, bt887.2.2.2.2.2.1, bt887.2.2.2.2.2.2.1, bt887.2.2.2.2.2.2.2.1, bt887.2.2.2.2.2.2.2.2⟩ : S91)) (wrap64 (x6 + 1))) else (none))) else (none)) else (laws_toArticleS.l1 k x0 x5 (x0.length : Int))
def laws_toArticleS.l1 : Nat → List (S74) → List (S91) → Int → Option ((List (S91)))
 | 0, _, _, _ => none
 | k + 1, x0, x5, x7 => if x7 < (x5.length : Int) then ((laws_fillerArticle.f).bind fun bt897 => (if 0 ≤ x7 then (laws_toArticleS.l1 k x0 (x5.set (x7 : Int).toNat (⟨bt897.1, bt897.2.1, bt897.2.2.1, bt897.2.2.2.1, bt897.2.2.2.2.1, bt897.2.2.2.2.2.1, bt897.2.2.2.2.2.2.1, bt897.2.2.2.2.2.2.2.1, bt897.2.2.2.2.2.2.2.2⟩ : S91)) (wrap64 (x7 + 1))) else (none))) else (if 0 ≤ (x0.length : Int) then (if (x0.length : Int) ≤ (x5.length : Int) then (some (x5.take ((x0.length : Int) : Int).toNat)) else (none)) else (none))
end
def laws_toArticleS.f (k : Nat) (l0 : List (S74)) (a1 : Bool) : Option ((List (S91))) := if a1 = true then (laws_toArticleS.j0 k l0 ((l0.length : Int) == 0)) else (laws_toArticleS.j0 k l0 false)
set_option maxHeartbeats 8000000 in
set_option maxRecDepth 100000 in
theorem laws_toArticleS.calls (k : Nat) (A0 : Option Addr) (c0 : Nat) (l0 : List (S74)) (a1 : Bool) (r : List (S91)) (w : World) (hr0 : Kd.C k74 w A0 l0.length l0) (hc0 : l0.length ≤ c0) (h : laws_toArticleS.f k l0 a1 = some r) :
  Calls Try.prog 28 #[.slice A0 l0.length c0, .bool a1] w fun e w' => ∃ v0_ : Value, e = .returned (v0_) ∧ Kd.R k91 91 w' w.heap.size (fun _ => True) v0_ r ∧ Below w.heap.size w w' := by
 have hu74 := Try.underlying74; have hu91 := Try.underlying91; have HR0 := am_ hr0; have HC0 := am_ hc0; clear hr0 hc0; have HB := am_ (Below.refl w.heap.size w); have H : (if a1 = true then (laws_toArticleS.j0 k l0 ((l0.length : Int) == 0)) else (laws_toArticleS.j0 k l0 false)) = some r := h; clear h; have HC3 := am_ H; clear H
 go_enter Try.func28, Try.ntmps28
 go_upto_region 1 with (fail)
 go_cut [13] (fun v13 wc => ∃ (kq : Nat) (x13_2 : Bool), v13 = .bool x13_2 ∧ Aside0 (laws_toArticleS.j0 kq l0 x13_2 = some r) ∧ Aside0 (kq ≤ k) ∧ Aside0 (Below w.heap.size w wc))
 case first =>
  have H := HC3.out; clear HC3
  by_cases c4 : a1 = true
  ·subst c4
   rw [if_pos rfl] at H; have H' := am_ H; clear H
   go_wp2
   go_meet
   case rel => exact ⟨_, (((l0.length : Int) == 0)), Za, H', ⟨Zl⟩, ⟨Zd⟩⟩
  ·replace c4 := Bool.eq_false_iff.mpr c4
   subst c4; rw [if_neg (show ¬ (false = true) by decide)] at H; have H' := am_ H; clear H
   go_wp2
   go_meet
   case rel => exact ⟨_, (false), Za, H', ⟨Zl⟩, ⟨Zd⟩⟩
 case rest =>
  clear HC3
  try clear c2
  try clear p2
  try clear c4
  obtain ⟨kq, x13_2, rfl, HA, HJ2, HB⟩ := hcut
  cases kq with
  | zero => exact absurd HA.out (by simp [laws_toArticleS.j0])
  | succ kj2 =>
   have H := HA.out; clear HA; simp only [laws_toArticleS.j0] at H
   by_cases c5 : x13_2 = true
   ·subst c5
    rw [if_pos rfl] at H; obtain rfl := Option.some.inj H
    go_wp2
    go_ret
    exact ⟨_, Zj, Zm, Zd⟩
   ·replace c5 := Bool.eq_false_iff.mpr c5
    subst c5; rw [if_neg (show ¬ (false = true) by decide)] at H; replace H := Option.bind_eq_some_iff.mp H; obtain ⟨t882, A60, H⟩ := H; have A6 := am_ A60; clear A60; obtain ⟨ji7, hji7⟩ : ∃ j_ : Int, (wrap64 ((l0.length : Int) + t882)) = j_ := ⟨_, rfl⟩
    replace H : (if 0 ≤ (ji7) then (if (ji7 : Int).toNat ≤ 3518437208883 then (laws_toArticleS.l0 kj2 l0 (List.replicate (ji7 : Int).toNat z91) 0) else (none)) else (none)) = some r := by first | (rw [hji7] at H; exact H) | (simp only [hji7] at H ⊢; exact H)
    (try rw [hji7] at A6)
    have hji7w : (IntKind.i64.wrap ((l0.length : Int) + t882)) = ji7 := (i64_w _).trans hji7
    by_cases c8 : 0 ≤ (ji7)
    ·rw [if_pos c8] at H
     have c8b0 := eq_true c8; have c8b1 := decide_eq_true c8; clear c8
     by_cases c9 : (ji7 : Int).toNat ≤ 3518437208883
     ·rw [if_pos c9] at H
      have c9b0 := eq_true c9; have c9b1 := decide_eq_true c9; clear c9; obtain ⟨y883, hy883⟩ : ∃ y_ : List (S91), y_ = (List.replicate (ji7 : Int).toNat z91) := ⟨_, rfl⟩
      (first | (rw [← hy883] at H; with_reducible replace H := bindZ H) | rw [← hy883] at H | skip)
      have Ny883 := am_ hy883; clear hy883; have H' := am_ H; clear H
      go_wp2_with (first | ((with_reducible refine gate_callee (f := 55) rfl ?_); refine gZ 18 Try.func55 #[.int .i64 (l0.length : Int)] ?_; (with_reducible refine (laws_roomBehind.calls (l0.length : Int) t882 _ A6.out).mono ?_); rintro e w' ⟨rfl, ⟨nd, rfl⟩⟩; refine ⟨_, rfl, ?_⟩) | ((with_reducible refine gate_dst (N := 20) rfl ?_); (try (refine gate_guard (by rfl) ?_; dsimp only)); refine Kd.R_make k91 _ 91 rfl (N := 20) rfl 32 _ _ rfl ji7 rfl rfl Try.underlying32 (.agg #[(.string ⟨#[]⟩), (.int .i64 0), (.int .i64 0), (.int .i64 0), (.int .i64 0), (.int .i64 0), (.int .i64 0), (.int .i64 0), (.int .i64 0)]) 80 info91 rfl (by decide) (by omega) z91 (ok := fun _ => True) (okp := fun _ => True) (k91_mkM _ _ _ z91 ) (fun _ hk => hk) trivial (of_decide_eq_true Zn) (Nat.le_trans (Nat.mul_le_mul_right _ (of_decide_eq_true Zn : ji7.toNat ≤ 3518437208883)) (by omega)) (Below.refl _ _) (Nat.le_refl _) ?_; intro v884 w10 ho11 hb hg_ hnew_; clear hg_ hnew_; (first | rw [← Ny883.out] at ho11 | (simp only [Int.reduceToNat] at ho11; rw [← Ny883.out] at ho11)); replace HO885 := am_ (Kd.R_lower ho11 (below_size Zd)); replace HB := (bsZ Zd hb); clear hb ho11))
      go_loopg [6] kj2 (fun kq v6 w' => ∃ (x5_2 : List (S91)) (x6_2 : Int), v6 = .int .i64 x6_2 ∧ Aside0 (laws_toArticleS.l0 kq l0 x5_2 x6_2 = some r) ∧ Aside0 (kq ≤ kj2) ∧ Aside0 (Kd.R k91 91 w' w.heap.size (fun _ => True) v884 x5_2) ∧ Aside0 (Below w.heap.size w w'))
      case atStart => exact ⟨(y883), (0), Za, H', ⟨Nat.le_refl _⟩, ⟨(Zo HO885)⟩, ⟨Zd⟩⟩
      case round =>
       clear H'
       try clear c2
       try clear p2
       try clear c4
       try clear c5
       try clear p6
       try clear c8
       try clear c8b0
       try clear c8b1
       try clear c9
       try clear c9b0
       try clear c9b1
       try clear p2
       obtain ⟨x5_2, x6_2, rfl, HA, HK2, HO_5, HB⟩ := hrel
       cases gk with
       | zero => exact absurd HA.out (by simp [laws_toArticleS.l0])
       | succ k2 =>
        have H := HA.out; clear HA; simp only [laws_toArticleS.l0] at H
        by_cases c12 : x6_2 < (l0.length : Int)
        ·rw [if_pos c12] at H
         have c12b0 := decide_eq_true c12; clear c12
         by_cases c13 : 0 ≤ x6_2
         ·rw [if_pos c13] at H
          have c13b0 := decide_eq_true c13; clear c13; replace H := Option.bind_eq_some_iff.mp H; obtain ⟨⟨t887, t888, t889, t890, t891, t892, t893, t894, t895⟩, A140, H⟩ := H
          dsimp only at H
          have A14 := am_ A140; clear A140
          by_cases c15 : x6_2 < (x5_2.length : Int)
          ·rw [if_pos c15] at H
           have c15b0 := decide_eq_true c15; clear c15; obtain ⟨y896, hy896⟩ : ∃ y_ : List (S91), y_ = (x5_2.set (x6_2 : Int).toNat (⟨t887, t888, t889, t890, t891, t892, t893, t894, t895⟩ : S91)) := ⟨_, rfl⟩
           (first | (rw [← hy896] at H; with_reducible replace H := bindZ H) | rw [← hy896] at H | skip)
           have Ny896 := am_ hy896; clear hy896; have H' := am_ H; clear H; have p886 : 0 ≤ (x6_2 : Int) := of_decide_eq_true Zn; have q886 : x6_2 < (l0.length : Int) := of_decide_eq_true Zn; obtain ⟨ad886, e886, hx886_0, hx886_1, hx886_2, hx886_3, hx886_4, hx886_5, hx886_6, hx886_7, hx886_8⟩ := at_T74 HR0.out x6_2 p886 q886
           cases e886
           replace hx886_0 := cbH HB hx886_0; replace hx886_1 := cbH HB hx886_1; replace hx886_2 := cbH HB hx886_2; replace hx886_3 := cbH HB hx886_3; replace hx886_4 := cbH HB hx886_4; replace hx886_5 := cbH HB hx886_5; replace hx886_6 := cbH HB hx886_6; replace hx886_7 := cbH HB hx886_7; replace hx886_8 := cbH HB hx886_8; replace p886 := eq_true p886; replace q886 := eq_true q886
           go_wp2_with (first | ((with_reducible refine gate_callee (f := 58) rfl ?_); refine gZ 33 Try.func58 #[.agg #[.string ((rd_T74 l0 x6_2).f0), .int .i64 ((rd_T74 l0 x6_2).f1), .int .i64 ((rd_T74 l0 x6_2).f2), .int .i64 ((rd_T74 l0 x6_2).f3), .int .i64 ((rd_T74 l0 x6_2).f4), .int .i64 ((rd_T74 l0 x6_2).f5), .int .i64 ((rd_T74 l0 x6_2).f6), .int .i64 ((rd_T74 l0 x6_2).f7), .int .i64 ((rd_T74 l0 x6_2).f8)]] ?_; (with_reducible refine (laws_toArticle.calls ((rd_T74 l0 x6_2).f0) ((rd_T74 l0 x6_2).f1) ((rd_T74 l0 x6_2).f2) ((rd_T74 l0 x6_2).f3) ((rd_T74 l0 x6_2).f4) ((rd_T74 l0 x6_2).f5) ((rd_T74 l0 x6_2).f6) ((rd_T74 l0 x6_2).f7) ((rd_T74 l0 x6_2).f8) t887 t888 t889 t890 t891 t892 t893 t894 t895 _ A14.out).mono ?_); rintro e w17 ⟨rfl, hb⟩; refine ⟨_, rfl, ?_⟩; replace HO_5 := (hbZ HO_5 hb); replace HB := (bsZ Zd hb); clear hb; have p16 : 0 ≤ (x6_2 : Int) := of_decide_eq_true Zn; have q16 : (x6_2 : Int) < ((x5_2.length : Int) : Int) := of_decide_eq_true Zn; obtain ⟨go16, co16, eo16, gb16, gl16, cl16, HG16⟩ := Kd.R_form HO_5.out (by omega); (first | cases eo16 | (injection eo16 with ea_ en_ ec_; (first | subst ea_ | (injection ea_ with ea_; subst ea_)); subst ec_; clear en_)); have GB16 := am_ gb16; have GG16 := am_ HG16; clear gb16 gl16 HG16; obtain ⟨ce16, hcl16, hM16, hcc16, hfr16⟩ := Kd.R_elem HO_5.out z91 (x6_2 : Int) p16 q16; obtain rfl := k91_openM hM16; have hx16_0 : w17.cell? ⟨go16, (x6_2 : Int).toNat * 9, none⟩ = some (.string ((rd_T91 x5_2 x6_2).f0)) := hcc16 0 _ rfl; have hx16_1 : w17.cell? ⟨go16, (x6_2 : Int).toNat * 9 + 1, none⟩ = some (.int .i64 ((rd_T91 x5_2 x6_2).f1)) := hcc16 1 _ rfl; have hx16_2 : w17.cell? ⟨go16, (x6_2 : Int).toNat * 9 + 2, none⟩ = some (.int .i64 ((rd_T91 x5_2 x6_2).f2)) := hcc16 2 _ rfl; have hx16_3 : w17.cell? ⟨go16, (x6_2 : Int).toNat * 9 + 3, none⟩ = some (.int .i64 ((rd_T91 x5_2 x6_2).f3)) := hcc16 3 _ rfl; have hx16_4 : w17.cell? ⟨go16, (x6_2 : Int).toNat * 9 + 4, none⟩ = some (.int .i64 ((rd_T91 x5_2 x6_2).f4)) := hcc16 4 _ rfl; have hx16_5 : w17.cell? ⟨go16, (x6_2 : Int).toNat * 9 + 5, none⟩ = some (.int .i64 ((rd_T91 x5_2 x6_2).f5)) := hcc16 5 _ rfl; have hx16_6 : w17.cell? ⟨go16, (x6_2 : Int).toNat * 9 + 6, none⟩ = some (.int .i64 ((rd_T91 x5_2 x6_2).f6)) := hcc16 6 _ rfl; have hx16_7 : w17.cell? ⟨go16, (x6_2 : Int).toNat * 9 + 7, none⟩ = some (.int .i64 ((rd_T91 x5_2 x6_2).f7)) := hcc16 7 _ rfl; have hx16_8 : w17.cell? ⟨go16, (x6_2 : Int).toNat * 9 + 8, none⟩ = some (.int .i64 ((rd_T91 x5_2 x6_2).f8)) := hcc16 8 _ rfl; have hf16_0 : w17.frozen? ⟨go16, (x6_2 : Int).toNat * 9, none⟩ = false := hfr16 0; have hf16_1 := hfr16 1; have hf16_2 := hfr16 2; have hf16_3 := hfr16 3; have hf16_4 := hfr16 4; have hf16_5 := hfr16 5; have hf16_6 := hfr16 6; have hf16_7 := hfr16 7; have hf16_8 := hfr16 8; clear hcl16 hcc16 hfr16 hM16; replace p16 := eq_true p16; replace q16 := eq_true q16; have HX18 := am_ (show Kd.R k91 91 w17 w.heap.size (fun _ => True) (.slice (some ⟨go16, 0, none⟩) x5_2.length co16) x5_2 from (Zo HO_5)); obtain ⟨ce18, hcl18, hM18, hcc18, hfr18⟩ := Kd.R_elem HX18.out z91 (x6_2 : Int) (of_decide_eq_true Zn) (by have h_ : (x6_2 : Int) < ((x5_2.length : Int) : Int) := of_decide_eq_true Zn; first | exact h_ | (have e_ := (Kd.R_reads' HO_5.out).1; omega) | simpa using h_); obtain rfl := k91_openM hM18; have HP18 := Kd.R_seg HX18.out (x6_2 : Int) (of_decide_eq_true Zn) (by have h_ : (x6_2 : Int) < ((x5_2.length : Int) : Int) := of_decide_eq_true Zn; first | exact h_ | (have e_ := (Kd.R_reads' HO_5.out).1; omega) | simpa using h_) (seg := [.string t887, .int .i64 t888, .int .i64 t889, .int .i64 t890, .int .i64 t891, .int .i64 t892, .int .i64 t893, .int .i64 t894, .int .i64 t895]) (j := 0) hcl18 hcc18 (show 9 ≤ 9 from (by decide)) (x' := (⟨t887, t888, t889, t890, t891, t892, t893, t894, t895⟩ : S91)) (k91_mkM _ _ _ (⟨t887, t888, t889, t890, t891, t892, t893, t894, t895⟩ : S91) ) (fun _ hk => hk); have hx18_0 := hcc18 0 _ rfl; (try simp only [show (k91).sz = 9 from rfl, Nat.mul_one, Nat.add_zero] at hx18_0); have hf18_0 := hfr18 0; (try simp only [show (k91).sz = 9 from rfl, Nat.mul_one, Nat.add_zero] at hf18_0); have hx18_1 := hcc18 1 _ rfl; (try simp only [show (k91).sz = 9 from rfl, Nat.mul_one, Nat.add_zero] at hx18_1); have hf18_1 := hfr18 1; (try simp only [show (k91).sz = 9 from rfl, Nat.mul_one, Nat.add_zero] at hf18_1); have hx18_2 := hcc18 2 _ rfl; (try simp only [show (k91).sz = 9 from rfl, Nat.mul_one, Nat.add_zero] at hx18_2); have hf18_2 := hfr18 2; (try simp only [show (k91).sz = 9 from rfl, Nat.mul_one, Nat.add_zero] at hf18_2); have hx18_3 := hcc18 3 _ rfl; (try simp only [show (k91).sz = 9 from rfl, Nat.mul_one, Nat.add_zero] at hx18_3); have hf18_3 := hfr18 3; (try simp only [show (k91).sz = 9 from rfl, Nat.mul_one, Nat.add_zero] at hf18_3); have hx18_4 := hcc18 4 _ rfl; (try simp only [show (k91).sz = 9 from rfl, Nat.mul_one, Nat.add_zero] at hx18_4); have hf18_4 := hfr18 4; (try simp only [show (k91).sz = 9 from rfl, Nat.mul_one, Nat.add_zero] at hf18_4); have hx18_5 := hcc18 5 _ rfl; (try simp only [show (k91).sz = 9 from rfl, Nat.mul_one, Nat.add_zero] at hx18_5); have hf18_5 := hfr18 5; (try simp only [show (k91).sz = 9 from rfl, Nat.mul_one, Nat.add_zero] at hf18_5); have hx18_6 := hcc18 6 _ rfl; (try simp only [show (k91).sz = 9 from rfl, Nat.mul_one, Nat.add_zero] at hx18_6); have hf18_6 := hfr18 6; (try simp only [show (k91).sz = 9 from rfl, Nat.mul_one, Nat.add_zero] at hf18_6); have hx18_7 := hcc18 7 _ rfl; (try simp only [show (k91).sz = 9 from rfl, Nat.mul_one, Nat.add_zero] at hx18_7); have hf18_7 := hfr18 7; (try simp only [show (k91).sz = 9 from rfl, Nat.mul_one, Nat.add_zero] at hf18_7); have hx18_8 := hcc18 8 _ rfl; (try simp only [show (k91).sz = 9 from rfl, Nat.mul_one, Nat.add_zero] at hx18_8); have hf18_8 := hfr18 8; (try simp only [show (k91).sz = 9 from rfl, Nat.mul_one, Nat.add_zero] at hf18_8); clear hcl18 hcc18 hfr18 hM18) | ((with_reducible refine gate_store (t := 91) (p := 34) rfl ?_); refine store_event (t := 91) (p := 34) (v := ?vo_w19) (w1 := (((((((((w17.setCell ⟨go16, (x6_2 : Int).toNat * 9, none⟩ (.string t887)).setCell ⟨go16, (x6_2 : Int).toNat * 9 + 1, none⟩ (.int .i64 t888)).setCell ⟨go16, (x6_2 : Int).toNat * 9 + 2, none⟩ (.int .i64 t889)).setCell ⟨go16, (x6_2 : Int).toNat * 9 + 3, none⟩ (.int .i64 t890)).setCell ⟨go16, (x6_2 : Int).toNat * 9 + 4, none⟩ (.int .i64 t891)).setCell ⟨go16, (x6_2 : Int).toNat * 9 + 5, none⟩ (.int .i64 t892)).setCell ⟨go16, (x6_2 : Int).toNat * 9 + 6, none⟩ (.int .i64 t893)).setCell ⟨go16, (x6_2 : Int).toNat * 9 + 7, none⟩ (.int .i64 t894)).setCell ⟨go16, (x6_2 : Int).toNat * 9 + 8, none⟩ (.int .i64 t895))) ?hg ?ho ?hn ?hr ?_; (case ho => rfl); (case hg => rfl); (case hn => rfl); (case hr => first | (go_simp; done) | (go_simp; rfl)); intro w19 hw; have hg : w17.grownBy w19 (some go16) := (by rw [hw]; exact HP18.2); have hp_ : Kd.R k91 91 w19 w.heap.size (fun _ => True) (.slice (some ⟨go16, 0, none⟩) x5_2.length co16) y896 := (by rw [hw, Ny896.out]; exact HP18.1); clear HP18; replace HO_5 := am_ (hp_); replace HB := am_ (((Zx GB16) : Below w.heap.size w w19)); clear hg hw hp_))
           go_roundg k2
           case measure => have := HJ2.out; have := HK2.out; omega
           case rel => exact ⟨(y896), (wrap64 (x6_2 + 1)), Za, H', ⟨by have := HJ2.out; have := HK2.out; omega⟩, ⟨(Zo HO_5)⟩, ⟨Zd⟩⟩
          ·rw [if_neg c15] at H
           exact absurd H (by simp)
         ·rw [if_neg c13] at H
          exact absurd H (by simp)
        ·rw [if_neg c12] at H
         have c12b0 := decide_eq_false c12; clear c12; have H' := am_ H; clear H
         go_wp2
         go_loopg [7] k2 (fun kq v7 w' => ∃ (x5_3 : List (S91)) (x7_3 : Int), v7 = .int .i64 x7_3 ∧ Aside0 (laws_toArticleS.l1 kq l0 x5_3 x7_3 = some r) ∧ Aside0 (kq ≤ k2) ∧ Aside0 (Kd.R k91 91 w' w.heap.size (fun _ => True) v884 x5_3) ∧ Aside0 (Below w.heap.size w w'))
         case atStart => exact ⟨(x5_2), ((l0.length : Int)), Za, H', ⟨Nat.le_refl _⟩, ⟨(Zo HO_5)⟩, ⟨Zd⟩⟩
         case round =>
          clear H'
          try clear c1
          try clear p1
          try clear q1
          try clear hx1
          try clear c2
          try clear p2
          try clear c4
          try clear c5
          try clear p6
          try clear c8
          try clear c8b0
          try clear c8b1
          try clear p8
          try clear q8
          try clear hx8
          try clear c9
          try clear c9b0
          try clear c9b1
          try clear c12
          try clear c12b0
          try clear c13
          try clear c13b0
          try clear c15
          try clear c15b0
          try clear c16
          try clear p16
          try clear q16
          try clear hx16
          try clear hf16
          try clear c18
          try clear hx18
          try clear hf18
          try clear hx16_0
          try clear hx16_1
          try clear hx16_2
          try clear hx16_3
          try clear hx16_4
          try clear hx16_5
          try clear hx16_6
          try clear hx16_7
          try clear hx16_8
          try clear hx18_0
          try clear hx18_1
          try clear hx18_2
          try clear hx18_3
          try clear hx18_4
          try clear hx18_5
          try clear hx18_6
          try clear hx18_7
          try clear hx18_8
          try clear hx886_0
          try clear hx886_1
          try clear hx886_2
          try clear hx886_3
          try clear hx886_4
          try clear hx886_5
          try clear hx886_6
          try clear hx886_7
          try clear hx886_8
          try clear p16
          try clear p2
          try clear p6
          try clear p886
          try clear q16
          try clear q886
          obtain ⟨x5_3, x7_3, rfl, HA, HK3, HO_5, HB⟩ := hrel
          cases gk with
          | zero => exact absurd HA.out (by simp [laws_toArticleS.l1])
          | succ k3 =>
           have H := HA.out; clear HA; simp only [laws_toArticleS.l1] at H
           by_cases c20 : x7_3 < (x5_3.length : Int)
           ·rw [if_pos c20] at H
            have c20b0 := decide_eq_true c20; clear c20; replace H := Option.bind_eq_some_iff.mp H; obtain ⟨⟨t897, t898, t899, t900, t901, t902, t903, t904, t905⟩, A210, H⟩ := H
            dsimp only at H
            have A21 := am_ A210; clear A210
            by_cases c22 : 0 ≤ x7_3
            ·rw [if_pos c22] at H
             have c22b0 := decide_eq_true c22; clear c22; obtain ⟨y906, hy906⟩ : ∃ y_ : List (S91), y_ = (x5_3.set (x7_3 : Int).toNat (⟨t897, t898, t899, t900, t901, t902, t903, t904, t905⟩ : S91)) := ⟨_, rfl⟩
             (first | (rw [← hy906] at H; with_reducible replace H := bindZ H) | rw [← hy906] at H | skip)
             have Ny906 := am_ hy906; clear hy906; have H' := am_ H; clear H; obtain ⟨Ao24, co24, eo24⟩ := Kd.R_slice HO_5.out; subst eo24
             go_wp2_with (first | ((with_reducible refine gate_callee (f := 59) rfl ?_); refine gZ 45 Try.func59 #[] ?_; (with_reducible refine (laws_fillerArticle.calls  t897 t898 t899 t900 t901 t902 t903 t904 t905 _ A21.out).mono ?_); rintro e w25 ⟨rfl, hb⟩; refine ⟨_, rfl, ?_⟩; replace HO_5 := (hbZ HO_5 hb); replace HB := (bsZ Zd hb); clear hb; have p23 : 0 ≤ (x7_3 : Int) := of_decide_eq_true Zn; have q23 : (x7_3 : Int) < ((x5_3.length : Int) : Int) := of_decide_eq_true Zn; obtain ⟨go23, co23, eo23, gb23, gl23, cl23, HG23⟩ := Kd.R_form HO_5.out (by omega); (first | cases eo23 | (injection eo23 with ea_ en_ ec_; (first | subst ea_ | (injection ea_ with ea_; subst ea_)); subst ec_; clear en_)); have GB23 := am_ gb23; have GG23 := am_ HG23; clear gb23 gl23 HG23; obtain ⟨ce23, hcl23, hM23, hcc23, hfr23⟩ := Kd.R_elem HO_5.out z91 (x7_3 : Int) p23 q23; obtain rfl := k91_openM hM23; have hx23_0 : w25.cell? ⟨go23, (x7_3 : Int).toNat * 9, none⟩ = some (.string ((rd_T91 x5_3 x7_3).f0)) := hcc23 0 _ rfl; have hx23_1 : w25.cell? ⟨go23, (x7_3 : Int).toNat * 9 + 1, none⟩ = some (.int .i64 ((rd_T91 x5_3 x7_3).f1)) := hcc23 1 _ rfl; have hx23_2 : w25.cell? ⟨go23, (x7_3 : Int).toNat * 9 + 2, none⟩ = some (.int .i64 ((rd_T91 x5_3 x7_3).f2)) := hcc23 2 _ rfl; have hx23_3 : w25.cell? ⟨go23, (x7_3 : Int).toNat * 9 + 3, none⟩ = some (.int .i64 ((rd_T91 x5_3 x7_3).f3)) := hcc23 3 _ rfl; have hx23_4 : w25.cell? ⟨go23, (x7_3 : Int).toNat * 9 + 4, none⟩ = some (.int .i64 ((rd_T91 x5_3 x7_3).f4)) := hcc23 4 _ rfl; have hx23_5 : w25.cell? ⟨go23, (x7_3 : Int).toNat * 9 + 5, none⟩ = some (.int .i64 ((rd_T91 x5_3 x7_3).f5)) := hcc23 5 _ rfl; have hx23_6 : w25.cell? ⟨go23, (x7_3 : Int).toNat * 9 + 6, none⟩ = some (.int .i64 ((rd_T91 x5_3 x7_3).f6)) := hcc23 6 _ rfl; have hx23_7 : w25.cell? ⟨go23, (x7_3 : Int).toNat * 9 + 7, none⟩ = some (.int .i64 ((rd_T91 x5_3 x7_3).f7)) := hcc23 7 _ rfl; have hx23_8 : w25.cell? ⟨go23, (x7_3 : Int).toNat * 9 + 8, none⟩ = some (.int .i64 ((rd_T91 x5_3 x7_3).f8)) := hcc23 8 _ rfl; have hf23_0 : w25.frozen? ⟨go23, (x7_3 : Int).toNat * 9, none⟩ = false := hfr23 0; have hf23_1 := hfr23 1; have hf23_2 := hfr23 2; have hf23_3 := hfr23 3; have hf23_4 := hfr23 4; have hf23_5 := hfr23 5; have hf23_6 := hfr23 6; have hf23_7 := hfr23 7; have hf23_8 := hfr23 8; clear hcl23 hcc23 hfr23 hM23; replace p23 := eq_true p23; replace q23 := eq_true q23; have HX26 := am_ (show Kd.R k91 91 w25 w.heap.size (fun _ => True) (.slice (some ⟨go23, 0, none⟩) x5_3.length co24) x5_3 from (Zo HO_5)); obtain ⟨ce26, hcl26, hM26, hcc26, hfr26⟩ := Kd.R_elem HX26.out z91 (x7_3 : Int) (of_decide_eq_true Zn) (by have h_ : (x7_3 : Int) < ((x5_3.length : Int) : Int) := of_decide_eq_true Zn; first | exact h_ | (have e_ := (Kd.R_reads' HO_5.out).1; omega) | simpa using h_); obtain rfl := k91_openM hM26; have HP26 := Kd.R_seg HX26.out (x7_3 : Int) (of_decide_eq_true Zn) (by have h_ : (x7_3 : Int) < ((x5_3.length : Int) : Int) := of_decide_eq_true Zn; first | exact h_ | (have e_ := (Kd.R_reads' HO_5.out).1; omega) | simpa using h_) (seg := [.string t897, .int .i64 t898, .int .i64 t899, .int .i64 t900, .int .i64 t901, .int .i64 t902, .int .i64 t903, .int .i64 t904, .int .i64 t905]) (j := 0) hcl26 hcc26 (show 9 ≤ 9 from (by decide)) (x' := (⟨t897, t898, t899, t900, t901, t902, t903, t904, t905⟩ : S91)) (k91_mkM _ _ _ (⟨t897, t898, t899, t900, t901, t902, t903, t904, t905⟩ : S91) ) (fun _ hk => hk); have hx26_0 := hcc26 0 _ rfl; (try simp only [show (k91).sz = 9 from rfl, Nat.mul_one, Nat.add_zero] at hx26_0); have hf26_0 := hfr26 0; (try simp only [show (k91).sz = 9 from rfl, Nat.mul_one, Nat.add_zero] at hf26_0); have hx26_1 := hcc26 1 _ rfl; (try simp only [show (k91).sz = 9 from rfl, Nat.mul_one, Nat.add_zero] at hx26_1); have hf26_1 := hfr26 1; (try simp only [show (k91).sz = 9 from rfl, Nat.mul_one, Nat.add_zero] at hf26_1); have hx26_2 := hcc26 2 _ rfl; (try simp only [show (k91).sz = 9 from rfl, Nat.mul_one, Nat.add_zero] at hx26_2); have hf26_2 := hfr26 2; (try simp only [show (k91).sz = 9 from rfl, Nat.mul_one, Nat.add_zero] at hf26_2); have hx26_3 := hcc26 3 _ rfl; (try simp only [show (k91).sz = 9 from rfl, Nat.mul_one, Nat.add_zero] at hx26_3); have hf26_3 := hfr26 3; (try simp only [show (k91).sz = 9 from rfl, Nat.mul_one, Nat.add_zero] at hf26_3); have hx26_4 := hcc26 4 _ rfl; (try simp only [show (k91).sz = 9 from rfl, Nat.mul_one, Nat.add_zero] at hx26_4); have hf26_4 := hfr26 4; (try simp only [show (k91).sz = 9 from rfl, Nat.mul_one, Nat.add_zero] at hf26_4); have hx26_5 := hcc26 5 _ rfl; (try simp only [show (k91).sz = 9 from rfl, Nat.mul_one, Nat.add_zero] at hx26_5); have hf26_5 := hfr26 5; (try simp only [show (k91).sz = 9 from rfl, Nat.mul_one, Nat.add_zero] at hf26_5); have hx26_6 := hcc26 6 _ rfl; (try simp only [show (k91).sz = 9 from rfl, Nat.mul_one, Nat.add_zero] at hx26_6); have hf26_6 := hfr26 6; (try simp only [show (k91).sz = 9 from rfl, Nat.mul_one, Nat.add_zero] at hf26_6); have hx26_7 := hcc26 7 _ rfl; (try simp only [show (k91).sz = 9 from rfl, Nat.mul_one, Nat.add_zero] at hx26_7); have hf26_7 := hfr26 7; (try simp only [show (k91).sz = 9 from rfl, Nat.mul_one, Nat.add_zero] at hf26_7); have hx26_8 := hcc26 8 _ rfl; (try simp only [show (k91).sz = 9 from rfl, Nat.mul_one, Nat.add_zero] at hx26_8); have hf26_8 := hfr26 8; (try simp only [show (k91).sz = 9 from rfl, Nat.mul_one, Nat.add_zero] at hf26_8); clear hcl26 hcc26 hfr26 hM26) | ((with_reducible refine gate_store (t := 91) (p := 46) rfl ?_); refine store_event (t := 91) (p := 46) (v := ?vo_w27) (w1 := (((((((((w25.setCell ⟨go23, (x7_3 : Int).toNat * 9, none⟩ (.string t897)).setCell ⟨go23, (x7_3 : Int).toNat * 9 + 1, none⟩ (.int .i64 t898)).setCell ⟨go23, (x7_3 : Int).toNat * 9 + 2, none⟩ (.int .i64 t899)).setCell ⟨go23, (x7_3 : Int).toNat * 9 + 3, none⟩ (.int .i64 t900)).setCell ⟨go23, (x7_3 : Int).toNat * 9 + 4, none⟩ (.int .i64 t901)).setCell ⟨go23, (x7_3 : Int).toNat * 9 + 5, none⟩ (.int .i64 t902)).setCell ⟨go23, (x7_3 : Int).toNat * 9 + 6, none⟩ (.int .i64 t903)).setCell ⟨go23, (x7_3 : Int).toNat * 9 + 7, none⟩ (.int .i64 t904)).setCell ⟨go23, (x7_3 : Int).toNat * 9 + 8, none⟩ (.int .i64 t905))) ?hg ?ho ?hn ?hr ?_; (case ho => rfl); (case hg => rfl); (case hn => rfl); (case hr => first | (go_simp; done) | (go_simp; rfl)); intro w27 hw; have hg : w25.grownBy w27 (some go23) := (by rw [hw]; exact HP26.2); have hp_ : Kd.R k91 91 w27 w.heap.size (fun _ => True) (.slice (some ⟨go23, 0, none⟩) x5_3.length co24) y906 := (by rw [hw, Ny906.out]; exact HP26.1); clear HP26; replace HO_5 := am_ (hp_); replace HB := am_ (((Zx GB23) : Below w.heap.size w w27)); clear hg hw hp_))
             go_roundg k3
             case measure => have := HJ2.out; have := HK2.out; have := HK3.out; omega
             case rel => exact ⟨(y906), (wrap64 (x7_3 + 1)), Za, H', ⟨Zp⟩, ⟨(Zo HO_5)⟩, ⟨Zd⟩⟩
            ·rw [if_neg c22] at H
             exact absurd H (by simp)
           ·rw [if_neg c20] at H
            have c20b0 := decide_eq_false c20; clear c20
            by_cases c28 : 0 ≤ (l0.length : Int)
            ·rw [if_pos c28] at H
             have c28b0 := eq_true c28; have c28b1 := decide_eq_true c28; clear c28
             by_cases c29 : (l0.length : Int) ≤ (x5_3.length : Int)
             ·rw [if_pos c29] at H
              have c29b0 := eq_true c29; have c29b1 := decide_eq_true c29; clear c29; obtain ⟨y907, hy907⟩ : ∃ y_ : List (S91), y_ = (x5_3.take ((l0.length : Int) : Int).toNat) := ⟨_, rfl⟩
              (first | (rw [← hy907] at H; with_reducible replace H := bindZ H) | rw [← hy907] at H | skip)
              have Ny907 := am_ hy907; clear hy907; obtain rfl := Option.some.inj H; obtain ⟨Ao30, co30, eo30⟩ := Kd.R_slice HO_5.out; subst eo30; have q31 : ((l0.length : Int) : Int) ≤ ((x5_3.length : Int) : Int) := of_decide_eq_true Zn; obtain ⟨i031, hi031, _, hsz31, _⟩ := info_parts info91; have hcut31 := cut_to (P := Try.prog) 32 91 .i64 Try.underlying32 hi031 Ao30 x5_3.length co30 (l0.length : Int) (of_decide_eq_true Zn) q31 (Kd.R_reads' HO_5.out).2.1; have hr31 := Kd.R_take (m := ((l0.length : Int) : Int).toNat) HO_5.out (by omega); have hy31 : y907.length = ((l0.length : Int) : Int).toNat := (by rw [Ny907.out, List.length_take]; omega); rw [← Ny907.out] at hr31; rw [← hy31] at hr31 hcut31; clear hy31 hi031 hsz31 HO_5; have HO909 := am_ hr31; clear hr31; replace q31 := eq_true q31
              go_wp2
              go_ret
              exact ⟨_, Zq, (Zo HO909), Zd⟩
             ·rw [if_neg c29] at H
              exact absurd H (by simp)
            ·rw [if_neg c28] at H
             exact absurd H (by simp)
     ·rw [if_neg c9] at H
      exact absurd H (by simp)
    ·rw [if_neg c8] at H
     exact absurd H (by simp)
 /-! ### laws_eqArticle: function 83 -/
def laws_eqArticle.f (a0_0 : ByteArray) (a0_1 : Int) (a0_2 : Int) (a0_3 : Int) (a0_4 : Int) (a0_5 : Int) (a0_6 : Int) (a0_7 : Int) (a0_8 : Int) (a1_0 : ByteArray) (a1_1 : Int) (a1_2 : Int) (a1_3 : Int) (a1_4 : Int) (a1_5 : Int) (a1_6 : Int) (a1_7 : Int) (a1_8 : Int) : Option (Bool) := if a0_0.toList = a1_0.toList then (if a0_1 = a1_1 then (if a0_2 = a1_2 then (if a0_3 = a1_3 then (if a0_4 = a1_4 then (if a0_5 = a1_5 then (if a0_6 = a1_6 then (if a0_7 = a1_7 then (if a0_8 = a1_8 then (some true) else (some false)) else (some false)) else (some false)) else (some false)) else (some false)) else (some false)) else (some false)) else (some false)) else (some false)
set_option maxHeartbeats 8000000 in
set_option maxRecDepth 100000 in
theorem laws_eqArticle.calls (a0_0 : ByteArray) (a0_1 : Int) (a0_2 : Int) (a0_3 : Int) (a0_4 : Int) (a0_5 : Int) (a0_6 : Int) (a0_7 : Int) (a0_8 : Int) (a1_0 : ByteArray) (a1_1 : Int) (a1_2 : Int) (a1_3 : Int) (a1_4 : Int) (a1_5 : Int) (a1_6 : Int) (a1_7 : Int) (a1_8 : Int) (r : Bool) (w : World) (h : laws_eqArticle.f a0_0 a0_1 a0_2 a0_3 a0_4 a0_5 a0_6 a0_7 a0_8 a1_0 a1_1 a1_2 a1_3 a1_4 a1_5 a1_6 a1_7 a1_8 = some r) (hr_ : r = true := by rfl) :
  Calls Try.prog 83 #[.agg #[.string a0_0, .int .i64 a0_1, .int .i64 a0_2, .int .i64 a0_3, .int .i64 a0_4, .int .i64 a0_5, .int .i64 a0_6, .int .i64 a0_7, .int .i64 a0_8], .agg #[.string a1_0, .int .i64 a1_1, .int .i64 a1_2, .int .i64 a1_3, .int .i64 a1_4, .int .i64 a1_5, .int .i64 a1_6, .int .i64 a1_7, .int .i64 a1_8]] w fun e w' => e = .returned (.bool r) ∧ Below w.heap.size w w' := by
 have HR_ := am_ hr_; clear hr_; have hu91 := Try.underlying91; have HB := am_ (Below.refl w.heap.size w); have H : (if a0_0.toList = a1_0.toList then (if a0_1 = a1_1 then (if a0_2 = a1_2 then (if a0_3 = a1_3 then (if a0_4 = a1_4 then (if a0_5 = a1_5 then (if a0_6 = a1_6 then (if a0_7 = a1_7 then (if a0_8 = a1_8 then (some true) else (some false)) else (some false)) else (some false)) else (some false)) else (some false)) else (some false)) else (some false)) else (some false)) else (some false)) = some r := h; clear h
 by_cases c3 : a0_0.toList = a1_0.toList
 ·rw [if_pos c3] at H
  have c3b0 := beq_iff_eq.mpr c3; have c3b1 := bne_eq_false_iff_eq.mpr c3; clear c3
  by_cases c4 : a0_1 = a1_1
  ·rw [if_pos c4] at H
   have c4b0 := beq_iff_eq.mpr c4; have c4b1 := bne_eq_false_iff_eq.mpr c4; clear c4
   by_cases c5 : a0_2 = a1_2
   ·rw [if_pos c5] at H
    have c5b0 := beq_iff_eq.mpr c5; have c5b1 := bne_eq_false_iff_eq.mpr c5; clear c5
    by_cases c6 : a0_3 = a1_3
    ·rw [if_pos c6] at H
     have c6b0 := beq_iff_eq.mpr c6; have c6b1 := bne_eq_false_iff_eq.mpr c6; clear c6
     by_cases c7 : a0_4 = a1_4
     ·rw [if_pos c7] at H
      have c7b0 := beq_iff_eq.mpr c7; have c7b1 := bne_eq_false_iff_eq.mpr c7; clear c7
      by_cases c8 : a0_5 = a1_5
      ·rw [if_pos c8] at H
       have c8b0 := beq_iff_eq.mpr c8; have c8b1 := bne_eq_false_iff_eq.mpr c8; clear c8
       by_cases c9 : a0_6 = a1_6
       ·rw [if_pos c9] at H
        have c9b0 := beq_iff_eq.mpr c9; have c9b1 := bne_eq_false_iff_eq.mpr c9; clear c9
        by_cases c10 : a0_7 = a1_7
        ·rw [if_pos c10] at H
         have c10b0 := beq_iff_eq.mpr c10; have c10b1 := bne_eq_false_iff_eq.mpr c10; clear c10
         by_cases c11 : a0_8 = a1_8
         ·rw [if_pos c11] at H
          have c11b0 := beq_iff_eq.mpr c11; have c11b1 := bne_eq_false_iff_eq.mpr c11; clear c11; obtain rfl := Option.some.inj H
          go_enter Try.func83, Try.ntmps83
          go_wp2_with (first | ((with_reducible refine gate_dst (N := 2) rfl ?_); refine boxZ 2 #[.string a0_0, .int .i64 a0_1, .int .i64 a0_2, .int .i64 a0_3, .int .i64 a0_4, .int .i64 a0_5, .int .i64 a0_6, .int .i64 a0_7, .int .i64 a0_8] 91 ?_; intro gb964 hg w12 hbox hb; replace BK964 := am_ (hbox); replace GW964 := am_ ((Zc : w.heap.size ≤ gb964)); replace GE964 := GW964; replace HB := (bsZ Zd hb); clear hb hbox hg) | ((with_reducible refine gate_dst (N := 3) rfl ?_); refine boxZ 3 #[.string a1_0, .int .i64 a1_1, .int .i64 a1_2, .int .i64 a1_3, .int .i64 a1_4, .int .i64 a1_5, .int .i64 a1_6, .int .i64 a1_7, .int .i64 a1_8] 91 ?_; intro gb965 hg w13 hbox hb; replace BK965 := am_ (hbox); replace GW965 := am_ (((Ze GE964) : w.heap.size ≤ gb965)); replace GE965 := GW965; replace HB := (bsZ (Zf GE964) hb); replace NB964_965 := am_ ((by rw [hg]; exact Nat.ne_of_lt (blk_lt (g := gb964) (b0Z BK964)) : gb964 ≠ gb965)); replace NB965_964 := am_ ((by rw [hg]; exact Nat.ne_of_gt (blk_lt (g := gb964) (b0Z BK964)) : gb965 ≠ gb964)); replace BK964 := (bkZ BK964 hb); clear hb hbox hg; have hnb14 := NB964_965.out; have hnc14 := NB965_964.out; refine ci9 BK964 ?_; intros; refine ci9 BK965 ?_; intros))
          go_ret
          exact ⟨Zj, (Zh GE964 GE965)⟩
         ·rw [if_neg c11] at H
          have c11b0 := beq_eq_false_iff_ne.mpr c11; have c11b1 := bne_iff_ne.mpr c11; exact absurd ((Option.some.inj H).trans HR_.out) (by decide)
        ·rw [if_neg c10] at H
         have c10b0 := beq_eq_false_iff_ne.mpr c10; have c10b1 := bne_iff_ne.mpr c10; exact absurd ((Option.some.inj H).trans HR_.out) (by decide)
       ·rw [if_neg c9] at H
        have c9b0 := beq_eq_false_iff_ne.mpr c9; have c9b1 := bne_iff_ne.mpr c9; exact absurd ((Option.some.inj H).trans HR_.out) (by decide)
      ·rw [if_neg c8] at H
       have c8b0 := beq_eq_false_iff_ne.mpr c8; have c8b1 := bne_iff_ne.mpr c8; exact absurd ((Option.some.inj H).trans HR_.out) (by decide)
     ·rw [if_neg c7] at H
      have c7b0 := beq_eq_false_iff_ne.mpr c7; have c7b1 := bne_iff_ne.mpr c7; exact absurd ((Option.some.inj H).trans HR_.out) (by decide)
    ·rw [if_neg c6] at H
     have c6b0 := beq_eq_false_iff_ne.mpr c6; have c6b1 := bne_iff_ne.mpr c6; exact absurd ((Option.some.inj H).trans HR_.out) (by decide)
   ·rw [if_neg c5] at H
    have c5b0 := beq_eq_false_iff_ne.mpr c5; have c5b1 := bne_iff_ne.mpr c5; exact absurd ((Option.some.inj H).trans HR_.out) (by decide)
  ·rw [if_neg c4] at H
   have c4b0 := beq_eq_false_iff_ne.mpr c4; have c4b1 := bne_iff_ne.mpr c4; exact absurd ((Option.some.inj H).trans HR_.out) (by decide)
 ·rw [if_neg c3] at H
  have c3b0 := beq_eq_false_iff_ne.mpr c3; have c3b1 := bne_iff_ne.mpr c3; exact absurd ((Option.some.inj H).trans HR_.out) (by decide)
 /-! ### laws_eqArticleS: function 67 -/
def laws_eqArticleS.l0 : Nat → List (S91) → List (S91) → Int → Option (Bool)
 | 0, _, _, _ => none
 | k + 1, x0, x1, x5 => if x5 < (x0.length : Int) then (if 0 ≤ x5 then (if x5 < (x1.length : Int) then ((laws_eqArticle.f ((rd_T91 x0 x5).f0) ((rd_T91 x0 x5).f1) ((rd_T91 x0 x5).f2) ((rd_T91 x0 x5).f3) ((rd_T91 x0 x5).f4) ((rd_T91 x0 x5).f5) ((rd_T91 x0 x5).f6) ((rd_T91 x0 x5).f7) ((rd_T91 x0 x5).f8) ((rd_T91 x1 x5).f0) ((rd_T91 x1 x5).f1) ((rd_T91 x1 x5).f2) ((rd_T91 x1 x5).f3) ((rd_T91 x1 x5).f4) ((rd_T91 x1 x5).f5) ((rd_T91 x1 x5).f6) ((rd_T91 x1 x5).f7) ((rd_T91 x1 x5).f8)).bind fun t968 => (if t968 = true then (laws_eqArticleS.l0 k x0 x1 (wrap64 (x5 + 1))) else (some false))) else (none)) else (none)) else (some true)
def laws_eqArticleS.f (k : Nat) (l0 : List (S91)) (l1 : List (S91)) : Option (Bool) := if (l0.length : Int) = (l1.length : Int) then (laws_eqArticleS.l0 k l0 l1 0) else (some false)
def laws_eqArticleS.T6 : Bool × List (List Nat × List Nat) := (true, [([], []), ([], []), ([0, 1], [0, 1]), ([2], [2]), ([], []), ([], []), ([4, 5], [4, 5]), ([6], [6]), ([3, 7], [3, 7]), ([8], [8])])
def laws_eqArticleS.B6 : List Nat := [0, 0, 3, 7, 0, 0, 48, 112, 255, 511]
theorem laws_eqArticleS.tab6 : rtab .any (opsOf Try.f67 6) = laws_eqArticleS.T6 := by kernel_rfl
theorem laws_eqArticleS.bits6 : waitsOk laws_eqArticleS.T6.2 laws_eqArticleS.B6 = true := by kernel_rfl
set_option maxHeartbeats 8000000 in
set_option maxRecDepth 100000 in
theorem laws_eqArticleS.calls (k : Nat) (A0 : Option Addr) (c0 : Nat) (l0 : List (S91)) (A1 : Option Addr) (c1 : Nat) (l1 : List (S91)) (r : Bool) (w : World) (hr0 : Kd.C k91 w A0 l0.length l0) (hc0 : l0.length ≤ c0) (hr1 : Kd.C k91 w A1 l1.length l1) (hc1 : l1.length ≤ c1) (h : laws_eqArticleS.f k l0 l1 = some r) (hr_ : r = true := by rfl) :
  Calls Try.prog 67 #[.slice A0 l0.length c0, .slice A1 l1.length c1] w fun e w' => e = .returned (.bool r) ∧ Below w.heap.size w w' := by
 have HR_ := am_ hr_; clear hr_; have hu91 := Try.underlying91; have HR0 := am_ hr0; have HC0 := am_ hc0; clear hr0 hc0; have HR1 := am_ hr1; have HC1 := am_ hc1; clear hr1 hc1; have HB := am_ (Below.refl w.heap.size w); have H : (if (l0.length : Int) = (l1.length : Int) then (laws_eqArticleS.l0 k l0 l1 0) else (some false)) = some r := h; clear h
 by_cases c3 : (l0.length : Int) = (l1.length : Int)
 ·rw [if_pos c3] at H
  have c3b0 := beq_iff_eq.mpr c3; have c3b1 := bne_eq_false_iff_eq.mpr c3
  have c3b2 : (l0.length == l1.length) = true := by first | simpa using c3 | (simp at c3 ⊢; omega)
  clear c3; have H' := am_ H; clear H
  go_enter Try.func67, Try.ntmps67
  go_wp2
  go_loopg [5] k (fun kq v5 w' => ∃ (x5_1 : Int), v5 = .int .i64 x5_1 ∧ Aside0 (laws_eqArticleS.l0 kq l0 l1 x5_1 = some r) ∧ Aside0 (kq ≤ k) ∧ Aside0 (Below w.heap.size w w'))
  case atStart => exact ⟨(0), Za, H', ⟨Nat.le_refl _⟩, ⟨Zd⟩⟩
  case round =>
   clear H'
   try clear c1
   try clear p2
   try clear c3
   try clear c3b0
   try clear c3b1
   try clear c3b2
   obtain ⟨x5_1, rfl, HA, HK1, HB⟩ := hrel
   cases gk with
   | zero => exact absurd HA.out (by simp [laws_eqArticleS.l0])
   | succ k1 =>
    have H := HA.out; clear HA; simp only [laws_eqArticleS.l0] at H
    by_cases c4 : x5_1 < (l0.length : Int)
    ·rw [if_pos c4] at H
     have c4b0 := decide_eq_true c4; clear c4
     by_cases c5 : 0 ≤ x5_1
     ·rw [if_pos c5] at H
      have c5b0 := decide_eq_true c5; clear c5
      by_cases c6 : x5_1 < (l1.length : Int)
      ·rw [if_pos c6] at H
       have c6b0 := decide_eq_true c6; clear c6; replace H := Option.bind_eq_some_iff.mp H; obtain ⟨t968, A70, H⟩ := H; have A7 := am_ A70; clear A70
       by_cases c8 : t968 = true
       ·subst c8
        rw [if_pos rfl] at H; have H' := am_ H; clear H
        try go_wp2
        replace HB := am_ (below_drew1 HB.out); have p966 : 0 ≤ (x5_1 : Int) := of_decide_eq_true Zn; have q966 : x5_1 < (l0.length : Int) := of_decide_eq_true Zn; obtain ⟨ad966, e966, hx966_0, hx966_1, hx966_2, hx966_3, hx966_4, hx966_5, hx966_6, hx966_7, hx966_8⟩ := at_T91 HR0.out x5_1 p966 q966; have hw966_8 := hx966_8; have hw966_7 := hx966_7; have hw966_6 := hx966_6; have hw966_5 := hx966_5; have hw966_4 := hx966_4; have hw966_3 := hx966_3; have hw966_2 := hx966_2; have hw966_1 := hx966_1; have hw966_0 := hx966_0
        cases e966
        replace hx966_0 := cbH HB hx966_0; replace hx966_1 := cbH HB hx966_1; replace hx966_2 := cbH HB hx966_2; replace hx966_3 := cbH HB hx966_3; replace hx966_4 := cbH HB hx966_4; replace hx966_5 := cbH HB hx966_5; replace hx966_6 := cbH HB hx966_6; replace hx966_7 := cbH HB hx966_7; replace hx966_8 := cbH HB hx966_8; replace p966 := eq_true p966; replace q966 := eq_true q966; have p967 : 0 ≤ (x5_1 : Int) := of_decide_eq_true Zn; have q967 : x5_1 < (l1.length : Int) := of_decide_eq_true Zn; obtain ⟨ad967, e967, hx967_0, hx967_1, hx967_2, hx967_3, hx967_4, hx967_5, hx967_6, hx967_7, hx967_8⟩ := at_T91 HR1.out x5_1 p967 q967; have hw967_8 := hx967_8; have hw967_7 := hx967_7; have hw967_6 := hx967_6; have hw967_5 := hx967_5; have hw967_4 := hx967_4; have hw967_3 := hx967_3; have hw967_2 := hx967_2; have hw967_1 := hx967_1; have hw967_0 := hx967_0
        cases e967
        replace hx967_0 := cbH HB hx967_0; replace hx967_1 := cbH HB hx967_1; replace hx967_2 := cbH HB hx967_2; replace hx967_3 := cbH HB hx967_3; replace hx967_4 := cbH HB hx967_4; replace hx967_5 := cbH HB hx967_5; replace hx967_6 := cbH HB hx967_6; replace hx967_7 := cbH HB hx967_7; replace hx967_8 := cbH HB hx967_8; replace p967 := eq_true p967; replace q967 := eq_true q967; refine start_ (n := 10) (S := fun w' => w'.cell? (ad966.add ((x5_1).toNat * 9)) = some (.string ((rd_T91 l0 x5_1).f0)) ∧ w'.cell? ⟨(ad966.add ((x5_1).toNat * 9)).block, (ad966.add ((x5_1).toNat * 9)).off + 1, none⟩ = some (.int .i64 ((rd_T91 l0 x5_1).f1)) ∧ w'.cell? ⟨(ad966.add ((x5_1).toNat * 9)).block, (ad966.add ((x5_1).toNat * 9)).off + 2, none⟩ = some (.int .i64 ((rd_T91 l0 x5_1).f2)) ∧ w'.cell? ⟨(ad966.add ((x5_1).toNat * 9)).block, (ad966.add ((x5_1).toNat * 9)).off + 3, none⟩ = some (.int .i64 ((rd_T91 l0 x5_1).f3)) ∧ w'.cell? ⟨(ad966.add ((x5_1).toNat * 9)).block, (ad966.add ((x5_1).toNat * 9)).off + 4, none⟩ = some (.int .i64 ((rd_T91 l0 x5_1).f4)) ∧ w'.cell? ⟨(ad966.add ((x5_1).toNat * 9)).block, (ad966.add ((x5_1).toNat * 9)).off + 5, none⟩ = some (.int .i64 ((rd_T91 l0 x5_1).f5)) ∧ w'.cell? ⟨(ad966.add ((x5_1).toNat * 9)).block, (ad966.add ((x5_1).toNat * 9)).off + 6, none⟩ = some (.int .i64 ((rd_T91 l0 x5_1).f6)) ∧ w'.cell? ⟨(ad966.add ((x5_1).toNat * 9)).block, (ad966.add ((x5_1).toNat * 9)).off + 7, none⟩ = some (.int .i64 ((rd_T91 l0 x5_1).f7)) ∧ w'.cell? ⟨(ad966.add ((x5_1).toNat * 9)).block, (ad966.add ((x5_1).toNat * 9)).off + 8, none⟩ = some (.int .i64 ((rd_T91 l0 x5_1).f8)) ∧ w'.cell? (ad967.add ((x5_1).toNat * 9)) = some (.string ((rd_T91 l1 x5_1).f0)) ∧ w'.cell? ⟨(ad967.add ((x5_1).toNat * 9)).block, (ad967.add ((x5_1).toNat * 9)).off + 1, none⟩ = some (.int .i64 ((rd_T91 l1 x5_1).f1)) ∧ w'.cell? ⟨(ad967.add ((x5_1).toNat * 9)).block, (ad967.add ((x5_1).toNat * 9)).off + 2, none⟩ = some (.int .i64 ((rd_T91 l1 x5_1).f2)) ∧ w'.cell? ⟨(ad967.add ((x5_1).toNat * 9)).block, (ad967.add ((x5_1).toNat * 9)).off + 3, none⟩ = some (.int .i64 ((rd_T91 l1 x5_1).f3)) ∧ w'.cell? ⟨(ad967.add ((x5_1).toNat * 9)).block, (ad967.add ((x5_1).toNat * 9)).off + 4, none⟩ = some (.int .i64 ((rd_T91 l1 x5_1).f4)) ∧ w'.cell? ⟨(ad967.add ((x5_1).toNat * 9)).block, (ad967.add ((x5_1).toNat * 9)).off + 5, none⟩ = some (.int .i64 ((rd_T91 l1 x5_1).f5)) ∧ w'.cell? ⟨(ad967.add ((x5_1).toNat * 9)).block, (ad967.add ((x5_1).toNat * 9)).off + 6, none⟩ = some (.int .i64 ((rd_T91 l1 x5_1).f6)) ∧ w'.cell? ⟨(ad967.add ((x5_1).toNat * 9)).block, (ad967.add ((x5_1).toNat * 9)).off + 7, none⟩ = some (.int .i64 ((rd_T91 l1 x5_1).f7)) ∧ w'.cell? ⟨(ad967.add ((x5_1).toNat * 9)).block, (ad967.add ((x5_1).toNat * 9)).off + 8, none⟩ = some (.int .i64 ((rd_T91 l1 x5_1).f8))) (ds := []) (bT 10 0) Zi rfl rfl ⟨(cbH HB hw966_0 :), (cbH HB hw966_1 :), (cbH HB hw966_2 :), (cbH HB hw966_3 :), (cbH HB hw966_4 :), (cbH HB hw966_5 :), (cbH HB hw966_6 :), (cbH HB hw966_7 :), (cbH HB hw966_8 :), (cbH HB hw967_0 :), (cbH HB hw967_1 :), (cbH HB hw967_2 :), (cbH HB hw967_3 :), (cbH HB hw967_4 :), (cbH HB hw967_5 :), (cbH HB hw967_6 :), (cbH HB hw967_7 :), (cbH HB hw967_8 :)⟩ (fun hHeld => ?_); refine with_tabW laws_eqArticleS.tab6 laws_eqArticleS.bits6 (fun HT_ HW_ => ?_)
        generalize wr.drew = w9 at HB hx966_0 hx966_1 hx966_2 hx966_3 hx966_4 hx966_5 hx966_6 hx966_7 hx966_8 hx967_0 hx967_1 hx967_2 hx967_3 hx967_4 hx967_5 hx967_6 hx967_7 hx967_8 hHeld ⊢; refine pureZ HT_ 0 (some 17) (bT 10 1) ?_; refine pureZ HT_ 1 (some 18) (bT 10 2) ?_; refine pureZ HT_ 2 (some 19) (bT 10 3) ?_; refine pureZ HT_ 4 (some 21) (bB 10 23) ?_; refine pureZ HT_ 5 (some 22) (bB 10 55) ?_; refine pureZ HT_ 6 (some 23) (bB 10 119) ?_; refine takeZ18 HT_ HW_ 3 (some 20) (bT 10 7) hHeld ?_; refine takeZ18 HT_ HW_ 7 (some 24) (bT 10 8) hHeld ?_; refine one_ (i := 8) (N := some 25) (bT 10 9) rfl rfl (one_of HT_.out Zi) (by decide) (fun K hK => ?_); refine goes_ Try.func83 Zi rfl #[.agg #[.string ((rd_T91 l0 x5_1).f0), .int .i64 ((rd_T91 l0 x5_1).f1), .int .i64 ((rd_T91 l0 x5_1).f2), .int .i64 ((rd_T91 l0 x5_1).f3), .int .i64 ((rd_T91 l0 x5_1).f4), .int .i64 ((rd_T91 l0 x5_1).f5), .int .i64 ((rd_T91 l0 x5_1).f6), .int .i64 ((rd_T91 l0 x5_1).f7), .int .i64 ((rd_T91 l0 x5_1).f8)], .agg #[.string ((rd_T91 l1 x5_1).f0), .int .i64 ((rd_T91 l1 x5_1).f1), .int .i64 ((rd_T91 l1 x5_1).f2), .int .i64 ((rd_T91 l1 x5_1).f3), .int .i64 ((rd_T91 l1 x5_1).f4), .int .i64 ((rd_T91 l1 x5_1).f5), .int .i64 ((rd_T91 l1 x5_1).f6), .int .i64 ((rd_T91 l1 x5_1).f7), .int .i64 ((rd_T91 l1 x5_1).f8)]] (by rfl) rfl rfl Zr ?_
        with_reducible refine (laws_eqArticle.calls ((rd_T91 l0 x5_1).f0) ((rd_T91 l0 x5_1).f1) ((rd_T91 l0 x5_1).f2) ((rd_T91 l0 x5_1).f3) ((rd_T91 l0 x5_1).f4) ((rd_T91 l0 x5_1).f5) ((rd_T91 l0 x5_1).f6) ((rd_T91 l0 x5_1).f7) ((rd_T91 l0 x5_1).f8) ((rd_T91 l1 x5_1).f0) ((rd_T91 l1 x5_1).f1) ((rd_T91 l1 x5_1).f2) ((rd_T91 l1 x5_1).f3) ((rd_T91 l1 x5_1).f4) ((rd_T91 l1 x5_1).f5) ((rd_T91 l1 x5_1).f6) ((rd_T91 l1 x5_1).f7) ((rd_T91 l1 x5_1).f8) true _ A7.out).mono ?_
        rintro e w10 ⟨rfl, hb⟩; refine ⟨_, rfl, ?_⟩; replace HB := (bsZ Zd hb)
        (try clear hb)
        (try clear hb2)
        (try clear hk)
        (try clear hi)
        refine hK.out _ _ ⟨(cbH HB hw966_0 :), (cbH HB hw966_1 :), (cbH HB hw966_2 :), (cbH HB hw966_3 :), (cbH HB hw966_4 :), (cbH HB hw966_5 :), (cbH HB hw966_6 :), (cbH HB hw966_7 :), (cbH HB hw966_8 :), (cbH HB hw967_0 :), (cbH HB hw967_1 :), (cbH HB hw967_2 :), (cbH HB hw967_3 :), (cbH HB hw967_4 :), (cbH HB hw967_5 :), (cbH HB hw967_6 :), (cbH HB hw967_7 :), (cbH HB hw967_8 :)⟩ (fun hHeld => ?_); clear hK K; refine normZ 25 ?_; refine pureZ HT_ 9 (some 26) (bT 10 10) ?_; refine done_ (done_of HT_.out Zi) ?_
        try go_wp2
        go_roundg k1
        case measure => have := HK1.out; omega
        case rel => exact ⟨(wrap64 (x5_1 + 1)), Za, H', ⟨Zs⟩, ⟨Zd⟩⟩
       ·replace c8 := Bool.eq_false_iff.mpr c8
        subst c8; rw [if_neg (show ¬ (false = true) by decide)] at H; exact absurd ((Option.some.inj H).trans HR_.out) (by decide)
      ·rw [if_neg c6] at H
       exact absurd H (by simp)
     ·rw [if_neg c5] at H
      exact absurd H (by simp)
    ·rw [if_neg c4] at H
     have c4b0 := decide_eq_false c4; clear c4; obtain rfl := Option.some.inj H
     go_wp2
     go_ret
     exact ⟨Zj, Zd⟩
 ·rw [if_neg c3] at H
  have c3b0 := beq_eq_false_iff_ne.mpr c3; have c3b1 := bne_iff_ne.mpr c3
  have c3b2 : (l0.length == l1.length) = false := by first | simpa using c3 | (simp at c3 ⊢; omega)
  exact absurd ((Option.some.inj H).trans HR_.out) (by decide)
 /-! ### laws_markArticleS: function 38 -/
def laws_markArticleS.l0 : Nat → List (S91) → Int → Int → Option (Int × (List (S91)))
 | 0, _, _, _ => none
 | k + 1, x0, x1, x5 => if x5 < (x0.length : Int) then ((laws_markText.f k x1).bind fun t1004 => (if 0 ≤ x5 then ((some (x0.set (x5 : Int).toNat (⟨t1004, (rd_T91 x0 x5).f1, (rd_T91 x0 x5).f2, (rd_T91 x0 x5).f3, (rd_T91 x0 x5).f4, (rd_T91 x0 x5).f5, (rd_T91 x0 x5).f6, (rd_T91 x0 x5).f7, (rd_T91 x0 x5).f8⟩ : S91) : List (S91))).bind fun y1005 => ((some (y1005.set (x5 : Int).toNat (⟨(rd_T91 y1005 x5).f0, wrap64 (x1 + 1), (rd_T91 y1005 x5).f2, (rd_T91 y1005 x5).f3, (rd_T91 y1005 x5).f4, (rd_T91 y1005 x5).f5, (rd_T91 y1005 x5).f6, (rd_T91 y1005 x5).f7, (rd_T91 y1005 x5).f8⟩ : S91) : List (S91))).bind fun y1006 => ((some (y1006.set (x5 : Int).toNat (⟨(rd_T91 y1006 x5).f0, (rd_T91 y1006 x5).f1, wrap64 ((wrap64 (x1 + 1)) + 1), (rd_T91 y1006 x5).f3, (rd_T91 y1006 x5).f4, (rd_T91 y1006 x5).f5, (rd_T91 y1006 x5).f6, (rd_T91 y1006 x5).f7, (rd_T91 y1006 x5).f8⟩ : S91) : List (S91))).bind fun y1007 => ((some (y1007.set (x5 : Int).toNat (⟨(rd_T91 y1007 x5).f0, (rd_T91 y1007 x5).f1, (rd_T91 y1007 x5).f2, wrap64 ((wrap64 ((wrap64 (x1 + 1)) + 1)) + 1), (rd_T91 y1007 x5).f4, (rd_T91 y1007 x5).f5, (rd_T91 y1007 x5).f6, (rd_T91 y1007 x5).f7, (rd_T91 y1007 x5).f8⟩ : S91) : List (S91))).bind fun y1008 => ((some (y1008.set (x5 : Int).toNat (⟨(rd_T91 y1008 x5).f0, (rd_T91 y1008 x5).f1, (rd_T91 y1008 x5).f2, (rd_T91 y1008 x5).f3, wrap64 ((wrap64 ((wrap64 ((wrap64 (x1 + 1)) + 1)) + 1)) + 1), (rd_T91 y1008 x5).f5, (rd_T91 y1008 x5).f6, (rd_T91 y1008 x5).f7, (rd_T91 y1008 x5).f8⟩ : S91) : List (S91))).bind fun y1009 => ((some (y1009.set (x5 : Int).toNat (⟨(rd_T91 y1009 x5).f0, (rd_T91 y1009 x5).f1, (rd_T91 y1009 x5).f2, (rd_T91 y1009 x5).f3, (rd_T91 y1009 x5).f4, wrap64 ((wrap64 ((wrap64 ((wrap64 ((wrap64 (x1 + 1)) + 1)) + 1)) + 1)) + 1), (rd_T91 y1009 x5).f6, (rd_T91 y1009 x5).f7, (rd_T91 y1009 x5).f8⟩ : S91) : List (S91))).bind fun y1010 => ((some (y1010.set (x5 : Int).toNat (⟨(rd_T91 y1010 x5).f0, (rd_T91 y1010 x5).f1, (rd_T91 y1010 x5).f2, (rd_T91 y1010 x5).f3, (rd_T91 y1010 x5).f4, (rd_T91 y1010 x5).f5, wrap64 ((wrap64 ((wrap64 ((wrap64 ((wrap64 ((wrap64 (x1 + 1)) + 1)) + 1)) + 1)) + 1)) + 1), (rd_T91 y1010 x5).f7, (rd_T91 y1010 x5).f8⟩ : S91) : List (S91))).bind fun y1011 => ((some (y1011.set (x5 : Int).toNat (⟨(rd_T91 y1011 x5).f0, (rd_T91 y1011 x5).f1, (rd_T91 y1011 x5).f2, (rd_T91 y1011 x5).f3, (rd_T91 y1011 x5).f4, (rd_T91 y1011 x5).f5, (rd_T91 y1011 x5).f6, wrap64 ((wrap64 ((wrap64 ((wrap64 ((wrap64 ((wrap64 ((wrap64 (x1 + 1)) + 1)) + 1)) + 1)) + 1)) + 1)) + 1), (rd_T91 y1011 x5).f8⟩ : S91) : List (S91))).bind fun y1012 => (laws_markArticleS.l0 k (y1012.set (x5 : Int).toNat (⟨(rd_T91 y1012 x5).f0, (rd_T91 y1012 x5).f1, (rd_T91 y1012 x5).f2, (rd_T91 y1012 x5).f3, (rd_T91 y1012 x5).f4, (rd_T91 y1012 x5).f5, (rd_T91 y1012 x5).f6, (rd_T91 y1012 x5).f7, wrap64 ((wrap64 ((wrap64 ((wrap64 ((wrap64 ((wrap64 ((wrap64 ((wrap64 (x1 + 1)) + 1)) + 1)) + 1)) + 1)) + 1)) + 1)) + 1)⟩ : S91)) (wrap64 ((wrap64 ((wrap64 ((wrap64 ((wrap64 ((wrap64 ((wrap64 ((wrap64 ((wrap64 (x1 + 1)) + 1)) + 1)) + 1)) + 1)) + 1)) + 1)) + 1)) + 1)) (wrap64 (x5 + 1))))))))))) else (none))) else (some (x1, x0))
def laws_markArticleS.f (k : Nat) (l0 : List (S91)) (a1 : Int) : Option (Int × (List (S91))) := laws_markArticleS.l0 k l0 a1 0
set_option maxHeartbeats 8000000 in
set_option maxRecDepth 100000 in
theorem laws_markArticleS.calls (k : Nat) (P0_ : Nat → Prop) (u9000_ : Value) (l0 : List (S91)) (a1 : Int) (r1 : Int) (r2 : List (S91)) (w0 w : World) (hB : Below w0.heap.size w0 w) (ho0 : Kd.R k91 91 w w0.heap.size P0_ u9000_ l0) (h : laws_markArticleS.f k l0 a1 = some (r1, r2)) :
  Calls Try.prog 38 #[u9000_, .int .i64 a1] w fun e w' => e = .returned (.int .i64 r1) ∧ Kd.R k91 91 w' w0.heap.size (fun k_ => (P0_ k_ ∨ w.heap.size ≤ k_)) u9000_ r2 ∧ Below w0.heap.size w0 w' ∧ Kept w w' (fun k_ => P0_ k_) := by
 have HO0 := am_ (show Kd.R k91 91 w w0.heap.size (fun k_ => (P0_ k_ ∨ w.heap.size ≤ k_)) u9000_ l0 from Kd.R_mono ho0 (fun k_ hk => (.inl hk))); have HK := am_ (Kept.refl w (fun k_ => P0_ k_)); have HW0 := am_ hB.size; have HB := am_ hB; clear hB; have H : (laws_markArticleS.l0 k l0 a1 0) = some (r1, r2) := h; clear h; have H' := am_ H; clear H
 go_enter Try.func38, Try.ntmps38
 go_wp2
 go_loopg [1, 5] k (fun kq v1 v5 w' => ∃ (x0_1 : List (S91)) (x1_1 : Int) (x5_1 : Int), v1 = .int .i64 x1_1 ∧ v5 = .int .i64 x5_1 ∧ Aside0 (laws_markArticleS.l0 kq x0_1 x1_1 x5_1 = some (r1, r2)) ∧ Aside0 (kq ≤ k) ∧ Aside0 (Kd.R k91 91 w' w0.heap.size (fun k_ => (P0_ k_ ∨ w.heap.size ≤ k_)) u9000_ x0_1) ∧ Aside0 (Kept w w' (fun k_ => P0_ k_)) ∧ Aside0 (Below w0.heap.size w0 w'))
 case atStart => exact ⟨(l0), (a1), (0), Za, Za, H', ⟨Nat.le_refl _⟩, ⟨(Zo HO0)⟩, ⟨Zt⟩, ⟨Zd⟩⟩
 case round =>
  clear H'
  try clear p2
  obtain ⟨x0_1, x1_1, x5_1, rfl, rfl, HA, HK1, HO_0, HK, HB⟩ := hrel
  cases gk with
  | zero => exact absurd HA.out (by simp [laws_markArticleS.l0])
  | succ k1 =>
   have H := HA.out; clear HA; simp only [laws_markArticleS.l0] at H
   by_cases c3 : x5_1 < (x0_1.length : Int)
   ·rw [if_pos c3] at H
    have c3b0 := decide_eq_true c3; clear c3; replace H := Option.bind_eq_some_iff.mp H; obtain ⟨t1004, A40, H⟩ := H; have A4 := am_ A40; clear A40
    by_cases c5 : 0 ≤ x5_1
    ·rw [if_pos c5] at H
     have c5b0 := decide_eq_true c5; clear c5; obtain ⟨y1005, hy1005⟩ : ∃ y_ : List (S91), y_ = (x0_1.set (x5_1 : Int).toNat (⟨t1004, (rd_T91 x0_1 x5_1).f1, (rd_T91 x0_1 x5_1).f2, (rd_T91 x0_1 x5_1).f3, (rd_T91 x0_1 x5_1).f4, (rd_T91 x0_1 x5_1).f5, (rd_T91 x0_1 x5_1).f6, (rd_T91 x0_1 x5_1).f7, (rd_T91 x0_1 x5_1).f8⟩ : S91)) := ⟨_, rfl⟩
     (first | (rw [← hy1005] at H; with_reducible replace H := bindZ H) | rw [← hy1005] at H | skip)
     have Ny1005 := am_ hy1005; clear hy1005; obtain ⟨y1006, hy1006⟩ : ∃ y_ : List (S91), y_ = (y1005.set (x5_1 : Int).toNat (⟨(rd_T91 y1005 x5_1).f0, wrap64 (x1_1 + 1), (rd_T91 y1005 x5_1).f2, (rd_T91 y1005 x5_1).f3, (rd_T91 y1005 x5_1).f4, (rd_T91 y1005 x5_1).f5, (rd_T91 y1005 x5_1).f6, (rd_T91 y1005 x5_1).f7, (rd_T91 y1005 x5_1).f8⟩ : S91)) := ⟨_, rfl⟩
     (first | (rw [← hy1006] at H; with_reducible replace H := bindZ H) | rw [← hy1006] at H | skip)
     have Ny1006 := am_ hy1006; clear hy1006; obtain ⟨y1007, hy1007⟩ : ∃ y_ : List (S91), y_ = (y1006.set (x5_1 : Int).toNat (⟨(rd_T91 y1006 x5_1).f0, (rd_T91 y1006 x5_1).f1, wrap64 ((wrap64 (x1_1 + 1)) + 1), (rd_T91 y1006 x5_1).f3, (rd_T91 y1006 x5_1).f4, (rd_T91 y1006 x5_1).f5, (rd_T91 y1006 x5_1).f6, (rd_T91 y1006 x5_1).f7, (rd_T91 y1006 x5_1).f8⟩ : S91)) := ⟨_, rfl⟩
     (first | (rw [← hy1007] at H; with_reducible replace H := bindZ H) | rw [← hy1007] at H | skip)
     have Ny1007 := am_ hy1007; clear hy1007; obtain ⟨y1008, hy1008⟩ : ∃ y_ : List (S91), y_ = (y1007.set (x5_1 : Int).toNat (⟨(rd_T91 y1007 x5_1).f0, (rd_T91 y1007 x5_1).f1, (rd_T91 y1007 x5_1).f2, wrap64 ((wrap64 ((wrap64 (x1_1 + 1)) + 1)) + 1), (rd_T91 y1007 x5_1).f4, (rd_T91 y1007 x5_1).f5, (rd_T91 y1007 x5_1).f6, (rd_T91 y1007 x5_1).f7, (rd_T91 y1007 x5_1).f8⟩ : S91)) := ⟨_, rfl⟩
     (first | (rw [← hy1008] at H; with_reducible replace H := bindZ H) | rw [← hy1008] at H | skip)
     have Ny1008 := am_ hy1008; clear hy1008; obtain ⟨y1009, hy1009⟩ : ∃ y_ : List (S91), y_ = (y1008.set (x5_1 : Int).toNat (⟨(rd_T91 y1008 x5_1).f0, (rd_T91 y1008 x5_1).f1, (rd_T91 y1008 x5_1).f2, (rd_T91 y1008 x5_1).f3, wrap64 ((wrap64 ((wrap64 ((wrap64 (x1_1 + 1)) + 1)) + 1)) + 1), (rd_T91 y1008 x5_1).f5, (rd_T91 y1008 x5_1).f6, (rd_T91 y1008 x5_1).f7, (rd_T91 y1008 x5_1).f8⟩ : S91)) := ⟨_, rfl⟩
     (first | (rw [← hy1009] at H; with_reducible replace H := bindZ H) | rw [← hy1009] at H | skip)
     have Ny1009 := am_ hy1009; clear hy1009; obtain ⟨y1010, hy1010⟩ : ∃ y_ : List (S91), y_ = (y1009.set (x5_1 : Int).toNat (⟨(rd_T91 y1009 x5_1).f0, (rd_T91 y1009 x5_1).f1, (rd_T91 y1009 x5_1).f2, (rd_T91 y1009 x5_1).f3, (rd_T91 y1009 x5_1).f4, wrap64 ((wrap64 ((wrap64 ((wrap64 ((wrap64 (x1_1 + 1)) + 1)) + 1)) + 1)) + 1), (rd_T91 y1009 x5_1).f6, (rd_T91 y1009 x5_1).f7, (rd_T91 y1009 x5_1).f8⟩ : S91)) := ⟨_, rfl⟩
     (first | (rw [← hy1010] at H; with_reducible replace H := bindZ H) | rw [← hy1010] at H | skip)
     have Ny1010 := am_ hy1010; clear hy1010; obtain ⟨y1011, hy1011⟩ : ∃ y_ : List (S91), y_ = (y1010.set (x5_1 : Int).toNat (⟨(rd_T91 y1010 x5_1).f0, (rd_T91 y1010 x5_1).f1, (rd_T91 y1010 x5_1).f2, (rd_T91 y1010 x5_1).f3, (rd_T91 y1010 x5_1).f4, (rd_T91 y1010 x5_1).f5, wrap64 ((wrap64 ((wrap64 ((wrap64 ((wrap64 ((wrap64 (x1_1 + 1)) + 1)) + 1)) + 1)) + 1)) + 1), (rd_T91 y1010 x5_1).f7, (rd_T91 y1010 x5_1).f8⟩ : S91)) := ⟨_, rfl⟩
     (first | (rw [← hy1011] at H; with_reducible replace H := bindZ H) | rw [← hy1011] at H | skip)
     have Ny1011 := am_ hy1011; clear hy1011; obtain ⟨y1012, hy1012⟩ : ∃ y_ : List (S91), y_ = (y1011.set (x5_1 : Int).toNat (⟨(rd_T91 y1011 x5_1).f0, (rd_T91 y1011 x5_1).f1, (rd_T91 y1011 x5_1).f2, (rd_T91 y1011 x5_1).f3, (rd_T91 y1011 x5_1).f4, (rd_T91 y1011 x5_1).f5, (rd_T91 y1011 x5_1).f6, wrap64 ((wrap64 ((wrap64 ((wrap64 ((wrap64 ((wrap64 ((wrap64 (x1_1 + 1)) + 1)) + 1)) + 1)) + 1)) + 1)) + 1), (rd_T91 y1011 x5_1).f8⟩ : S91)) := ⟨_, rfl⟩
     (first | (rw [← hy1012] at H; with_reducible replace H := bindZ H) | rw [← hy1012] at H | skip)
     have Ny1012 := am_ hy1012; clear hy1012; obtain ⟨y1013, hy1013⟩ : ∃ y_ : List (S91), y_ = (y1012.set (x5_1 : Int).toNat (⟨(rd_T91 y1012 x5_1).f0, (rd_T91 y1012 x5_1).f1, (rd_T91 y1012 x5_1).f2, (rd_T91 y1012 x5_1).f3, (rd_T91 y1012 x5_1).f4, (rd_T91 y1012 x5_1).f5, (rd_T91 y1012 x5_1).f6, (rd_T91 y1012 x5_1).f7, wrap64 ((wrap64 ((wrap64 ((wrap64 ((wrap64 ((wrap64 ((wrap64 ((wrap64 (x1_1 + 1)) + 1)) + 1)) + 1)) + 1)) + 1)) + 1)) + 1)⟩ : S91)) := ⟨_, rfl⟩
     (first | (rw [← hy1013] at H; with_reducible replace H := bindZ H) | rw [← hy1013] at H | skip)
     have Ny1013 := am_ hy1013; clear hy1013; have H' := am_ H; clear H; obtain ⟨Ao15, co15, eo15⟩ := Kd.R_slice HO_0.out; subst eo15
     go_wp2_with (first | ((with_reducible refine gate_callee (f := 69) rfl ?_); refine gZ 15 Try.func69 #[.int .i64 x1_1] ?_; (with_reducible refine (laws_markText.calls k1 x1_1 t1004 _ A4.out).mono ?_); rintro e w16 ⟨rfl, hb⟩; refine ⟨_, rfl, ?_⟩; replace HO_0 := (hbZ HO_0 hb); replace HK := am_ (Kept.below (S := (fun k_ => P0_ k_)) Zt hb); replace HB := (bsZ Zd hb); clear hb; have p6 : 0 ≤ (x5_1 : Int) := of_decide_eq_true Zn; have q6 : (x5_1 : Int) < ((x0_1.length : Int) : Int) := of_decide_eq_true Zn; obtain ⟨go6, co6, eo6, gb6, gl6, cl6, HG6⟩ := Kd.R_form HO_0.out (by omega); (first | cases eo6 | (injection eo6 with ea_ en_ ec_; (first | subst ea_ | (injection ea_ with ea_; subst ea_)); subst ec_; clear en_)); have GB6 := am_ gb6; have GG6 := am_ HG6; clear gb6 gl6 HG6; have HMgo6 := am_ (show (P0_ go6 ∨ w.heap.size ≤ go6) from (HO_0.out.1 _ rfl)); obtain ⟨ce6, hcl6, hM6, hcc6, hfr6⟩ := Kd.R_elem HO_0.out z91 (x5_1 : Int) p6 q6; obtain rfl := k91_openM hM6; have hx6_0 : w16.cell? ⟨go6, (x5_1 : Int).toNat * 9, none⟩ = some (.string ((rd_T91 x0_1 x5_1).f0)) := hcc6 0 _ rfl; have hx6_1 : w16.cell? ⟨go6, (x5_1 : Int).toNat * 9 + 1, none⟩ = some (.int .i64 ((rd_T91 x0_1 x5_1).f1)) := hcc6 1 _ rfl; have hx6_2 : w16.cell? ⟨go6, (x5_1 : Int).toNat * 9 + 2, none⟩ = some (.int .i64 ((rd_T91 x0_1 x5_1).f2)) := hcc6 2 _ rfl; have hx6_3 : w16.cell? ⟨go6, (x5_1 : Int).toNat * 9 + 3, none⟩ = some (.int .i64 ((rd_T91 x0_1 x5_1).f3)) := hcc6 3 _ rfl; have hx6_4 : w16.cell? ⟨go6, (x5_1 : Int).toNat * 9 + 4, none⟩ = some (.int .i64 ((rd_T91 x0_1 x5_1).f4)) := hcc6 4 _ rfl; have hx6_5 : w16.cell? ⟨go6, (x5_1 : Int).toNat * 9 + 5, none⟩ = some (.int .i64 ((rd_T91 x0_1 x5_1).f5)) := hcc6 5 _ rfl; have hx6_6 : w16.cell? ⟨go6, (x5_1 : Int).toNat * 9 + 6, none⟩ = some (.int .i64 ((rd_T91 x0_1 x5_1).f6)) := hcc6 6 _ rfl; have hx6_7 : w16.cell? ⟨go6, (x5_1 : Int).toNat * 9 + 7, none⟩ = some (.int .i64 ((rd_T91 x0_1 x5_1).f7)) := hcc6 7 _ rfl; have hx6_8 : w16.cell? ⟨go6, (x5_1 : Int).toNat * 9 + 8, none⟩ = some (.int .i64 ((rd_T91 x0_1 x5_1).f8)) := hcc6 8 _ rfl; have hf6_0 : w16.frozen? ⟨go6, (x5_1 : Int).toNat * 9, none⟩ = false := hfr6 0; have hf6_1 := hfr6 1; have hf6_2 := hfr6 2; have hf6_3 := hfr6 3; have hf6_4 := hfr6 4; have hf6_5 := hfr6 5; have hf6_6 := hfr6 6; have hf6_7 := hfr6 7; have hf6_8 := hfr6 8; clear hcl6 hcc6 hfr6 hM6; replace p6 := eq_true p6; replace q6 := eq_true q6; have HX17 := am_ (show Kd.R k91 91 w16 w0.heap.size (fun k_ => (P0_ k_ ∨ w.heap.size ≤ k_)) (.slice (some ⟨go6, 0, none⟩) x0_1.length co15) x0_1 from (Zo HO_0)); obtain ⟨ce17, hcl17, hM17, hcc17, hfr17⟩ := Kd.R_elem HX17.out z91 (x5_1 : Int) (of_decide_eq_true Zn) (by have h_ : (x5_1 : Int) < ((x0_1.length : Int) : Int) := of_decide_eq_true Zn; first | exact h_ | (have e_ := (Kd.R_reads' HO_0.out).1; omega) | simpa using h_); obtain rfl := k91_openM hM17; have HP17 := Kd.R_seg HX17.out (x5_1 : Int) (of_decide_eq_true Zn) (by have h_ : (x5_1 : Int) < ((x0_1.length : Int) : Int) := of_decide_eq_true Zn; first | exact h_ | (have e_ := (Kd.R_reads' HO_0.out).1; omega) | simpa using h_) (seg := [.string t1004]) (j := 0) hcl17 hcc17 (show 1 ≤ 9 from (by decide)) (x' := (⟨t1004, (rd_T91 x0_1 x5_1).f1, (rd_T91 x0_1 x5_1).f2, (rd_T91 x0_1 x5_1).f3, (rd_T91 x0_1 x5_1).f4, (rd_T91 x0_1 x5_1).f5, (rd_T91 x0_1 x5_1).f6, (rd_T91 x0_1 x5_1).f7, (rd_T91 x0_1 x5_1).f8⟩ : S91)) (k91_mkM _ _ _ (⟨t1004, (rd_T91 x0_1 x5_1).f1, (rd_T91 x0_1 x5_1).f2, (rd_T91 x0_1 x5_1).f3, (rd_T91 x0_1 x5_1).f4, (rd_T91 x0_1 x5_1).f5, (rd_T91 x0_1 x5_1).f6, (rd_T91 x0_1 x5_1).f7, (rd_T91 x0_1 x5_1).f8⟩ : S91) ) (fun _ hk => hk); have hx17_0 := hcc17 0 _ rfl; (try simp only [show (k91).sz = 9 from rfl, Nat.mul_one, Nat.add_zero] at hx17_0); have hf17_0 := hfr17 0; (try simp only [show (k91).sz = 9 from rfl, Nat.mul_one, Nat.add_zero] at hf17_0); clear hcl17 hcc17 hfr17 hM17) | ((with_reducible refine gate_store (t := 9) (p := 17) rfl ?_); refine store_event (t := 9) (p := 17) (v := ?vo_w18) (w1 := (w16.setCell ⟨go6, (x5_1 : Int).toNat * 9, none⟩ (.string t1004))) ?hg ?ho ?hn ?hr ?_; (case ho => rfl); (case hg => rfl); (case hn => rfl); (case hr => first | (go_simp; done) | (go_simp; rfl)); intro w18 hw; have hg : w16.grownBy w18 (some go6) := (by rw [hw]; exact HP17.2); have hp_ : Kd.R k91 91 w18 w0.heap.size (fun k_ => (P0_ k_ ∨ w.heap.size ≤ k_)) (.slice (some ⟨go6, 0, none⟩) x0_1.length co15) y1005 := (by rw [hw, Ny1005.out]; exact HP17.1); clear HP17; replace HB := am_ (((Zu GB6) : Below w0.heap.size w0 w18)); replace HK := am_ (Kept.of_grown (S := (fun k_ => P0_ k_)) hg Zt (fun k_ e_ => (HO_0.out.1 k_ e_))); replace HO_0 := am_ (hp_); clear hg hw hp_; have p7 : 0 ≤ (x5_1 : Int) := of_decide_eq_true Zn; have q7 : (x5_1 : Int) < ((x0_1.length : Int) : Int) := of_decide_eq_true Zn; obtain ⟨ce7, hcl7, hM7, hcc7, hfr7⟩ := Kd.R_elem HO_0.out z91 (x5_1 : Int) p7 q7; obtain rfl := k91_openM hM7; have hx7_0 : w18.cell? ⟨go6, (x5_1 : Int).toNat * 9, none⟩ = some (.string ((rd_T91 y1005 x5_1).f0)) := hcc7 0 _ rfl; have hx7_1 : w18.cell? ⟨go6, (x5_1 : Int).toNat * 9 + 1, none⟩ = some (.int .i64 ((rd_T91 y1005 x5_1).f1)) := hcc7 1 _ rfl; have hx7_2 : w18.cell? ⟨go6, (x5_1 : Int).toNat * 9 + 2, none⟩ = some (.int .i64 ((rd_T91 y1005 x5_1).f2)) := hcc7 2 _ rfl; have hx7_3 : w18.cell? ⟨go6, (x5_1 : Int).toNat * 9 + 3, none⟩ = some (.int .i64 ((rd_T91 y1005 x5_1).f3)) := hcc7 3 _ rfl; have hx7_4 : w18.cell? ⟨go6, (x5_1 : Int).toNat * 9 + 4, none⟩ = some (.int .i64 ((rd_T91 y1005 x5_1).f4)) := hcc7 4 _ rfl; have hx7_5 : w18.cell? ⟨go6, (x5_1 : Int).toNat * 9 + 5, none⟩ = some (.int .i64 ((rd_T91 y1005 x5_1).f5)) := hcc7 5 _ rfl; have hx7_6 : w18.cell? ⟨go6, (x5_1 : Int).toNat * 9 + 6, none⟩ = some (.int .i64 ((rd_T91 y1005 x5_1).f6)) := hcc7 6 _ rfl; have hx7_7 : w18.cell? ⟨go6, (x5_1 : Int).toNat * 9 + 7, none⟩ = some (.int .i64 ((rd_T91 y1005 x5_1).f7)) := hcc7 7 _ rfl; have hx7_8 : w18.cell? ⟨go6, (x5_1 : Int).toNat * 9 + 8, none⟩ = some (.int .i64 ((rd_T91 y1005 x5_1).f8)) := hcc7 8 _ rfl; have hf7_0 : w18.frozen? ⟨go6, (x5_1 : Int).toNat * 9, none⟩ = false := hfr7 0; have hf7_1 := hfr7 1; have hf7_2 := hfr7 2; have hf7_3 := hfr7 3; have hf7_4 := hfr7 4; have hf7_5 := hfr7 5; have hf7_6 := hfr7 6; have hf7_7 := hfr7 7; have hf7_8 := hfr7 8; clear hcl7 hcc7 hfr7 hM7; replace p7 := eq_true p7; replace q7 := eq_true q7; have HX19 := am_ (show Kd.R k91 91 w18 w0.heap.size (fun k_ => (P0_ k_ ∨ w.heap.size ≤ k_)) (.slice (some ⟨go6, 0, none⟩) x0_1.length co15) y1005 from (Zo HO_0)); obtain ⟨ce19, hcl19, hM19, hcc19, hfr19⟩ := Kd.R_elem HX19.out z91 (x5_1 : Int) (of_decide_eq_true Zn) (by have h_ : (x5_1 : Int) < ((x0_1.length : Int) : Int) := of_decide_eq_true Zn; first | exact h_ | (have e_ := (Kd.R_reads' HO_0.out).1; omega) | simpa using h_); obtain rfl := k91_openM hM19; have HP19 := Kd.R_seg HX19.out (x5_1 : Int) (of_decide_eq_true Zn) (by have h_ : (x5_1 : Int) < ((x0_1.length : Int) : Int) := of_decide_eq_true Zn; first | exact h_ | (have e_ := (Kd.R_reads' HO_0.out).1; omega) | simpa using h_) (seg := [.int .i64 (wrap64 (x1_1 + 1))]) (j := 1) hcl19 hcc19 (show 2 ≤ 9 from (by decide)) (x' := (⟨(rd_T91 y1005 x5_1).f0, wrap64 (x1_1 + 1), (rd_T91 y1005 x5_1).f2, (rd_T91 y1005 x5_1).f3, (rd_T91 y1005 x5_1).f4, (rd_T91 y1005 x5_1).f5, (rd_T91 y1005 x5_1).f6, (rd_T91 y1005 x5_1).f7, (rd_T91 y1005 x5_1).f8⟩ : S91)) (k91_mkM _ _ _ (⟨(rd_T91 y1005 x5_1).f0, wrap64 (x1_1 + 1), (rd_T91 y1005 x5_1).f2, (rd_T91 y1005 x5_1).f3, (rd_T91 y1005 x5_1).f4, (rd_T91 y1005 x5_1).f5, (rd_T91 y1005 x5_1).f6, (rd_T91 y1005 x5_1).f7, (rd_T91 y1005 x5_1).f8⟩ : S91) ) (fun _ hk => hk); have hx19_1 := hcc19 1 _ rfl; (try simp only [show (k91).sz = 9 from rfl, Nat.mul_one, Nat.add_zero] at hx19_1); have hf19_1 := hfr19 1; (try simp only [show (k91).sz = 9 from rfl, Nat.mul_one, Nat.add_zero] at hf19_1); clear hcl19 hcc19 hfr19 hM19) | ((with_reducible refine gate_store (t := 2) (p := 24) rfl ?_); refine store_event (t := 2) (p := 24) (v := ?vo_w20) (w1 := (w18.setCell ⟨go6, (x5_1 : Int).toNat * 9 + 1, none⟩ (.int .i64 (wrap64 (x1_1 + 1))))) ?hg ?ho ?hn ?hr ?_; (case ho => rfl); (case hg => rfl); (case hn => rfl); (case hr => first | (go_simp; done) | (go_simp; rfl)); intro w20 hw; have hg : w18.grownBy w20 (some go6) := (by rw [hw]; exact HP19.2); have hp_ : Kd.R k91 91 w20 w0.heap.size (fun k_ => (P0_ k_ ∨ w.heap.size ≤ k_)) (.slice (some ⟨go6, 0, none⟩) x0_1.length co15) y1006 := (by rw [hw, Ny1006.out]; exact HP19.1); clear HP19; replace HB := am_ (((Zu GB6) : Below w0.heap.size w0 w20)); replace HK := am_ (Kept.of_grown (S := (fun k_ => P0_ k_)) hg Zt (fun k_ e_ => (HO_0.out.1 k_ e_))); replace HO_0 := am_ (hp_); clear hg hw hp_; have p8 : 0 ≤ (x5_1 : Int) := of_decide_eq_true Zn; have q8 : (x5_1 : Int) < ((x0_1.length : Int) : Int) := of_decide_eq_true Zn; obtain ⟨ce8, hcl8, hM8, hcc8, hfr8⟩ := Kd.R_elem HO_0.out z91 (x5_1 : Int) p8 q8; obtain rfl := k91_openM hM8; have hx8_0 : w20.cell? ⟨go6, (x5_1 : Int).toNat * 9, none⟩ = some (.string ((rd_T91 y1006 x5_1).f0)) := hcc8 0 _ rfl; have hx8_1 : w20.cell? ⟨go6, (x5_1 : Int).toNat * 9 + 1, none⟩ = some (.int .i64 ((rd_T91 y1006 x5_1).f1)) := hcc8 1 _ rfl; have hx8_2 : w20.cell? ⟨go6, (x5_1 : Int).toNat * 9 + 2, none⟩ = some (.int .i64 ((rd_T91 y1006 x5_1).f2)) := hcc8 2 _ rfl; have hx8_3 : w20.cell? ⟨go6, (x5_1 : Int).toNat * 9 + 3, none⟩ = some (.int .i64 ((rd_T91 y1006 x5_1).f3)) := hcc8 3 _ rfl; have hx8_4 : w20.cell? ⟨go6, (x5_1 : Int).toNat * 9 + 4, none⟩ = some (.int .i64 ((rd_T91 y1006 x5_1).f4)) := hcc8 4 _ rfl; have hx8_5 : w20.cell? ⟨go6, (x5_1 : Int).toNat * 9 + 5, none⟩ = some (.int .i64 ((rd_T91 y1006 x5_1).f5)) := hcc8 5 _ rfl; have hx8_6 : w20.cell? ⟨go6, (x5_1 : Int).toNat * 9 + 6, none⟩ = some (.int .i64 ((rd_T91 y1006 x5_1).f6)) := hcc8 6 _ rfl; have hx8_7 : w20.cell? ⟨go6, (x5_1 : Int).toNat * 9 + 7, none⟩ = some (.int .i64 ((rd_T91 y1006 x5_1).f7)) := hcc8 7 _ rfl; have hx8_8 : w20.cell? ⟨go6, (x5_1 : Int).toNat * 9 + 8, none⟩ = some (.int .i64 ((rd_T91 y1006 x5_1).f8)) := hcc8 8 _ rfl; have hf8_0 : w20.frozen? ⟨go6, (x5_1 : Int).toNat * 9, none⟩ = false := hfr8 0; have hf8_1 := hfr8 1; have hf8_2 := hfr8 2; have hf8_3 := hfr8 3; have hf8_4 := hfr8 4; have hf8_5 := hfr8 5; have hf8_6 := hfr8 6; have hf8_7 := hfr8 7; have hf8_8 := hfr8 8; clear hcl8 hcc8 hfr8 hM8; replace p8 := eq_true p8; replace q8 := eq_true q8; have HX21 := am_ (show Kd.R k91 91 w20 w0.heap.size (fun k_ => (P0_ k_ ∨ w.heap.size ≤ k_)) (.slice (some ⟨go6, 0, none⟩) x0_1.length co15) y1006 from (Zo HO_0)); obtain ⟨ce21, hcl21, hM21, hcc21, hfr21⟩ := Kd.R_elem HX21.out z91 (x5_1 : Int) (of_decide_eq_true Zn) (by have h_ : (x5_1 : Int) < ((x0_1.length : Int) : Int) := of_decide_eq_true Zn; first | exact h_ | (have e_ := (Kd.R_reads' HO_0.out).1; omega) | simpa using h_); obtain rfl := k91_openM hM21; have HP21 := Kd.R_seg HX21.out (x5_1 : Int) (of_decide_eq_true Zn) (by have h_ : (x5_1 : Int) < ((x0_1.length : Int) : Int) := of_decide_eq_true Zn; first | exact h_ | (have e_ := (Kd.R_reads' HO_0.out).1; omega) | simpa using h_) (seg := [.int .i64 (wrap64 ((wrap64 (x1_1 + 1)) + 1))]) (j := 2) hcl21 hcc21 (show 3 ≤ 9 from (by decide)) (x' := (⟨(rd_T91 y1006 x5_1).f0, (rd_T91 y1006 x5_1).f1, wrap64 ((wrap64 (x1_1 + 1)) + 1), (rd_T91 y1006 x5_1).f3, (rd_T91 y1006 x5_1).f4, (rd_T91 y1006 x5_1).f5, (rd_T91 y1006 x5_1).f6, (rd_T91 y1006 x5_1).f7, (rd_T91 y1006 x5_1).f8⟩ : S91)) (k91_mkM _ _ _ (⟨(rd_T91 y1006 x5_1).f0, (rd_T91 y1006 x5_1).f1, wrap64 ((wrap64 (x1_1 + 1)) + 1), (rd_T91 y1006 x5_1).f3, (rd_T91 y1006 x5_1).f4, (rd_T91 y1006 x5_1).f5, (rd_T91 y1006 x5_1).f6, (rd_T91 y1006 x5_1).f7, (rd_T91 y1006 x5_1).f8⟩ : S91) ) (fun _ hk => hk); have hx21_2 := hcc21 2 _ rfl; (try simp only [show (k91).sz = 9 from rfl, Nat.mul_one, Nat.add_zero] at hx21_2); have hf21_2 := hfr21 2; (try simp only [show (k91).sz = 9 from rfl, Nat.mul_one, Nat.add_zero] at hf21_2); clear hcl21 hcc21 hfr21 hM21) | ((with_reducible refine gate_store (t := 2) (p := 31) rfl ?_); refine store_event (t := 2) (p := 31) (v := ?vo_w22) (w1 := (w20.setCell ⟨go6, (x5_1 : Int).toNat * 9 + 2, none⟩ (.int .i64 (wrap64 ((wrap64 (x1_1 + 1)) + 1))))) ?hg ?ho ?hn ?hr ?_; (case ho => rfl); (case hg => rfl); (case hn => rfl); (case hr => first | (go_simp; done) | (go_simp; rfl)); intro w22 hw; have hg : w20.grownBy w22 (some go6) := (by rw [hw]; exact HP21.2); have hp_ : Kd.R k91 91 w22 w0.heap.size (fun k_ => (P0_ k_ ∨ w.heap.size ≤ k_)) (.slice (some ⟨go6, 0, none⟩) x0_1.length co15) y1007 := (by rw [hw, Ny1007.out]; exact HP21.1); clear HP21; replace HB := am_ (((Zu GB6) : Below w0.heap.size w0 w22)); replace HK := am_ (Kept.of_grown (S := (fun k_ => P0_ k_)) hg Zt (fun k_ e_ => (HO_0.out.1 k_ e_))); replace HO_0 := am_ (hp_); clear hg hw hp_; have p9 : 0 ≤ (x5_1 : Int) := of_decide_eq_true Zn; have q9 : (x5_1 : Int) < ((x0_1.length : Int) : Int) := of_decide_eq_true Zn; obtain ⟨ce9, hcl9, hM9, hcc9, hfr9⟩ := Kd.R_elem HO_0.out z91 (x5_1 : Int) p9 q9; obtain rfl := k91_openM hM9; have hx9_0 : w22.cell? ⟨go6, (x5_1 : Int).toNat * 9, none⟩ = some (.string ((rd_T91 y1007 x5_1).f0)) := hcc9 0 _ rfl; have hx9_1 : w22.cell? ⟨go6, (x5_1 : Int).toNat * 9 + 1, none⟩ = some (.int .i64 ((rd_T91 y1007 x5_1).f1)) := hcc9 1 _ rfl; have hx9_2 : w22.cell? ⟨go6, (x5_1 : Int).toNat * 9 + 2, none⟩ = some (.int .i64 ((rd_T91 y1007 x5_1).f2)) := hcc9 2 _ rfl; have hx9_3 : w22.cell? ⟨go6, (x5_1 : Int).toNat * 9 + 3, none⟩ = some (.int .i64 ((rd_T91 y1007 x5_1).f3)) := hcc9 3 _ rfl; have hx9_4 : w22.cell? ⟨go6, (x5_1 : Int).toNat * 9 + 4, none⟩ = some (.int .i64 ((rd_T91 y1007 x5_1).f4)) := hcc9 4 _ rfl; have hx9_5 : w22.cell? ⟨go6, (x5_1 : Int).toNat * 9 + 5, none⟩ = some (.int .i64 ((rd_T91 y1007 x5_1).f5)) := hcc9 5 _ rfl; have hx9_6 : w22.cell? ⟨go6, (x5_1 : Int).toNat * 9 + 6, none⟩ = some (.int .i64 ((rd_T91 y1007 x5_1).f6)) := hcc9 6 _ rfl; have hx9_7 : w22.cell? ⟨go6, (x5_1 : Int).toNat * 9 + 7, none⟩ = some (.int .i64 ((rd_T91 y1007 x5_1).f7)) := hcc9 7 _ rfl; have hx9_8 : w22.cell? ⟨go6, (x5_1 : Int).toNat * 9 + 8, none⟩ = some (.int .i64 ((rd_T91 y1007 x5_1).f8)) := hcc9 8 _ rfl; have hf9_0 : w22.frozen? ⟨go6, (x5_1 : Int).toNat * 9, none⟩ = false := hfr9 0; have hf9_1 := hfr9 1; have hf9_2 := hfr9 2; have hf9_3 := hfr9 3; have hf9_4 := hfr9 4; have hf9_5 := hfr9 5; have hf9_6 := hfr9 6; have hf9_7 := hfr9 7; have hf9_8 := hfr9 8; clear hcl9 hcc9 hfr9 hM9; replace p9 := eq_true p9; replace q9 := eq_true q9; have HX23 := am_ (show Kd.R k91 91 w22 w0.heap.size (fun k_ => (P0_ k_ ∨ w.heap.size ≤ k_)) (.slice (some ⟨go6, 0, none⟩) x0_1.length co15) y1007 from (Zo HO_0)); obtain ⟨ce23, hcl23, hM23, hcc23, hfr23⟩ := Kd.R_elem HX23.out z91 (x5_1 : Int) (of_decide_eq_true Zn) (by have h_ : (x5_1 : Int) < ((x0_1.length : Int) : Int) := of_decide_eq_true Zn; first | exact h_ | (have e_ := (Kd.R_reads' HO_0.out).1; omega) | simpa using h_); obtain rfl := k91_openM hM23; have HP23 := Kd.R_seg HX23.out (x5_1 : Int) (of_decide_eq_true Zn) (by have h_ : (x5_1 : Int) < ((x0_1.length : Int) : Int) := of_decide_eq_true Zn; first | exact h_ | (have e_ := (Kd.R_reads' HO_0.out).1; omega) | simpa using h_) (seg := [.int .i64 (wrap64 ((wrap64 ((wrap64 (x1_1 + 1)) + 1)) + 1))]) (j := 3) hcl23 hcc23 (show 4 ≤ 9 from (by decide)) (x' := (⟨(rd_T91 y1007 x5_1).f0, (rd_T91 y1007 x5_1).f1, (rd_T91 y1007 x5_1).f2, wrap64 ((wrap64 ((wrap64 (x1_1 + 1)) + 1)) + 1), (rd_T91 y1007 x5_1).f4, (rd_T91 y1007 x5_1).f5, (rd_T91 y1007 x5_1).f6, (rd_T91 y1007 x5_1).f7, (rd_T91 y1007 x5_1).f8⟩ : S91)) (k91_mkM _ _ _ (⟨(rd_T91 y1007 x5_1).f0, (rd_T91 y1007 x5_1).f1, (rd_T91 y1007 x5_1).f2, wrap64 ((wrap64 ((wrap64 (x1_1 + 1)) + 1)) + 1), (rd_T91 y1007 x5_1).f4, (rd_T91 y1007 x5_1).f5, (rd_T91 y1007 x5_1).f6, (rd_T91 y1007 x5_1).f7, (rd_T91 y1007 x5_1).f8⟩ : S91) ) (fun _ hk => hk); have hx23_3 := hcc23 3 _ rfl; (try simp only [show (k91).sz = 9 from rfl, Nat.mul_one, Nat.add_zero] at hx23_3); have hf23_3 := hfr23 3; (try simp only [show (k91).sz = 9 from rfl, Nat.mul_one, Nat.add_zero] at hf23_3); clear hcl23 hcc23 hfr23 hM23) | ((with_reducible refine gate_store (t := 2) (p := 38) rfl ?_); refine store_event (t := 2) (p := 38) (v := ?vo_w24) (w1 := (w22.setCell ⟨go6, (x5_1 : Int).toNat * 9 + 3, none⟩ (.int .i64 (wrap64 ((wrap64 ((wrap64 (x1_1 + 1)) + 1)) + 1))))) ?hg ?ho ?hn ?hr ?_; (case ho => rfl); (case hg => rfl); (case hn => rfl); (case hr => first | (go_simp; done) | (go_simp; rfl)); intro w24 hw; have hg : w22.grownBy w24 (some go6) := (by rw [hw]; exact HP23.2); have hp_ : Kd.R k91 91 w24 w0.heap.size (fun k_ => (P0_ k_ ∨ w.heap.size ≤ k_)) (.slice (some ⟨go6, 0, none⟩) x0_1.length co15) y1008 := (by rw [hw, Ny1008.out]; exact HP23.1); clear HP23; replace HB := am_ (((Zu GB6) : Below w0.heap.size w0 w24)); replace HK := am_ (Kept.of_grown (S := (fun k_ => P0_ k_)) hg Zt (fun k_ e_ => (HO_0.out.1 k_ e_))); replace HO_0 := am_ (hp_); clear hg hw hp_; have p10 : 0 ≤ (x5_1 : Int) := of_decide_eq_true Zn; have q10 : (x5_1 : Int) < ((x0_1.length : Int) : Int) := of_decide_eq_true Zn; obtain ⟨ce10, hcl10, hM10, hcc10, hfr10⟩ := Kd.R_elem HO_0.out z91 (x5_1 : Int) p10 q10; obtain rfl := k91_openM hM10; have hx10_0 : w24.cell? ⟨go6, (x5_1 : Int).toNat * 9, none⟩ = some (.string ((rd_T91 y1008 x5_1).f0)) := hcc10 0 _ rfl; have hx10_1 : w24.cell? ⟨go6, (x5_1 : Int).toNat * 9 + 1, none⟩ = some (.int .i64 ((rd_T91 y1008 x5_1).f1)) := hcc10 1 _ rfl; have hx10_2 : w24.cell? ⟨go6, (x5_1 : Int).toNat * 9 + 2, none⟩ = some (.int .i64 ((rd_T91 y1008 x5_1).f2)) := hcc10 2 _ rfl; have hx10_3 : w24.cell? ⟨go6, (x5_1 : Int).toNat * 9 + 3, none⟩ = some (.int .i64 ((rd_T91 y1008 x5_1).f3)) := hcc10 3 _ rfl; have hx10_4 : w24.cell? ⟨go6, (x5_1 : Int).toNat * 9 + 4, none⟩ = some (.int .i64 ((rd_T91 y1008 x5_1).f4)) := hcc10 4 _ rfl; have hx10_5 : w24.cell? ⟨go6, (x5_1 : Int).toNat * 9 + 5, none⟩ = some (.int .i64 ((rd_T91 y1008 x5_1).f5)) := hcc10 5 _ rfl; have hx10_6 : w24.cell? ⟨go6, (x5_1 : Int).toNat * 9 + 6, none⟩ = some (.int .i64 ((rd_T91 y1008 x5_1).f6)) := hcc10 6 _ rfl; have hx10_7 : w24.cell? ⟨go6, (x5_1 : Int).toNat * 9 + 7, none⟩ = some (.int .i64 ((rd_T91 y1008 x5_1).f7)) := hcc10 7 _ rfl; have hx10_8 : w24.cell? ⟨go6, (x5_1 : Int).toNat * 9 + 8, none⟩ = some (.int .i64 ((rd_T91 y1008 x5_1).f8)) := hcc10 8 _ rfl; have hf10_0 : w24.frozen? ⟨go6, (x5_1 : Int).toNat * 9, none⟩ = false := hfr10 0; have hf10_1 := hfr10 1; have hf10_2 := hfr10 2; have hf10_3 := hfr10 3; have hf10_4 := hfr10 4; have hf10_5 := hfr10 5; have hf10_6 := hfr10 6; have hf10_7 := hfr10 7; have hf10_8 := hfr10 8; clear hcl10 hcc10 hfr10 hM10; replace p10 := eq_true p10; replace q10 := eq_true q10; have HX25 := am_ (show Kd.R k91 91 w24 w0.heap.size (fun k_ => (P0_ k_ ∨ w.heap.size ≤ k_)) (.slice (some ⟨go6, 0, none⟩) x0_1.length co15) y1008 from (Zo HO_0)); obtain ⟨ce25, hcl25, hM25, hcc25, hfr25⟩ := Kd.R_elem HX25.out z91 (x5_1 : Int) (of_decide_eq_true Zn) (by have h_ : (x5_1 : Int) < ((x0_1.length : Int) : Int) := of_decide_eq_true Zn; first | exact h_ | (have e_ := (Kd.R_reads' HO_0.out).1; omega) | simpa using h_); obtain rfl := k91_openM hM25; have HP25 := Kd.R_seg HX25.out (x5_1 : Int) (of_decide_eq_true Zn) (by have h_ : (x5_1 : Int) < ((x0_1.length : Int) : Int) := of_decide_eq_true Zn; first | exact h_ | (have e_ := (Kd.R_reads' HO_0.out).1; omega) | simpa using h_) (seg := [.int .i64 (wrap64 ((wrap64 ((wrap64 ((wrap64 (x1_1 + 1)) + 1)) + 1)) + 1))]) (j := 4) hcl25 hcc25 (show 5 ≤ 9 from (by decide)) (x' := (⟨(rd_T91 y1008 x5_1).f0, (rd_T91 y1008 x5_1).f1, (rd_T91 y1008 x5_1).f2, (rd_T91 y1008 x5_1).f3, wrap64 ((wrap64 ((wrap64 ((wrap64 (x1_1 + 1)) + 1)) + 1)) + 1), (rd_T91 y1008 x5_1).f5, (rd_T91 y1008 x5_1).f6, (rd_T91 y1008 x5_1).f7, (rd_T91 y1008 x5_1).f8⟩ : S91)) (k91_mkM _ _ _ (⟨(rd_T91 y1008 x5_1).f0, (rd_T91 y1008 x5_1).f1, (rd_T91 y1008 x5_1).f2, (rd_T91 y1008 x5_1).f3, wrap64 ((wrap64 ((wrap64 ((wrap64 (x1_1 + 1)) + 1)) + 1)) + 1), (rd_T91 y1008 x5_1).f5, (rd_T91 y1008 x5_1).f6, (rd_T91 y1008 x5_1).f7, (rd_T91 y1008 x5_1).f8⟩ : S91) ) (fun _ hk => hk); have hx25_4 := hcc25 4 _ rfl; (try simp only [show (k91).sz = 9 from rfl, Nat.mul_one, Nat.add_zero] at hx25_4); have hf25_4 := hfr25 4; (try simp only [show (k91).sz = 9 from rfl, Nat.mul_one, Nat.add_zero] at hf25_4); clear hcl25 hcc25 hfr25 hM25) | ((with_reducible refine gate_store (t := 2) (p := 45) rfl ?_); refine store_event (t := 2) (p := 45) (v := ?vo_w26) (w1 := (w24.setCell ⟨go6, (x5_1 : Int).toNat * 9 + 4, none⟩ (.int .i64 (wrap64 ((wrap64 ((wrap64 ((wrap64 (x1_1 + 1)) + 1)) + 1)) + 1))))) ?hg ?ho ?hn ?hr ?_; (case ho => rfl); (case hg => rfl); (case hn => rfl); (case hr => first | (go_simp; done) | (go_simp; rfl)); intro w26 hw; have hg : w24.grownBy w26 (some go6) := (by rw [hw]; exact HP25.2); have hp_ : Kd.R k91 91 w26 w0.heap.size (fun k_ => (P0_ k_ ∨ w.heap.size ≤ k_)) (.slice (some ⟨go6, 0, none⟩) x0_1.length co15) y1009 := (by rw [hw, Ny1009.out]; exact HP25.1); clear HP25; replace HB := am_ (((Zu GB6) : Below w0.heap.size w0 w26)); replace HK := am_ (Kept.of_grown (S := (fun k_ => P0_ k_)) hg Zt (fun k_ e_ => (HO_0.out.1 k_ e_))); replace HO_0 := am_ (hp_); clear hg hw hp_; have p11 : 0 ≤ (x5_1 : Int) := of_decide_eq_true Zn; have q11 : (x5_1 : Int) < ((x0_1.length : Int) : Int) := of_decide_eq_true Zn; obtain ⟨ce11, hcl11, hM11, hcc11, hfr11⟩ := Kd.R_elem HO_0.out z91 (x5_1 : Int) p11 q11; obtain rfl := k91_openM hM11; have hx11_0 : w26.cell? ⟨go6, (x5_1 : Int).toNat * 9, none⟩ = some (.string ((rd_T91 y1009 x5_1).f0)) := hcc11 0 _ rfl; have hx11_1 : w26.cell? ⟨go6, (x5_1 : Int).toNat * 9 + 1, none⟩ = some (.int .i64 ((rd_T91 y1009 x5_1).f1)) := hcc11 1 _ rfl; have hx11_2 : w26.cell? ⟨go6, (x5_1 : Int).toNat * 9 + 2, none⟩ = some (.int .i64 ((rd_T91 y1009 x5_1).f2)) := hcc11 2 _ rfl; have hx11_3 : w26.cell? ⟨go6, (x5_1 : Int).toNat * 9 + 3, none⟩ = some (.int .i64 ((rd_T91 y1009 x5_1).f3)) := hcc11 3 _ rfl; have hx11_4 : w26.cell? ⟨go6, (x5_1 : Int).toNat * 9 + 4, none⟩ = some (.int .i64 ((rd_T91 y1009 x5_1).f4)) := hcc11 4 _ rfl; have hx11_5 : w26.cell? ⟨go6, (x5_1 : Int).toNat * 9 + 5, none⟩ = some (.int .i64 ((rd_T91 y1009 x5_1).f5)) := hcc11 5 _ rfl; have hx11_6 : w26.cell? ⟨go6, (x5_1 : Int).toNat * 9 + 6, none⟩ = some (.int .i64 ((rd_T91 y1009 x5_1).f6)) := hcc11 6 _ rfl; have hx11_7 : w26.cell? ⟨go6, (x5_1 : Int).toNat * 9 + 7, none⟩ = some (.int .i64 ((rd_T91 y1009 x5_1).f7)) := hcc11 7 _ rfl; have hx11_8 : w26.cell? ⟨go6, (x5_1 : Int).toNat * 9 + 8, none⟩ = some (.int .i64 ((rd_T91 y1009 x5_1).f8)) := hcc11 8 _ rfl; have hf11_0 : w26.frozen? ⟨go6, (x5_1 : Int).toNat * 9, none⟩ = false := hfr11 0; have hf11_1 := hfr11 1; have hf11_2 := hfr11 2; have hf11_3 := hfr11 3; have hf11_4 := hfr11 4; have hf11_5 := hfr11 5; have hf11_6 := hfr11 6; have hf11_7 := hfr11 7; have hf11_8 := hfr11 8; clear hcl11 hcc11 hfr11 hM11; replace p11 := eq_true p11; replace q11 := eq_true q11; have HX27 := am_ (show Kd.R k91 91 w26 w0.heap.size (fun k_ => (P0_ k_ ∨ w.heap.size ≤ k_)) (.slice (some ⟨go6, 0, none⟩) x0_1.length co15) y1009 from (Zo HO_0)); obtain ⟨ce27, hcl27, hM27, hcc27, hfr27⟩ := Kd.R_elem HX27.out z91 (x5_1 : Int) (of_decide_eq_true Zn) (by have h_ : (x5_1 : Int) < ((x0_1.length : Int) : Int) := of_decide_eq_true Zn; first | exact h_ | (have e_ := (Kd.R_reads' HO_0.out).1; omega) | simpa using h_); obtain rfl := k91_openM hM27; have HP27 := Kd.R_seg HX27.out (x5_1 : Int) (of_decide_eq_true Zn) (by have h_ : (x5_1 : Int) < ((x0_1.length : Int) : Int) := of_decide_eq_true Zn; first | exact h_ | (have e_ := (Kd.R_reads' HO_0.out).1; omega) | simpa using h_) (seg := [.int .i64 (wrap64 ((wrap64 ((wrap64 ((wrap64 ((wrap64 (x1_1 + 1)) + 1)) + 1)) + 1)) + 1))]) (j := 5) hcl27 hcc27 (show 6 ≤ 9 from (by decide)) (x' := (⟨(rd_T91 y1009 x5_1).f0, (rd_T91 y1009 x5_1).f1, (rd_T91 y1009 x5_1).f2, (rd_T91 y1009 x5_1).f3, (rd_T91 y1009 x5_1).f4, wrap64 ((wrap64 ((wrap64 ((wrap64 ((wrap64 (x1_1 + 1)) + 1)) + 1)) + 1)) + 1), (rd_T91 y1009 x5_1).f6, (rd_T91 y1009 x5_1).f7, (rd_T91 y1009 x5_1).f8⟩ : S91)) (k91_mkM _ _ _ (⟨(rd_T91 y1009 x5_1).f0, (rd_T91 y1009 x5_1).f1, (rd_T91 y1009 x5_1).f2, (rd_T91 y1009 x5_1).f3, (rd_T91 y1009 x5_1).f4, wrap64 ((wrap64 ((wrap64 ((wrap64 ((wrap64 (x1_1 + 1)) + 1)) + 1)) + 1)) + 1), (rd_T91 y1009 x5_1).f6, (rd_T91 y1009 x5_1).f7, (rd_T91 y1009 x5_1).f8⟩ : S91) ) (fun _ hk => hk); have hx27_5 := hcc27 5 _ rfl; (try simp only [show (k91).sz = 9 from rfl, Nat.mul_one, Nat.add_zero] at hx27_5); have hf27_5 := hfr27 5; (try simp only [show (k91).sz = 9 from rfl, Nat.mul_one, Nat.add_zero] at hf27_5); clear hcl27 hcc27 hfr27 hM27) | ((with_reducible refine gate_store (t := 2) (p := 52) rfl ?_); refine store_event (t := 2) (p := 52) (v := ?vo_w28) (w1 := (w26.setCell ⟨go6, (x5_1 : Int).toNat * 9 + 5, none⟩ (.int .i64 (wrap64 ((wrap64 ((wrap64 ((wrap64 ((wrap64 (x1_1 + 1)) + 1)) + 1)) + 1)) + 1))))) ?hg ?ho ?hn ?hr ?_; (case ho => rfl); (case hg => rfl); (case hn => rfl); (case hr => first | (go_simp; done) | (go_simp; rfl)); intro w28 hw; have hg : w26.grownBy w28 (some go6) := (by rw [hw]; exact HP27.2); have hp_ : Kd.R k91 91 w28 w0.heap.size (fun k_ => (P0_ k_ ∨ w.heap.size ≤ k_)) (.slice (some ⟨go6, 0, none⟩) x0_1.length co15) y1010 := (by rw [hw, Ny1010.out]; exact HP27.1); clear HP27; replace HB := am_ (((Zu GB6) : Below w0.heap.size w0 w28)); replace HK := am_ (Kept.of_grown (S := (fun k_ => P0_ k_)) hg Zt (fun k_ e_ => (HO_0.out.1 k_ e_))); replace HO_0 := am_ (hp_); clear hg hw hp_; have p12 : 0 ≤ (x5_1 : Int) := of_decide_eq_true Zn; have q12 : (x5_1 : Int) < ((x0_1.length : Int) : Int) := of_decide_eq_true Zn; obtain ⟨ce12, hcl12, hM12, hcc12, hfr12⟩ := Kd.R_elem HO_0.out z91 (x5_1 : Int) p12 q12; obtain rfl := k91_openM hM12; have hx12_0 : w28.cell? ⟨go6, (x5_1 : Int).toNat * 9, none⟩ = some (.string ((rd_T91 y1010 x5_1).f0)) := hcc12 0 _ rfl; have hx12_1 : w28.cell? ⟨go6, (x5_1 : Int).toNat * 9 + 1, none⟩ = some (.int .i64 ((rd_T91 y1010 x5_1).f1)) := hcc12 1 _ rfl; have hx12_2 : w28.cell? ⟨go6, (x5_1 : Int).toNat * 9 + 2, none⟩ = some (.int .i64 ((rd_T91 y1010 x5_1).f2)) := hcc12 2 _ rfl; have hx12_3 : w28.cell? ⟨go6, (x5_1 : Int).toNat * 9 + 3, none⟩ = some (.int .i64 ((rd_T91 y1010 x5_1).f3)) := hcc12 3 _ rfl; have hx12_4 : w28.cell? ⟨go6, (x5_1 : Int).toNat * 9 + 4, none⟩ = some (.int .i64 ((rd_T91 y1010 x5_1).f4)) := hcc12 4 _ rfl; have hx12_5 : w28.cell? ⟨go6, (x5_1 : Int).toNat * 9 + 5, none⟩ = some (.int .i64 ((rd_T91 y1010 x5_1).f5)) := hcc12 5 _ rfl; have hx12_6 : w28.cell? ⟨go6, (x5_1 : Int).toNat * 9 + 6, none⟩ = some (.int .i64 ((rd_T91 y1010 x5_1).f6)) := hcc12 6 _ rfl; have hx12_7 : w28.cell? ⟨go6, (x5_1 : Int).toNat * 9 + 7, none⟩ = some (.int .i64 ((rd_T91 y1010 x5_1).f7)) := hcc12 7 _ rfl; have hx12_8 : w28.cell? ⟨go6, (x5_1 : Int).toNat * 9 + 8, none⟩ = some (.int .i64 ((rd_T91 y1010 x5_1).f8)) := hcc12 8 _ rfl; have hf12_0 : w28.frozen? ⟨go6, (x5_1 : Int).toNat * 9, none⟩ = false := hfr12 0; have hf12_1 := hfr12 1; have hf12_2 := hfr12 2; have hf12_3 := hfr12 3; have hf12_4 := hfr12 4; have hf12_5 := hfr12 5; have hf12_6 := hfr12 6; have hf12_7 := hfr12 7; have hf12_8 := hfr12 8; clear hcl12 hcc12 hfr12 hM12; replace p12 := eq_true p12; replace q12 := eq_true q12; have HX29 := am_ (show Kd.R k91 91 w28 w0.heap.size (fun k_ => (P0_ k_ ∨ w.heap.size ≤ k_)) (.slice (some ⟨go6, 0, none⟩) x0_1.length co15) y1010 from (Zo HO_0)); obtain ⟨ce29, hcl29, hM29, hcc29, hfr29⟩ := Kd.R_elem HX29.out z91 (x5_1 : Int) (of_decide_eq_true Zn) (by have h_ : (x5_1 : Int) < ((x0_1.length : Int) : Int) := of_decide_eq_true Zn; first | exact h_ | (have e_ := (Kd.R_reads' HO_0.out).1; omega) | simpa using h_); obtain rfl := k91_openM hM29; have HP29 := Kd.R_seg HX29.out (x5_1 : Int) (of_decide_eq_true Zn) (by have h_ : (x5_1 : Int) < ((x0_1.length : Int) : Int) := of_decide_eq_true Zn; first | exact h_ | (have e_ := (Kd.R_reads' HO_0.out).1; omega) | simpa using h_) (seg := [.int .i64 (wrap64 ((wrap64 ((wrap64 ((wrap64 ((wrap64 ((wrap64 (x1_1 + 1)) + 1)) + 1)) + 1)) + 1)) + 1))]) (j := 6) hcl29 hcc29 (show 7 ≤ 9 from (by decide)) (x' := (⟨(rd_T91 y1010 x5_1).f0, (rd_T91 y1010 x5_1).f1, (rd_T91 y1010 x5_1).f2, (rd_T91 y1010 x5_1).f3, (rd_T91 y1010 x5_1).f4, (rd_T91 y1010 x5_1).f5, wrap64 ((wrap64 ((wrap64 ((wrap64 ((wrap64 ((wrap64 (x1_1 + 1)) + 1)) + 1)) + 1)) + 1)) + 1), (rd_T91 y1010 x5_1).f7, (rd_T91 y1010 x5_1).f8⟩ : S91)) (k91_mkM _ _ _ (⟨(rd_T91 y1010 x5_1).f0, (rd_T91 y1010 x5_1).f1, (rd_T91 y1010 x5_1).f2, (rd_T91 y1010 x5_1).f3, (rd_T91 y1010 x5_1).f4, (rd_T91 y1010 x5_1).f5, wrap64 ((wrap64 ((wrap64 ((wrap64 ((wrap64 ((wrap64 (x1_1 + 1)) + 1)) + 1)) + 1)) + 1)) + 1), (rd_T91 y1010 x5_1).f7, (rd_T91 y1010 x5_1).f8⟩ : S91) ) (fun _ hk => hk); have hx29_6 := hcc29 6 _ rfl; (try simp only [show (k91).sz = 9 from rfl, Nat.mul_one, Nat.add_zero] at hx29_6); have hf29_6 := hfr29 6; (try simp only [show (k91).sz = 9 from rfl, Nat.mul_one, Nat.add_zero] at hf29_6); clear hcl29 hcc29 hfr29 hM29) | ((with_reducible refine gate_store (t := 2) (p := 59) rfl ?_); refine store_event (t := 2) (p := 59) (v := ?vo_w30) (w1 := (w28.setCell ⟨go6, (x5_1 : Int).toNat * 9 + 6, none⟩ (.int .i64 (wrap64 ((wrap64 ((wrap64 ((wrap64 ((wrap64 ((wrap64 (x1_1 + 1)) + 1)) + 1)) + 1)) + 1)) + 1))))) ?hg ?ho ?hn ?hr ?_; (case ho => rfl); (case hg => rfl); (case hn => rfl); (case hr => first | (go_simp; done) | (go_simp; rfl)); intro w30 hw; have hg : w28.grownBy w30 (some go6) := (by rw [hw]; exact HP29.2); have hp_ : Kd.R k91 91 w30 w0.heap.size (fun k_ => (P0_ k_ ∨ w.heap.size ≤ k_)) (.slice (some ⟨go6, 0, none⟩) x0_1.length co15) y1011 := (by rw [hw, Ny1011.out]; exact HP29.1); clear HP29; replace HB := am_ (((Zu GB6) : Below w0.heap.size w0 w30)); replace HK := am_ (Kept.of_grown (S := (fun k_ => P0_ k_)) hg Zt (fun k_ e_ => (HO_0.out.1 k_ e_))); replace HO_0 := am_ (hp_); clear hg hw hp_; have p13 : 0 ≤ (x5_1 : Int) := of_decide_eq_true Zn; have q13 : (x5_1 : Int) < ((x0_1.length : Int) : Int) := of_decide_eq_true Zn; obtain ⟨ce13, hcl13, hM13, hcc13, hfr13⟩ := Kd.R_elem HO_0.out z91 (x5_1 : Int) p13 q13; obtain rfl := k91_openM hM13; have hx13_0 : w30.cell? ⟨go6, (x5_1 : Int).toNat * 9, none⟩ = some (.string ((rd_T91 y1011 x5_1).f0)) := hcc13 0 _ rfl; have hx13_1 : w30.cell? ⟨go6, (x5_1 : Int).toNat * 9 + 1, none⟩ = some (.int .i64 ((rd_T91 y1011 x5_1).f1)) := hcc13 1 _ rfl; have hx13_2 : w30.cell? ⟨go6, (x5_1 : Int).toNat * 9 + 2, none⟩ = some (.int .i64 ((rd_T91 y1011 x5_1).f2)) := hcc13 2 _ rfl; have hx13_3 : w30.cell? ⟨go6, (x5_1 : Int).toNat * 9 + 3, none⟩ = some (.int .i64 ((rd_T91 y1011 x5_1).f3)) := hcc13 3 _ rfl; have hx13_4 : w30.cell? ⟨go6, (x5_1 : Int).toNat * 9 + 4, none⟩ = some (.int .i64 ((rd_T91 y1011 x5_1).f4)) := hcc13 4 _ rfl; have hx13_5 : w30.cell? ⟨go6, (x5_1 : Int).toNat * 9 + 5, none⟩ = some (.int .i64 ((rd_T91 y1011 x5_1).f5)) := hcc13 5 _ rfl; have hx13_6 : w30.cell? ⟨go6, (x5_1 : Int).toNat * 9 + 6, none⟩ = some (.int .i64 ((rd_T91 y1011 x5_1).f6)) := hcc13 6 _ rfl; have hx13_7 : w30.cell? ⟨go6, (x5_1 : Int).toNat * 9 + 7, none⟩ = some (.int .i64 ((rd_T91 y1011 x5_1).f7)) := hcc13 7 _ rfl; have hx13_8 : w30.cell? ⟨go6, (x5_1 : Int).toNat * 9 + 8, none⟩ = some (.int .i64 ((rd_T91 y1011 x5_1).f8)) := hcc13 8 _ rfl; have hf13_0 : w30.frozen? ⟨go6, (x5_1 : Int).toNat * 9, none⟩ = false := hfr13 0; have hf13_1 := hfr13 1; have hf13_2 := hfr13 2; have hf13_3 := hfr13 3; have hf13_4 := hfr13 4; have hf13_5 := hfr13 5; have hf13_6 := hfr13 6; have hf13_7 := hfr13 7; have hf13_8 := hfr13 8; clear hcl13 hcc13 hfr13 hM13; replace p13 := eq_true p13; replace q13 := eq_true q13; have HX31 := am_ (show Kd.R k91 91 w30 w0.heap.size (fun k_ => (P0_ k_ ∨ w.heap.size ≤ k_)) (.slice (some ⟨go6, 0, none⟩) x0_1.length co15) y1011 from (Zo HO_0)); obtain ⟨ce31, hcl31, hM31, hcc31, hfr31⟩ := Kd.R_elem HX31.out z91 (x5_1 : Int) (of_decide_eq_true Zn) (by have h_ : (x5_1 : Int) < ((x0_1.length : Int) : Int) := of_decide_eq_true Zn; first | exact h_ | (have e_ := (Kd.R_reads' HO_0.out).1; omega) | simpa using h_); obtain rfl := k91_openM hM31; have HP31 := Kd.R_seg HX31.out (x5_1 : Int) (of_decide_eq_true Zn) (by have h_ : (x5_1 : Int) < ((x0_1.length : Int) : Int) := of_decide_eq_true Zn; first | exact h_ | (have e_ := (Kd.R_reads' HO_0.out).1; omega) | simpa using h_) (seg := [.int .i64 (wrap64 ((wrap64 ((wrap64 ((wrap64 ((wrap64 ((wrap64 ((wrap64 (x1_1 + 1)) + 1)) + 1)) + 1)) + 1)) + 1)) + 1))]) (j := 7) hcl31 hcc31 (show 8 ≤ 9 from (by decide)) (x' := (⟨(rd_T91 y1011 x5_1).f0, (rd_T91 y1011 x5_1).f1, (rd_T91 y1011 x5_1).f2, (rd_T91 y1011 x5_1).f3, (rd_T91 y1011 x5_1).f4, (rd_T91 y1011 x5_1).f5, (rd_T91 y1011 x5_1).f6, wrap64 ((wrap64 ((wrap64 ((wrap64 ((wrap64 ((wrap64 ((wrap64 (x1_1 + 1)) + 1)) + 1)) + 1)) + 1)) + 1)) + 1), (rd_T91 y1011 x5_1).f8⟩ : S91)) (k91_mkM _ _ _ (⟨(rd_T91 y1011 x5_1).f0, (rd_T91 y1011 x5_1).f1, (rd_T91 y1011 x5_1).f2, (rd_T91 y1011 x5_1).f3, (rd_T91 y1011 x5_1).f4, (rd_T91 y1011 x5_1).f5, (rd_T91 y1011 x5_1).f6, wrap64 ((wrap64 ((wrap64 ((wrap64 ((wrap64 ((wrap64 ((wrap64 (x1_1 + 1)) + 1)) + 1)) + 1)) + 1)) + 1)) + 1), (rd_T91 y1011 x5_1).f8⟩ : S91) ) (fun _ hk => hk); have hx31_7 := hcc31 7 _ rfl; (try simp only [show (k91).sz = 9 from rfl, Nat.mul_one, Nat.add_zero] at hx31_7); have hf31_7 := hfr31 7; (try simp only [show (k91).sz = 9 from rfl, Nat.mul_one, Nat.add_zero] at hf31_7); clear hcl31 hcc31 hfr31 hM31) | ((with_reducible refine gate_store (t := 2) (p := 66) rfl ?_); refine store_event (t := 2) (p := 66) (v := ?vo_w32) (w1 := (w30.setCell ⟨go6, (x5_1 : Int).toNat * 9 + 7, none⟩ (.int .i64 (wrap64 ((wrap64 ((wrap64 ((wrap64 ((wrap64 ((wrap64 ((wrap64 (x1_1 + 1)) + 1)) + 1)) + 1)) + 1)) + 1)) + 1))))) ?hg ?ho ?hn ?hr ?_; (case ho => rfl); (case hg => rfl); (case hn => rfl); (case hr => first | (go_simp; done) | (go_simp; rfl)); intro w32 hw; have hg : w30.grownBy w32 (some go6) := (by rw [hw]; exact HP31.2); have hp_ : Kd.R k91 91 w32 w0.heap.size (fun k_ => (P0_ k_ ∨ w.heap.size ≤ k_)) (.slice (some ⟨go6, 0, none⟩) x0_1.length co15) y1012 := (by rw [hw, Ny1012.out]; exact HP31.1); clear HP31; replace HB := am_ (((Zu GB6) : Below w0.heap.size w0 w32)); replace HK := am_ (Kept.of_grown (S := (fun k_ => P0_ k_)) hg Zt (fun k_ e_ => (HO_0.out.1 k_ e_))); replace HO_0 := am_ (hp_); clear hg hw hp_; have p14 : 0 ≤ (x5_1 : Int) := of_decide_eq_true Zn; have q14 : (x5_1 : Int) < ((x0_1.length : Int) : Int) := of_decide_eq_true Zn; obtain ⟨ce14, hcl14, hM14, hcc14, hfr14⟩ := Kd.R_elem HO_0.out z91 (x5_1 : Int) p14 q14; obtain rfl := k91_openM hM14; have hx14_0 : w32.cell? ⟨go6, (x5_1 : Int).toNat * 9, none⟩ = some (.string ((rd_T91 y1012 x5_1).f0)) := hcc14 0 _ rfl; have hx14_1 : w32.cell? ⟨go6, (x5_1 : Int).toNat * 9 + 1, none⟩ = some (.int .i64 ((rd_T91 y1012 x5_1).f1)) := hcc14 1 _ rfl; have hx14_2 : w32.cell? ⟨go6, (x5_1 : Int).toNat * 9 + 2, none⟩ = some (.int .i64 ((rd_T91 y1012 x5_1).f2)) := hcc14 2 _ rfl; have hx14_3 : w32.cell? ⟨go6, (x5_1 : Int).toNat * 9 + 3, none⟩ = some (.int .i64 ((rd_T91 y1012 x5_1).f3)) := hcc14 3 _ rfl; have hx14_4 : w32.cell? ⟨go6, (x5_1 : Int).toNat * 9 + 4, none⟩ = some (.int .i64 ((rd_T91 y1012 x5_1).f4)) := hcc14 4 _ rfl; have hx14_5 : w32.cell? ⟨go6, (x5_1 : Int).toNat * 9 + 5, none⟩ = some (.int .i64 ((rd_T91 y1012 x5_1).f5)) := hcc14 5 _ rfl; have hx14_6 : w32.cell? ⟨go6, (x5_1 : Int).toNat * 9 + 6, none⟩ = some (.int .i64 ((rd_T91 y1012 x5_1).f6)) := hcc14 6 _ rfl; have hx14_7 : w32.cell? ⟨go6, (x5_1 : Int).toNat * 9 + 7, none⟩ = some (.int .i64 ((rd_T91 y1012 x5_1).f7)) := hcc14 7 _ rfl; have hx14_8 : w32.cell? ⟨go6, (x5_1 : Int).toNat * 9 + 8, none⟩ = some (.int .i64 ((rd_T91 y1012 x5_1).f8)) := hcc14 8 _ rfl; have hf14_0 : w32.frozen? ⟨go6, (x5_1 : Int).toNat * 9, none⟩ = false := hfr14 0; have hf14_1 := hfr14 1; have hf14_2 := hfr14 2; have hf14_3 := hfr14 3; have hf14_4 := hfr14 4; have hf14_5 := hfr14 5; have hf14_6 := hfr14 6; have hf14_7 := hfr14 7; have hf14_8 := hfr14 8; clear hcl14 hcc14 hfr14 hM14; replace p14 := eq_true p14; replace q14 := eq_true q14; have HX33 := am_ (show Kd.R k91 91 w32 w0.heap.size (fun k_ => (P0_ k_ ∨ w.heap.size ≤ k_)) (.slice (some ⟨go6, 0, none⟩) x0_1.length co15) y1012 from (Zo HO_0)); obtain ⟨ce33, hcl33, hM33, hcc33, hfr33⟩ := Kd.R_elem HX33.out z91 (x5_1 : Int) (of_decide_eq_true Zn) (by have h_ : (x5_1 : Int) < ((x0_1.length : Int) : Int) := of_decide_eq_true Zn; first | exact h_ | (have e_ := (Kd.R_reads' HO_0.out).1; omega) | simpa using h_); obtain rfl := k91_openM hM33; have HP33 := Kd.R_seg HX33.out (x5_1 : Int) (of_decide_eq_true Zn) (by have h_ : (x5_1 : Int) < ((x0_1.length : Int) : Int) := of_decide_eq_true Zn; first | exact h_ | (have e_ := (Kd.R_reads' HO_0.out).1; omega) | simpa using h_) (seg := [.int .i64 (wrap64 ((wrap64 ((wrap64 ((wrap64 ((wrap64 ((wrap64 ((wrap64 ((wrap64 (x1_1 + 1)) + 1)) + 1)) + 1)) + 1)) + 1)) + 1)) + 1))]) (j := 8) hcl33 hcc33 (show 9 ≤ 9 from (by decide)) (x' := (⟨(rd_T91 y1012 x5_1).f0, (rd_T91 y1012 x5_1).f1, (rd_T91 y1012 x5_1).f2, (rd_T91 y1012 x5_1).f3, (rd_T91 y1012 x5_1).f4, (rd_T91 y1012 x5_1).f5, (rd_T91 y1012 x5_1).f6, (rd_T91 y1012 x5_1).f7, wrap64 ((wrap64 ((wrap64 ((wrap64 ((wrap64 ((wrap64 ((wrap64 ((wrap64 (x1_1 + 1)) + 1)) + 1)) + 1)) + 1)) + 1)) + 1)) + 1)⟩ : S91)) (k91_mkM _ _ _ (⟨(rd_T91 y1012 x5_1).f0, (rd_T91 y1012 x5_1).f1, (rd_T91 y1012 x5_1).f2, (rd_T91 y1012 x5_1).f3, (rd_T91 y1012 x5_1).f4, (rd_T91 y1012 x5_1).f5, (rd_T91 y1012 x5_1).f6, (rd_T91 y1012 x5_1).f7, wrap64 ((wrap64 ((wrap64 ((wrap64 ((wrap64 ((wrap64 ((wrap64 ((wrap64 (x1_1 + 1)) + 1)) + 1)) + 1)) + 1)) + 1)) + 1)) + 1)⟩ : S91) ) (fun _ hk => hk); have hx33_8 := hcc33 8 _ rfl; (try simp only [show (k91).sz = 9 from rfl, Nat.mul_one, Nat.add_zero] at hx33_8); have hf33_8 := hfr33 8; (try simp only [show (k91).sz = 9 from rfl, Nat.mul_one, Nat.add_zero] at hf33_8); clear hcl33 hcc33 hfr33 hM33) | ((with_reducible refine gate_store (t := 2) (p := 73) rfl ?_); refine store_event (t := 2) (p := 73) (v := ?vo_w34) (w1 := (w32.setCell ⟨go6, (x5_1 : Int).toNat * 9 + 8, none⟩ (.int .i64 (wrap64 ((wrap64 ((wrap64 ((wrap64 ((wrap64 ((wrap64 ((wrap64 ((wrap64 (x1_1 + 1)) + 1)) + 1)) + 1)) + 1)) + 1)) + 1)) + 1))))) ?hg ?ho ?hn ?hr ?_; (case ho => rfl); (case hg => rfl); (case hn => rfl); (case hr => first | (go_simp; done) | (go_simp; rfl)); intro w34 hw; have hg : w32.grownBy w34 (some go6) := (by rw [hw]; exact HP33.2); have hp_ : Kd.R k91 91 w34 w0.heap.size (fun k_ => (P0_ k_ ∨ w.heap.size ≤ k_)) (.slice (some ⟨go6, 0, none⟩) x0_1.length co15) y1013 := (by rw [hw, Ny1013.out]; exact HP33.1); clear HP33; replace HB := am_ (((Zu GB6) : Below w0.heap.size w0 w34)); replace HK := am_ (Kept.of_grown (S := (fun k_ => P0_ k_)) hg Zt (fun k_ e_ => (HO_0.out.1 k_ e_))); replace HO_0 := am_ (hp_); clear hg hw hp_))
     go_roundg k1
     case measure => have := HK1.out; omega
     case rel => exact ⟨(y1013), (wrap64 ((wrap64 ((wrap64 ((wrap64 ((wrap64 ((wrap64 ((wrap64 ((wrap64 ((wrap64 (x1_1 + 1)) + 1)) + 1)) + 1)) + 1)) + 1)) + 1)) + 1)) + 1)), (wrap64 (x5_1 + 1)), Za, Za, H', ⟨Zs⟩, ⟨(Zo HO_0)⟩, ⟨Zt⟩, ⟨Zd⟩⟩
    ·rw [if_neg c5] at H
     exact absurd H (by simp)
   ·rw [if_neg c3] at H
    have c3b0 := decide_eq_false c3; clear c3; simp only [Option.some.injEq, Prod.mk.injEq] at H; obtain ⟨rfl, rfl⟩ := H; obtain ⟨Ao35, co35, eo35⟩ := Kd.R_slice HO_0.out; subst eo35
    go_wp2
    go_ret
    exact ⟨Zj, (Zo HO_0), Zd, Zt⟩
end Go.Proofs.Ytnifblnlpepehaa.F
namespace Go.Proofs.Ytnifblnlpepehaa.F
open Go.RowKit Go.Proofs.YtnifblnlpepehaaW.PrintWords Go.Proofs.YtnifblnlpepehaaW.PrintLast Go.Proofs.YtnifblnlpepehaaW.PrintMore
set_option linter.unusedVariables false
set_option linter.unusedSimpArgs false
attribute [local go_sem] max2_int min2_int max_two min_two max_three min_three max_four min_four
 mutual
def full_toArticleS.j0 : Nat → List (S74) → Bool → Option ((List (S91)))
 | 0, _, _ => none
 | k + 1, x0, x13 => if x13 = true then (some ([] : List (S91))) else ((laws_roomBehind.f (x0.length : Int)).bind fun t882 => (if 0 ≤ (wrap64 ((x0.length : Int) + t882)) then (if (wrap64 ((x0.length : Int) + t882) : Int).toNat ≤ 3518437208883 then (full_toArticleS.l0 k x0 (List.replicate (wrap64 ((x0.length : Int) + t882) : Int).toNat z91) 0) else (none)) else (none)))
def full_toArticleS.l0 : Nat → List (S74) → List (S91) → Int → Option ((List (S91)))
 | 0, _, _, _ => none
 | k + 1, x0, x5, x6 => if x6 < (x0.length : Int) then (if 0 ≤ x6 then ((laws_toArticle.f ((rd_T74 x0 x6).f0) ((rd_T74 x0 x6).f1) ((rd_T74 x0 x6).f2) ((rd_T74 x0 x6).f3) ((rd_T74 x0 x6).f4) ((rd_T74 x0 x6).f5) ((rd_T74 x0 x6).f6) ((rd_T74 x0 x6).f7) ((rd_T74 x0 x6).f8)).bind fun bt887 => (if x6 < (x5.length : Int) then (full_toArticleS.l0 k x0 (x5.set (x6 : Int).toNat (⟨bt887.1, bt887.2.1, bt887.2.2.1, bt887.2.2.2.1, bt887.2.2.2.2.1, bt887.2.2.2.2.2.1, bt887.2.2.2.2.2.2.1, bt887.2.2.2.2.2.2.2.1, bt887.2.2.2.2.2.2.2.2⟩ : S91)) (wrap64 (x6 + 1))) else (none))) else (none)) else (full_toArticleS.l1 k x0 x5 (x0.length : Int))
def full_toArticleS.l1 : Nat → List (S74) → List (S91) → Int → Option ((List (S91)))
 | 0, _, _, _ => none
 | k + 1, x0, x5, x7 => if x7 < (x5.length : Int) then ((laws_fillerArticle.f).bind fun bt897 => (if 0 ≤ x7 then (full_toArticleS.l1 k x0 (x5.set (x7 : Int).toNat (⟨bt897.1, bt897.2.1, bt897.2.2.1, bt897.2.2.2.1, bt897.2.2.2.2.1, bt897.2.2.2.2.2.1, bt897.2.2.2.2.2.2.1, bt897.2.2.2.2.2.2.2.1, bt897.2.2.2.2.2.2.2.2⟩ : S91)) (wrap64 (x7 + 1))) else (none))) else (if 0 ≤ (x0.length : Int) then (if (x0.length : Int) ≤ (x5.length : Int) then (some x5) else (none)) else (none))
end
def full_toArticleS.f (k : Nat) (l0 : List (S74)) (a1 : Bool) : Option ((List (S91))) := if a1 = true then (full_toArticleS.j0 k l0 ((l0.length : Int) == 0)) else (full_toArticleS.j0 k l0 false)
set_option maxHeartbeats 8000000 in
set_option maxRecDepth 100000 in
theorem full_toArticleS.calls (k : Nat) (A0 : Option Addr) (c0 : Nat) (l0 : List (S74)) (a1 : Bool) (r : List (S91)) (w : World) (hr0 : Kd.C k74 w A0 l0.length l0) (hc0 : l0.length ≤ c0) (h : full_toArticleS.f k l0 a1 = some r) :
  Calls Try.prog 28 #[.slice A0 l0.length c0, .bool a1] w fun e w' => ∃ v0_ : Value, e = .returned (v0_) ∧ Full k91 91 w' w.heap.size l0.length v0_ r ∧ Below w.heap.size w w' := by
 have hu74 := Try.underlying74; have hu91 := Try.underlying91; have HR0 := am_ hr0; have HC0 := am_ hc0; clear hr0 hc0; have HB := am_ (Below.refl w.heap.size w); have H : (if a1 = true then (full_toArticleS.j0 k l0 ((l0.length : Int) == 0)) else (full_toArticleS.j0 k l0 false)) = some r := h; clear h; have HC3 := am_ H; clear H
 go_enter Try.func28, Try.ntmps28
 go_upto_region 1 with (fail)
 go_cut [13] (fun v13 wc => ∃ (kq : Nat) (x13_2 : Bool), v13 = .bool x13_2 ∧ Aside0 (full_toArticleS.j0 kq l0 x13_2 = some r) ∧ Aside0 (kq ≤ k) ∧ Aside0 (Below w.heap.size w wc))
 case first =>
  have H := HC3.out; clear HC3
  by_cases c4 : a1 = true
  ·subst c4
   rw [if_pos rfl] at H; have H' := am_ H; clear H
   go_wp2
   go_meet
   case rel => exact ⟨_, (((l0.length : Int) == 0)), Za, H', ⟨Zl⟩, ⟨Zd⟩⟩
  ·replace c4 := Bool.eq_false_iff.mpr c4
   subst c4; rw [if_neg (show ¬ (false = true) by decide)] at H; have H' := am_ H; clear H
   go_wp2
   go_meet
   case rel => exact ⟨_, (false), Za, H', ⟨Zl⟩, ⟨Zd⟩⟩
 case rest =>
  clear HC3
  try clear c2
  try clear p2
  try clear c4
  obtain ⟨kq, x13_2, rfl, HA, HJ2, HB⟩ := hcut
  cases kq with
  | zero => exact absurd HA.out (by simp [full_toArticleS.j0])
  | succ kj2 =>
   have H := HA.out; clear HA; simp only [full_toArticleS.j0] at H
   by_cases c5 : x13_2 = true
   ·subst c5
    rw [if_pos rfl] at H; obtain rfl := Option.some.inj H
    go_wp2
    go_ret
    exact ⟨_, Zj, fun h_ => absurd rfl h_, Zd⟩
   ·replace c5 := Bool.eq_false_iff.mpr c5
    subst c5; rw [if_neg (show ¬ (false = true) by decide)] at H; replace H := Option.bind_eq_some_iff.mp H; obtain ⟨t882, A60, H⟩ := H; have A6 := am_ A60; clear A60; obtain ⟨ji7, hji7⟩ : ∃ j_ : Int, (wrap64 ((l0.length : Int) + t882)) = j_ := ⟨_, rfl⟩
    replace H : (if 0 ≤ (ji7) then (if (ji7 : Int).toNat ≤ 3518437208883 then (full_toArticleS.l0 kj2 l0 (List.replicate (ji7 : Int).toNat z91) 0) else (none)) else (none)) = some r := by first | (rw [hji7] at H; exact H) | (simp only [hji7] at H ⊢; exact H)
    (try rw [hji7] at A6)
    have hji7w : (IntKind.i64.wrap ((l0.length : Int) + t882)) = ji7 := (i64_w _).trans hji7
    by_cases c8 : 0 ≤ (ji7)
    ·rw [if_pos c8] at H
     have c8b0 := eq_true c8; have c8b1 := decide_eq_true c8; clear c8
     by_cases c9 : (ji7 : Int).toNat ≤ 3518437208883
     ·rw [if_pos c9] at H
      have c9b0 := eq_true c9; have c9b1 := decide_eq_true c9; clear c9; obtain ⟨y883, hy883⟩ : ∃ y_ : List (S91), y_ = (List.replicate (ji7 : Int).toNat z91) := ⟨_, rfl⟩
      (first | (rw [← hy883] at H; with_reducible replace H := bindZ H) | rw [← hy883] at H | skip)
      have Ny883 := am_ hy883; clear hy883; have H' := am_ H; clear H
      go_wp2_with (first | ((with_reducible refine gate_callee (f := 55) rfl ?_); refine gZ 18 Try.func55 #[.int .i64 (l0.length : Int)] ?_; (with_reducible refine (laws_roomBehind.calls (l0.length : Int) t882 _ A6.out).mono ?_); rintro e w' ⟨rfl, ⟨nd, rfl⟩⟩; refine ⟨_, rfl, ?_⟩) | ((with_reducible refine gate_dst (N := 20) rfl ?_); (try (refine gate_guard (by rfl) ?_; dsimp only)); refine Kd.R_make k91 _ 91 rfl (N := 20) rfl 32 _ _ rfl ji7 rfl rfl Try.underlying32 (.agg #[(.string ⟨#[]⟩), (.int .i64 0), (.int .i64 0), (.int .i64 0), (.int .i64 0), (.int .i64 0), (.int .i64 0), (.int .i64 0), (.int .i64 0)]) 80 info91 rfl (by decide) (by omega) z91 (ok := fun _ => True) (okp := fun _ => True) (k91_mkM _ _ _ z91 ) (fun _ hk => hk) trivial (of_decide_eq_true Zn) (Nat.le_trans (Nat.mul_le_mul_right _ (of_decide_eq_true Zn : ji7.toNat ≤ 3518437208883)) (by omega)) (Below.refl _ _) (Nat.le_refl _) ?_; intro v884 w10 ho11 hb hg_ hnew_; clear hg_ hnew_; (first | rw [← Ny883.out] at ho11 | (simp only [Int.reduceToNat] at ho11; rw [← Ny883.out] at ho11)); replace HO885 := am_ (Kd.R_lower ho11 (below_size Zd)); replace HB := (bsZ Zd hb); clear hb ho11))
      go_loopg [6] kj2 (fun kq v6 w' => ∃ (x5_2 : List (S91)) (x6_2 : Int), v6 = .int .i64 x6_2 ∧ Aside0 (full_toArticleS.l0 kq l0 x5_2 x6_2 = some r) ∧ Aside0 (kq ≤ kj2) ∧ Aside0 (Kd.R k91 91 w' w.heap.size (fun _ => True) v884 x5_2) ∧ Aside0 (Below w.heap.size w w'))
      case atStart => exact ⟨(y883), (0), Za, H', ⟨Nat.le_refl _⟩, ⟨(Zo HO885)⟩, ⟨Zd⟩⟩
      case round =>
       clear H'
       try clear c2
       try clear p2
       try clear c4
       try clear c5
       try clear p6
       try clear c8
       try clear c8b0
       try clear c8b1
       try clear c9
       try clear c9b0
       try clear c9b1
       try clear p2
       obtain ⟨x5_2, x6_2, rfl, HA, HK2, HO_5, HB⟩ := hrel
       cases gk with
       | zero => exact absurd HA.out (by simp [full_toArticleS.l0])
       | succ k2 =>
        have H := HA.out; clear HA; simp only [full_toArticleS.l0] at H
        by_cases c12 : x6_2 < (l0.length : Int)
        ·rw [if_pos c12] at H
         have c12b0 := decide_eq_true c12; clear c12
         by_cases c13 : 0 ≤ x6_2
         ·rw [if_pos c13] at H
          have c13b0 := decide_eq_true c13; clear c13; replace H := Option.bind_eq_some_iff.mp H; obtain ⟨⟨t887, t888, t889, t890, t891, t892, t893, t894, t895⟩, A140, H⟩ := H
          dsimp only at H
          have A14 := am_ A140; clear A140
          by_cases c15 : x6_2 < (x5_2.length : Int)
          ·rw [if_pos c15] at H
           have c15b0 := decide_eq_true c15; clear c15; obtain ⟨y896, hy896⟩ : ∃ y_ : List (S91), y_ = (x5_2.set (x6_2 : Int).toNat (⟨t887, t888, t889, t890, t891, t892, t893, t894, t895⟩ : S91)) := ⟨_, rfl⟩
           (first | (rw [← hy896] at H; with_reducible replace H := bindZ H) | rw [← hy896] at H | skip)
           have Ny896 := am_ hy896; clear hy896; have H' := am_ H; clear H; have p886 : 0 ≤ (x6_2 : Int) := of_decide_eq_true Zn; have q886 : x6_2 < (l0.length : Int) := of_decide_eq_true Zn; obtain ⟨ad886, e886, hx886_0, hx886_1, hx886_2, hx886_3, hx886_4, hx886_5, hx886_6, hx886_7, hx886_8⟩ := at_T74 HR0.out x6_2 p886 q886
           cases e886
           replace hx886_0 := cbH HB hx886_0; replace hx886_1 := cbH HB hx886_1; replace hx886_2 := cbH HB hx886_2; replace hx886_3 := cbH HB hx886_3; replace hx886_4 := cbH HB hx886_4; replace hx886_5 := cbH HB hx886_5; replace hx886_6 := cbH HB hx886_6; replace hx886_7 := cbH HB hx886_7; replace hx886_8 := cbH HB hx886_8; replace p886 := eq_true p886; replace q886 := eq_true q886
           go_wp2_with (first | ((with_reducible refine gate_callee (f := 58) rfl ?_); refine gZ 33 Try.func58 #[.agg #[.string ((rd_T74 l0 x6_2).f0), .int .i64 ((rd_T74 l0 x6_2).f1), .int .i64 ((rd_T74 l0 x6_2).f2), .int .i64 ((rd_T74 l0 x6_2).f3), .int .i64 ((rd_T74 l0 x6_2).f4), .int .i64 ((rd_T74 l0 x6_2).f5), .int .i64 ((rd_T74 l0 x6_2).f6), .int .i64 ((rd_T74 l0 x6_2).f7), .int .i64 ((rd_T74 l0 x6_2).f8)]] ?_; (with_reducible refine (laws_toArticle.calls ((rd_T74 l0 x6_2).f0) ((rd_T74 l0 x6_2).f1) ((rd_T74 l0 x6_2).f2) ((rd_T74 l0 x6_2).f3) ((rd_T74 l0 x6_2).f4) ((rd_T74 l0 x6_2).f5) ((rd_T74 l0 x6_2).f6) ((rd_T74 l0 x6_2).f7) ((rd_T74 l0 x6_2).f8) t887 t888 t889 t890 t891 t892 t893 t894 t895 _ A14.out).mono ?_); rintro e w17 ⟨rfl, hb⟩; refine ⟨_, rfl, ?_⟩; replace HO_5 := (hbZ HO_5 hb); replace HB := (bsZ Zd hb); clear hb; have p16 : 0 ≤ (x6_2 : Int) := of_decide_eq_true Zn; have q16 : (x6_2 : Int) < ((x5_2.length : Int) : Int) := of_decide_eq_true Zn; obtain ⟨go16, co16, eo16, gb16, gl16, cl16, HG16⟩ := Kd.R_form HO_5.out (by omega); (first | cases eo16 | (injection eo16 with ea_ en_ ec_; (first | subst ea_ | (injection ea_ with ea_; subst ea_)); subst ec_; clear en_)); have GB16 := am_ gb16; have GG16 := am_ HG16; clear gb16 gl16 HG16; obtain ⟨ce16, hcl16, hM16, hcc16, hfr16⟩ := Kd.R_elem HO_5.out z91 (x6_2 : Int) p16 q16; obtain rfl := k91_openM hM16; have hx16_0 : w17.cell? ⟨go16, (x6_2 : Int).toNat * 9, none⟩ = some (.string ((rd_T91 x5_2 x6_2).f0)) := hcc16 0 _ rfl; have hx16_1 : w17.cell? ⟨go16, (x6_2 : Int).toNat * 9 + 1, none⟩ = some (.int .i64 ((rd_T91 x5_2 x6_2).f1)) := hcc16 1 _ rfl; have hx16_2 : w17.cell? ⟨go16, (x6_2 : Int).toNat * 9 + 2, none⟩ = some (.int .i64 ((rd_T91 x5_2 x6_2).f2)) := hcc16 2 _ rfl; have hx16_3 : w17.cell? ⟨go16, (x6_2 : Int).toNat * 9 + 3, none⟩ = some (.int .i64 ((rd_T91 x5_2 x6_2).f3)) := hcc16 3 _ rfl; have hx16_4 : w17.cell? ⟨go16, (x6_2 : Int).toNat * 9 + 4, none⟩ = some (.int .i64 ((rd_T91 x5_2 x6_2).f4)) := hcc16 4 _ rfl; have hx16_5 : w17.cell? ⟨go16, (x6_2 : Int).toNat * 9 + 5, none⟩ = some (.int .i64 ((rd_T91 x5_2 x6_2).f5)) := hcc16 5 _ rfl; have hx16_6 : w17.cell? ⟨go16, (x6_2 : Int).toNat * 9 + 6, none⟩ = some (.int .i64 ((rd_T91 x5_2 x6_2).f6)) := hcc16 6 _ rfl; have hx16_7 : w17.cell? ⟨go16, (x6_2 : Int).toNat * 9 + 7, none⟩ = some (.int .i64 ((rd_T91 x5_2 x6_2).f7)) := hcc16 7 _ rfl; have hx16_8 : w17.cell? ⟨go16, (x6_2 : Int).toNat * 9 + 8, none⟩ = some (.int .i64 ((rd_T91 x5_2 x6_2).f8)) := hcc16 8 _ rfl; have hf16_0 : w17.frozen? ⟨go16, (x6_2 : Int).toNat * 9, none⟩ = false := hfr16 0; have hf16_1 := hfr16 1; have hf16_2 := hfr16 2; have hf16_3 := hfr16 3; have hf16_4 := hfr16 4; have hf16_5 := hfr16 5; have hf16_6 := hfr16 6; have hf16_7 := hfr16 7; have hf16_8 := hfr16 8; clear hcl16 hcc16 hfr16 hM16; replace p16 := eq_true p16; replace q16 := eq_true q16; have HX18 := am_ (show Kd.R k91 91 w17 w.heap.size (fun _ => True) (.slice (some ⟨go16, 0, none⟩) x5_2.length co16) x5_2 from (Zo HO_5)); obtain ⟨ce18, hcl18, hM18, hcc18, hfr18⟩ := Kd.R_elem HX18.out z91 (x6_2 : Int) (of_decide_eq_true Zn) (by have h_ : (x6_2 : Int) < ((x5_2.length : Int) : Int) := of_decide_eq_true Zn; first | exact h_ | (have e_ := (Kd.R_reads' HO_5.out).1; omega) | simpa using h_); obtain rfl := k91_openM hM18; have HP18 := Kd.R_seg HX18.out (x6_2 : Int) (of_decide_eq_true Zn) (by have h_ : (x6_2 : Int) < ((x5_2.length : Int) : Int) := of_decide_eq_true Zn; first | exact h_ | (have e_ := (Kd.R_reads' HO_5.out).1; omega) | simpa using h_) (seg := [.string t887, .int .i64 t888, .int .i64 t889, .int .i64 t890, .int .i64 t891, .int .i64 t892, .int .i64 t893, .int .i64 t894, .int .i64 t895]) (j := 0) hcl18 hcc18 (show 9 ≤ 9 from (by decide)) (x' := (⟨t887, t888, t889, t890, t891, t892, t893, t894, t895⟩ : S91)) (k91_mkM _ _ _ (⟨t887, t888, t889, t890, t891, t892, t893, t894, t895⟩ : S91) ) (fun _ hk => hk); have hx18_0 := hcc18 0 _ rfl; (try simp only [show (k91).sz = 9 from rfl, Nat.mul_one, Nat.add_zero] at hx18_0); have hf18_0 := hfr18 0; (try simp only [show (k91).sz = 9 from rfl, Nat.mul_one, Nat.add_zero] at hf18_0); have hx18_1 := hcc18 1 _ rfl; (try simp only [show (k91).sz = 9 from rfl, Nat.mul_one, Nat.add_zero] at hx18_1); have hf18_1 := hfr18 1; (try simp only [show (k91).sz = 9 from rfl, Nat.mul_one, Nat.add_zero] at hf18_1); have hx18_2 := hcc18 2 _ rfl; (try simp only [show (k91).sz = 9 from rfl, Nat.mul_one, Nat.add_zero] at hx18_2); have hf18_2 := hfr18 2; (try simp only [show (k91).sz = 9 from rfl, Nat.mul_one, Nat.add_zero] at hf18_2); have hx18_3 := hcc18 3 _ rfl; (try simp only [show (k91).sz = 9 from rfl, Nat.mul_one, Nat.add_zero] at hx18_3); have hf18_3 := hfr18 3; (try simp only [show (k91).sz = 9 from rfl, Nat.mul_one, Nat.add_zero] at hf18_3); have hx18_4 := hcc18 4 _ rfl; (try simp only [show (k91).sz = 9 from rfl, Nat.mul_one, Nat.add_zero] at hx18_4); have hf18_4 := hfr18 4; (try simp only [show (k91).sz = 9 from rfl, Nat.mul_one, Nat.add_zero] at hf18_4); have hx18_5 := hcc18 5 _ rfl; (try simp only [show (k91).sz = 9 from rfl, Nat.mul_one, Nat.add_zero] at hx18_5); have hf18_5 := hfr18 5; (try simp only [show (k91).sz = 9 from rfl, Nat.mul_one, Nat.add_zero] at hf18_5); have hx18_6 := hcc18 6 _ rfl; (try simp only [show (k91).sz = 9 from rfl, Nat.mul_one, Nat.add_zero] at hx18_6); have hf18_6 := hfr18 6; (try simp only [show (k91).sz = 9 from rfl, Nat.mul_one, Nat.add_zero] at hf18_6); have hx18_7 := hcc18 7 _ rfl; (try simp only [show (k91).sz = 9 from rfl, Nat.mul_one, Nat.add_zero] at hx18_7); have hf18_7 := hfr18 7; (try simp only [show (k91).sz = 9 from rfl, Nat.mul_one, Nat.add_zero] at hf18_7); have hx18_8 := hcc18 8 _ rfl; (try simp only [show (k91).sz = 9 from rfl, Nat.mul_one, Nat.add_zero] at hx18_8); have hf18_8 := hfr18 8; (try simp only [show (k91).sz = 9 from rfl, Nat.mul_one, Nat.add_zero] at hf18_8); clear hcl18 hcc18 hfr18 hM18) | ((with_reducible refine gate_store (t := 91) (p := 34) rfl ?_); refine store_event (t := 91) (p := 34) (v := ?vo_w19) (w1 := (((((((((w17.setCell ⟨go16, (x6_2 : Int).toNat * 9, none⟩ (.string t887)).setCell ⟨go16, (x6_2 : Int).toNat * 9 + 1, none⟩ (.int .i64 t888)).setCell ⟨go16, (x6_2 : Int).toNat * 9 + 2, none⟩ (.int .i64 t889)).setCell ⟨go16, (x6_2 : Int).toNat * 9 + 3, none⟩ (.int .i64 t890)).setCell ⟨go16, (x6_2 : Int).toNat * 9 + 4, none⟩ (.int .i64 t891)).setCell ⟨go16, (x6_2 : Int).toNat * 9 + 5, none⟩ (.int .i64 t892)).setCell ⟨go16, (x6_2 : Int).toNat * 9 + 6, none⟩ (.int .i64 t893)).setCell ⟨go16, (x6_2 : Int).toNat * 9 + 7, none⟩ (.int .i64 t894)).setCell ⟨go16, (x6_2 : Int).toNat * 9 + 8, none⟩ (.int .i64 t895))) ?hg ?ho ?hn ?hr ?_; (case ho => rfl); (case hg => rfl); (case hn => rfl); (case hr => first | (go_simp; done) | (go_simp; rfl)); intro w19 hw; have hg : w17.grownBy w19 (some go16) := (by rw [hw]; exact HP18.2); have hp_ : Kd.R k91 91 w19 w.heap.size (fun _ => True) (.slice (some ⟨go16, 0, none⟩) x5_2.length co16) y896 := (by rw [hw, Ny896.out]; exact HP18.1); clear HP18; replace HO_5 := am_ (hp_); replace HB := am_ (((Zx GB16) : Below w.heap.size w w19)); clear hg hw hp_))
           go_roundg k2
           case measure => have := HJ2.out; have := HK2.out; omega
           case rel => exact ⟨(y896), (wrap64 (x6_2 + 1)), Za, H', ⟨by have := HJ2.out; have := HK2.out; omega⟩, ⟨(Zo HO_5)⟩, ⟨Zd⟩⟩
          ·rw [if_neg c15] at H
           exact absurd H (by simp)
         ·rw [if_neg c13] at H
          exact absurd H (by simp)
        ·rw [if_neg c12] at H
         have c12b0 := decide_eq_false c12; clear c12; have H' := am_ H; clear H
         go_wp2
         go_loopg [7] k2 (fun kq v7 w' => ∃ (x5_3 : List (S91)) (x7_3 : Int), v7 = .int .i64 x7_3 ∧ Aside0 (full_toArticleS.l1 kq l0 x5_3 x7_3 = some r) ∧ Aside0 (kq ≤ k2) ∧ Aside0 (Kd.R k91 91 w' w.heap.size (fun _ => True) v884 x5_3) ∧ Aside0 (Below w.heap.size w w'))
         case atStart => exact ⟨(x5_2), ((l0.length : Int)), Za, H', ⟨Nat.le_refl _⟩, ⟨(Zo HO_5)⟩, ⟨Zd⟩⟩
         case round =>
          clear H'
          try clear c1
          try clear p1
          try clear q1
          try clear hx1
          try clear c2
          try clear p2
          try clear c4
          try clear c5
          try clear p6
          try clear c8
          try clear c8b0
          try clear c8b1
          try clear p8
          try clear q8
          try clear hx8
          try clear c9
          try clear c9b0
          try clear c9b1
          try clear c12
          try clear c12b0
          try clear c13
          try clear c13b0
          try clear c15
          try clear c15b0
          try clear c16
          try clear p16
          try clear q16
          try clear hx16
          try clear hf16
          try clear c18
          try clear hx18
          try clear hf18
          try clear hx16_0
          try clear hx16_1
          try clear hx16_2
          try clear hx16_3
          try clear hx16_4
          try clear hx16_5
          try clear hx16_6
          try clear hx16_7
          try clear hx16_8
          try clear hx18_0
          try clear hx18_1
          try clear hx18_2
          try clear hx18_3
          try clear hx18_4
          try clear hx18_5
          try clear hx18_6
          try clear hx18_7
          try clear hx18_8
          try clear hx886_0
          try clear hx886_1
          try clear hx886_2
          try clear hx886_3
          try clear hx886_4
          try clear hx886_5
          try clear hx886_6
          try clear hx886_7
          try clear hx886_8
          try clear p16
          try clear p2
          try clear p6
          try clear p886
          try clear q16
          try clear q886
          obtain ⟨x5_3, x7_3, rfl, HA, HK3, HO_5, HB⟩ := hrel
          cases gk with
          | zero => exact absurd HA.out (by simp [full_toArticleS.l1])
          | succ k3 =>
           have H := HA.out; clear HA; simp only [full_toArticleS.l1] at H
           by_cases c20 : x7_3 < (x5_3.length : Int)
           ·rw [if_pos c20] at H
            have c20b0 := decide_eq_true c20; clear c20; replace H := Option.bind_eq_some_iff.mp H; obtain ⟨⟨t897, t898, t899, t900, t901, t902, t903, t904, t905⟩, A210, H⟩ := H
            dsimp only at H
            have A21 := am_ A210; clear A210
            by_cases c22 : 0 ≤ x7_3
            ·rw [if_pos c22] at H
             have c22b0 := decide_eq_true c22; clear c22; obtain ⟨y906, hy906⟩ : ∃ y_ : List (S91), y_ = (x5_3.set (x7_3 : Int).toNat (⟨t897, t898, t899, t900, t901, t902, t903, t904, t905⟩ : S91)) := ⟨_, rfl⟩
             (first | (rw [← hy906] at H; with_reducible replace H := bindZ H) | rw [← hy906] at H | skip)
             have Ny906 := am_ hy906; clear hy906; have H' := am_ H; clear H; obtain ⟨Ao24, co24, eo24⟩ := Kd.R_slice HO_5.out; subst eo24
             go_wp2_with (first | ((with_reducible refine gate_callee (f := 59) rfl ?_); refine gZ 45 Try.func59 #[] ?_; (with_reducible refine (laws_fillerArticle.calls  t897 t898 t899 t900 t901 t902 t903 t904 t905 _ A21.out).mono ?_); rintro e w25 ⟨rfl, hb⟩; refine ⟨_, rfl, ?_⟩; replace HO_5 := (hbZ HO_5 hb); replace HB := (bsZ Zd hb); clear hb; have p23 : 0 ≤ (x7_3 : Int) := of_decide_eq_true Zn; have q23 : (x7_3 : Int) < ((x5_3.length : Int) : Int) := of_decide_eq_true Zn; obtain ⟨go23, co23, eo23, gb23, gl23, cl23, HG23⟩ := Kd.R_form HO_5.out (by omega); (first | cases eo23 | (injection eo23 with ea_ en_ ec_; (first | subst ea_ | (injection ea_ with ea_; subst ea_)); subst ec_; clear en_)); have GB23 := am_ gb23; have GG23 := am_ HG23; clear gb23 gl23 HG23; obtain ⟨ce23, hcl23, hM23, hcc23, hfr23⟩ := Kd.R_elem HO_5.out z91 (x7_3 : Int) p23 q23; obtain rfl := k91_openM hM23; have hx23_0 : w25.cell? ⟨go23, (x7_3 : Int).toNat * 9, none⟩ = some (.string ((rd_T91 x5_3 x7_3).f0)) := hcc23 0 _ rfl; have hx23_1 : w25.cell? ⟨go23, (x7_3 : Int).toNat * 9 + 1, none⟩ = some (.int .i64 ((rd_T91 x5_3 x7_3).f1)) := hcc23 1 _ rfl; have hx23_2 : w25.cell? ⟨go23, (x7_3 : Int).toNat * 9 + 2, none⟩ = some (.int .i64 ((rd_T91 x5_3 x7_3).f2)) := hcc23 2 _ rfl; have hx23_3 : w25.cell? ⟨go23, (x7_3 : Int).toNat * 9 + 3, none⟩ = some (.int .i64 ((rd_T91 x5_3 x7_3).f3)) := hcc23 3 _ rfl; have hx23_4 : w25.cell? ⟨go23, (x7_3 : Int).toNat * 9 + 4, none⟩ = some (.int .i64 ((rd_T91 x5_3 x7_3).f4)) := hcc23 4 _ rfl; have hx23_5 : w25.cell? ⟨go23, (x7_3 : Int).toNat * 9 + 5, none⟩ = some (.int .i64 ((rd_T91 x5_3 x7_3).f5)) := hcc23 5 _ rfl; have hx23_6 : w25.cell? ⟨go23, (x7_3 : Int).toNat * 9 + 6, none⟩ = some (.int .i64 ((rd_T91 x5_3 x7_3).f6)) := hcc23 6 _ rfl; have hx23_7 : w25.cell? ⟨go23, (x7_3 : Int).toNat * 9 + 7, none⟩ = some (.int .i64 ((rd_T91 x5_3 x7_3).f7)) := hcc23 7 _ rfl; have hx23_8 : w25.cell? ⟨go23, (x7_3 : Int).toNat * 9 + 8, none⟩ = some (.int .i64 ((rd_T91 x5_3 x7_3).f8)) := hcc23 8 _ rfl; have hf23_0 : w25.frozen? ⟨go23, (x7_3 : Int).toNat * 9, none⟩ = false := hfr23 0; have hf23_1 := hfr23 1; have hf23_2 := hfr23 2; have hf23_3 := hfr23 3; have hf23_4 := hfr23 4; have hf23_5 := hfr23 5; have hf23_6 := hfr23 6; have hf23_7 := hfr23 7; have hf23_8 := hfr23 8; clear hcl23 hcc23 hfr23 hM23; replace p23 := eq_true p23; replace q23 := eq_true q23; have HX26 := am_ (show Kd.R k91 91 w25 w.heap.size (fun _ => True) (.slice (some ⟨go23, 0, none⟩) x5_3.length co24) x5_3 from (Zo HO_5)); obtain ⟨ce26, hcl26, hM26, hcc26, hfr26⟩ := Kd.R_elem HX26.out z91 (x7_3 : Int) (of_decide_eq_true Zn) (by have h_ : (x7_3 : Int) < ((x5_3.length : Int) : Int) := of_decide_eq_true Zn; first | exact h_ | (have e_ := (Kd.R_reads' HO_5.out).1; omega) | simpa using h_); obtain rfl := k91_openM hM26; have HP26 := Kd.R_seg HX26.out (x7_3 : Int) (of_decide_eq_true Zn) (by have h_ : (x7_3 : Int) < ((x5_3.length : Int) : Int) := of_decide_eq_true Zn; first | exact h_ | (have e_ := (Kd.R_reads' HO_5.out).1; omega) | simpa using h_) (seg := [.string t897, .int .i64 t898, .int .i64 t899, .int .i64 t900, .int .i64 t901, .int .i64 t902, .int .i64 t903, .int .i64 t904, .int .i64 t905]) (j := 0) hcl26 hcc26 (show 9 ≤ 9 from (by decide)) (x' := (⟨t897, t898, t899, t900, t901, t902, t903, t904, t905⟩ : S91)) (k91_mkM _ _ _ (⟨t897, t898, t899, t900, t901, t902, t903, t904, t905⟩ : S91) ) (fun _ hk => hk); have hx26_0 := hcc26 0 _ rfl; (try simp only [show (k91).sz = 9 from rfl, Nat.mul_one, Nat.add_zero] at hx26_0); have hf26_0 := hfr26 0; (try simp only [show (k91).sz = 9 from rfl, Nat.mul_one, Nat.add_zero] at hf26_0); have hx26_1 := hcc26 1 _ rfl; (try simp only [show (k91).sz = 9 from rfl, Nat.mul_one, Nat.add_zero] at hx26_1); have hf26_1 := hfr26 1; (try simp only [show (k91).sz = 9 from rfl, Nat.mul_one, Nat.add_zero] at hf26_1); have hx26_2 := hcc26 2 _ rfl; (try simp only [show (k91).sz = 9 from rfl, Nat.mul_one, Nat.add_zero] at hx26_2); have hf26_2 := hfr26 2; (try simp only [show (k91).sz = 9 from rfl, Nat.mul_one, Nat.add_zero] at hf26_2); have hx26_3 := hcc26 3 _ rfl; (try simp only [show (k91).sz = 9 from rfl, Nat.mul_one, Nat.add_zero] at hx26_3); have hf26_3 := hfr26 3; (try simp only [show (k91).sz = 9 from rfl, Nat.mul_one, Nat.add_zero] at hf26_3); have hx26_4 := hcc26 4 _ rfl; (try simp only [show (k91).sz = 9 from rfl, Nat.mul_one, Nat.add_zero] at hx26_4); have hf26_4 := hfr26 4; (try simp only [show (k91).sz = 9 from rfl, Nat.mul_one, Nat.add_zero] at hf26_4); have hx26_5 := hcc26 5 _ rfl; (try simp only [show (k91).sz = 9 from rfl, Nat.mul_one, Nat.add_zero] at hx26_5); have hf26_5 := hfr26 5; (try simp only [show (k91).sz = 9 from rfl, Nat.mul_one, Nat.add_zero] at hf26_5); have hx26_6 := hcc26 6 _ rfl; (try simp only [show (k91).sz = 9 from rfl, Nat.mul_one, Nat.add_zero] at hx26_6); have hf26_6 := hfr26 6; (try simp only [show (k91).sz = 9 from rfl, Nat.mul_one, Nat.add_zero] at hf26_6); have hx26_7 := hcc26 7 _ rfl; (try simp only [show (k91).sz = 9 from rfl, Nat.mul_one, Nat.add_zero] at hx26_7); have hf26_7 := hfr26 7; (try simp only [show (k91).sz = 9 from rfl, Nat.mul_one, Nat.add_zero] at hf26_7); have hx26_8 := hcc26 8 _ rfl; (try simp only [show (k91).sz = 9 from rfl, Nat.mul_one, Nat.add_zero] at hx26_8); have hf26_8 := hfr26 8; (try simp only [show (k91).sz = 9 from rfl, Nat.mul_one, Nat.add_zero] at hf26_8); clear hcl26 hcc26 hfr26 hM26) | ((with_reducible refine gate_store (t := 91) (p := 46) rfl ?_); refine store_event (t := 91) (p := 46) (v := ?vo_w27) (w1 := (((((((((w25.setCell ⟨go23, (x7_3 : Int).toNat * 9, none⟩ (.string t897)).setCell ⟨go23, (x7_3 : Int).toNat * 9 + 1, none⟩ (.int .i64 t898)).setCell ⟨go23, (x7_3 : Int).toNat * 9 + 2, none⟩ (.int .i64 t899)).setCell ⟨go23, (x7_3 : Int).toNat * 9 + 3, none⟩ (.int .i64 t900)).setCell ⟨go23, (x7_3 : Int).toNat * 9 + 4, none⟩ (.int .i64 t901)).setCell ⟨go23, (x7_3 : Int).toNat * 9 + 5, none⟩ (.int .i64 t902)).setCell ⟨go23, (x7_3 : Int).toNat * 9 + 6, none⟩ (.int .i64 t903)).setCell ⟨go23, (x7_3 : Int).toNat * 9 + 7, none⟩ (.int .i64 t904)).setCell ⟨go23, (x7_3 : Int).toNat * 9 + 8, none⟩ (.int .i64 t905))) ?hg ?ho ?hn ?hr ?_; (case ho => rfl); (case hg => rfl); (case hn => rfl); (case hr => first | (go_simp; done) | (go_simp; rfl)); intro w27 hw; have hg : w25.grownBy w27 (some go23) := (by rw [hw]; exact HP26.2); have hp_ : Kd.R k91 91 w27 w.heap.size (fun _ => True) (.slice (some ⟨go23, 0, none⟩) x5_3.length co24) y906 := (by rw [hw, Ny906.out]; exact HP26.1); clear HP26; replace HO_5 := am_ (hp_); replace HB := am_ (((Zx GB23) : Below w.heap.size w w27)); clear hg hw hp_))
             go_roundg k3
             case measure => have := HJ2.out; have := HK2.out; have := HK3.out; omega
             case rel => exact ⟨(y906), (wrap64 (x7_3 + 1)), Za, H', ⟨Zp⟩, ⟨(Zo HO_5)⟩, ⟨Zd⟩⟩
            ·rw [if_neg c22] at H
             exact absurd H (by simp)
           ·rw [if_neg c20] at H
            have c20b0 := decide_eq_false c20; clear c20
            by_cases c28 : 0 ≤ (l0.length : Int)
            ·rw [if_pos c28] at H
             have c28b0 := eq_true c28; have c28b1 := decide_eq_true c28; clear c28
             by_cases c29 : (l0.length : Int) ≤ (x5_3.length : Int)
             ·rw [if_pos c29] at H
              have c29b0 := eq_true c29; have c29b1 := decide_eq_true c29; clear c29; have HE_ := am_ (Option.some.inj H); clear H; obtain ⟨Ao30, co30, eo30⟩ := Kd.R_slice HO_5.out; subst eo30; have q31 : ((l0.length : Int) : Int) ≤ ((x5_3.length : Int) : Int) := of_decide_eq_true Zn; obtain ⟨i031, hi031, _, hsz31, _⟩ := info_parts info91; have hcut31 := cut_to (P := Try.prog) 32 91 .i64 Try.underlying32 hi031 Ao30 x5_3.length co30 (l0.length : Int) (of_decide_eq_true Zn) q31 (Kd.R_reads' HO_5.out).2.1; have hz_ : ((l0.length : Int) : Int).toNat = l0.length := Int.toNat_natCast _; rw [hz_] at hcut31; clear hi031 hsz31 hz_; have HL_ := am_ (show l0.length ≤ x5_3.length by omega); replace q31 := eq_true q31
              go_wp2
              go_ret
              exact ⟨_, rfl, (fun _ => ⟨_, _, rfl, (by rw [← HE_.out]; exact HL_.out), (Zv HO_5)⟩), Zd⟩
             ·rw [if_neg c29] at H
              exact absurd H (by simp)
            ·rw [if_neg c28] at H
             exact absurd H (by simp)
     ·rw [if_neg c9] at H
      exact absurd H (by simp)
    ·rw [if_neg c8] at H
     exact absurd H (by simp)
 
def T_intactArticleS : Bool × List (List Nat × List Nat) := (true, [([], []), ([0], [0]), ([], []), ([2], [2]), ([1, 3], [1, 3]), ([4], [4]), ([5], [5]), ([5], [5]), ([6, 7, 5], [5, 6, 7]), ([5], [5]), ([5], [5]), ([9, 10, 5], [5, 9, 10]), ([8, 11, 5, 5], [5, 8, 11]), ([5, 12], [5, 12]), ([13, 12, 0, 1, 2, 3, 4, 5, 6, 7, 8, 9, 10, 11, 12, 13], [13])])
def B_intactArticleS : List Nat := [0, 1, 0, 4, 15, 31, 63, 63, 255, 63, 63, 1599, 4095, 8191, 16383]
theorem tab_intactArticleS : rtab .any (opsOf Try.f35 2) = T_intactArticleS := by kernel_rfl
theorem bits_intactArticleS : waitsOk T_intactArticleS.2 B_intactArticleS = true := by kernel_rfl
set_option maxHeartbeats 8000000 in
set_option maxRecDepth 100000 in
theorem same_intactArticleS (k n : Nat) (A0 : Option Addr) (c0 : Nat) (A1 : Option Addr) (c1 : Nat) (L : List S91) (t : Int) (w : World) (hr0 : Kd.C k91 w A0 L.length L) (hc0 : L.length ≤ c0) (hr1 : Kd.C k91 w A1 L.length L) (hc1 : L.length ≤ c1)
    (ht : laws_roomBehind.f (n : Int) = some t) (hj : wrap64 ((n : Int) + t) = (L.length : Int)) (he : laws_eqArticleS.f k L L = some true) :
    Calls Try.prog 35 #[.slice A0 n c0, .slice A1 n c1] w fun e w' => e = .returned (.bool true) ∧ Below w.heap.size w w' := by
  have HR0 := am_ hr0; have HC0 := am_ hc0; clear hr0 hc0; have HR1 := am_ hr1; have HC1 := am_ hc1; clear hr1 hc1; have HB := am_ (Below.refl w.heap.size w); have A3 := am_ ht; have A10 := am_ he; clear ht he; obtain ⟨ji5, hji⟩ : ∃ j_ : Int, (L.length : Int) = j_ := ⟨_, rfl⟩; rw [hji] at hj; have hji5w : (IntKind.i64.wrap ((n : Int) + t)) = ji5 := (i64_w _).trans hj; have hji5 := hj; clear hj; obtain ⟨i012, hi012, _, hsz12, _⟩ := info_parts info91; have hcut12 := cut_cap (P := Try.prog) 32 91 .i64 Try.underlying32 hi012 A0 n c0 ji5 (by omega) (by have := HC0.out; omega); have hcut13 := cut_cap (P := Try.prog) 32 91 .i64 Try.underlying32 hi012 A1 n c1 ji5 (by omega) (by have := HC1.out; omega)
  have hL : ji5.toNat = L.length := by omega
  rw [hL] at hcut12 hcut13; clear hL hi012 hsz12 hji
  go_enter Try.func35, Try.ntmps35
  go_wp2_with (first | ((with_reducible refine gate_callee (f := 55) rfl ?_); refine gZ 10 Try.func55 #[.int .i64 (n : Int)] ?_; (with_reducible refine (laws_roomBehind.calls (n : Int) t _ A3.out).mono ?_); rintro e w' ⟨rfl, ⟨nd, rfl⟩⟩; refine ⟨_, rfl, ?_⟩))
  replace HB := am_ (below_drew1 (pw_below_drewN HB.out nd)); refine start_ (n := 15) (S := fun w' => True) (ds := []) (bT 15 0) Zi rfl rfl trivial (fun hHeld => ?_); refine with_tabW tab_intactArticleS bits_intactArticleS (fun HT_ HW_ => ?_); generalize (w.drewN nd).drew = w11 at HB hHeld ⊢; refine pure_ (i := 0) (N := some 12) (v := ?_) (a' := ?_) (bT 15 1) rfl rfl (any_of HT_.out Zi) (fun _ _ _ h => h) (Or.inl ⟨by rfl, ?_⟩) ?_ ?_; rotate_left
  · intro w'
    go_simp
    with_reducible rfl
  rotate_left
  · simp only [Act.put, List.setIfInBounds_toArray, List.set_cons_zero, List.set_cons_succ, i64_w, i32_w]
    rfl
  refine pure_ (i := 1) (N := some 13) (v := ?_) (a' := ?_) (bT 15 2) rfl rfl (any_of HT_.out Zi) (fun _ _ _ h => h) (Or.inl ⟨by rfl, ?_⟩) ?_ ?_; rotate_left
  · intro w'
    go_simp
    with_reducible rfl
  rotate_left
  · simp only [Act.put, List.setIfInBounds_toArray, List.set_cons_zero, List.set_cons_succ, i64_w, i32_w]
    rfl
  refine pure_ (i := 2) (N := some 14) (v := ?_) (a' := ?_) (bT 15 3) rfl rfl (any_of HT_.out Zi) (fun _ _ _ h => h) (Or.inl ⟨by rfl, ?_⟩) ?_ ?_; rotate_left
  · intro w'
    go_simp
    with_reducible rfl
  rotate_left
  · simp only [Act.put, List.setIfInBounds_toArray, List.set_cons_zero, List.set_cons_succ, i64_w, i32_w]
    rfl
  refine pure_ (i := 3) (N := some 15) (v := ?_) (a' := ?_) (bT 15 4) rfl rfl (any_of HT_.out Zi) (fun _ _ _ h => h) (Or.inl ⟨by rfl, ?_⟩) ?_ ?_; rotate_left
  · intro w'
    go_simp
    with_reducible rfl
  rotate_left
  · simp only [Act.put, List.setIfInBounds_toArray, List.set_cons_zero, List.set_cons_succ, i64_w, i32_w]
    rfl
  refine pure_ (i := 4) (N := some 16) (v := ?_) (a' := ?_) (bT 15 5) rfl rfl (any_of HT_.out Zi) (fun _ _ _ h => h) (Or.inl ⟨by rfl, ?_⟩) ?_ ?_; rotate_left
  · intro w'
    go_simp
    with_reducible rfl
  rotate_left
  · simp only [Act.put, List.setIfInBounds_toArray, List.set_cons_zero, List.set_cons_succ, i64_w, i32_w]
    rfl
  refine pure_ (i := 5) (N := some 17) (v := ?_) (a' := ?_) (bT 15 6) rfl rfl (any_of HT_.out Zi) (fun _ _ _ h => h) (Or.inl ⟨by rfl, ?_⟩) ?_ ?_; rotate_left
  · intro w'
    go_simp
    with_reducible rfl
  rotate_left
  · simp only [Act.put, List.setIfInBounds_toArray, List.set_cons_zero, List.set_cons_succ, i64_w, i32_w]
    rfl
  refine pure_ (i := 6) (N := some 18) (v := ?_) (a' := ?_) (bT 15 7) rfl rfl (any_of HT_.out Zi) (fun _ _ _ h => h) (Or.inl ⟨by rfl, ?_⟩) ?_ ?_; rotate_left
  · intro w'
    go_simp
    with_reducible rfl
  rotate_left
  · simp only [Act.put, List.setIfInBounds_toArray, List.set_cons_zero, List.set_cons_succ, i64_w, i32_w]
    rfl
  refine pure_ (i := 7) (N := some 19) (v := ?_) (a' := ?_) (bT 15 8) rfl rfl (any_of HT_.out Zi) (fun _ _ _ h => h) (Or.inl ⟨by rfl, ?_⟩) ?_ ?_; rotate_left
  · intro w'
    go_simp
    with_reducible rfl
  rotate_left
  · simp only [Act.put, List.setIfInBounds_toArray, List.set_cons_zero, List.set_cons_succ, i64_w, i32_w]
    rfl
  refine pure_ (i := 8) (N := some 20) (v := ?_) (a' := ?_) (bT 15 9) rfl rfl (any_of HT_.out Zi) (fun _ _ _ h => h) (Or.inl ⟨by rfl, ?_⟩) ?_ ?_; rotate_left
  · intro w'
    go_simp
    with_reducible rfl
  rotate_left
  · simp only [Act.put, List.setIfInBounds_toArray, List.set_cons_zero, List.set_cons_succ, i64_w, i32_w]
    rfl
  refine pure_ (i := 9) (N := some 21) (v := ?_) (a' := ?_) (bT 15 10) rfl rfl (any_of HT_.out Zi) (fun _ _ _ h => h) (Or.inl ⟨by rfl, ?_⟩) ?_ ?_; rotate_left
  · intro w'
    go_simp
    with_reducible rfl
  rotate_left
  · simp only [Act.put, List.setIfInBounds_toArray, List.set_cons_zero, List.set_cons_succ, i64_w, i32_w]
    rfl
  refine pure_ (i := 10) (N := some 22) (v := ?_) (a' := ?_) (bT 15 11) rfl rfl (any_of HT_.out Zi) (fun _ _ _ h => h) (Or.inl ⟨by rfl, ?_⟩) ?_ ?_; rotate_left
  · intro w'
    go_simp
    with_reducible rfl
  rotate_left
  · simp only [Act.put, List.setIfInBounds_toArray, List.set_cons_zero, List.set_cons_succ, i64_w, i32_w]
    rfl
  refine pure_ (i := 11) (N := some 23) (v := ?_) (a' := ?_) (bT 15 12) rfl rfl (any_of HT_.out Zi) (fun _ _ _ h => h) (Or.inl ⟨by rfl, ?_⟩) ?_ ?_; rotate_left
  · intro w'
    go_simp
    with_reducible rfl
  rotate_left
  · simp only [Act.put, List.setIfInBounds_toArray, List.set_cons_zero, List.set_cons_succ, i64_w, i32_w]
    rfl
  refine one_ (i := 12) (N := some 24) (bT 15 13) rfl rfl (one_of HT_.out Zi) (by decide) (fun K hK => ?_); refine goes_ Try.func67 Zi rfl #[.slice A0 L.length c0, .slice A1 L.length c1] (by rfl) rfl rfl (by (try simp only [List.map_toArray, List.map_cons, List.map_nil]); first | done | rfl) ?_
  with_reducible refine (laws_eqArticleS.calls k _ _ L _ _ L true _ (Kd.C_below HR0.out HB.out) HC0.out (Kd.C_below HR1.out HB.out) HC1.out A10.out).mono ?_
  rintro e w14 ⟨rfl, hb⟩; refine ⟨_, rfl, ?_⟩; replace HB := (bsZ HB.out hb); clear hb; refine hK.out _ _ trivial (fun hHeld => ?_); clear hK K; refine normZ 24 ?_; refine pure_ (i := 13) (N := some 25) (v := ?_) (a' := ?_) (bT 15 14) rfl rfl (any_of HT_.out Zi) (fun _ _ _ h => h) (Or.inl ⟨by rfl, ?_⟩) ?_ ?_; rotate_left
  · intro w'
    go_simp
    with_reducible rfl
  rotate_left
  · simp only [Act.put, List.setIfInBounds_toArray, List.set_cons_zero, List.set_cons_succ, i64_w, i32_w]
    rfl
  refine pure_ (i := 14) (N := some 4) (v := ?_) (a' := ?_) (bT 15 15) rfl rfl (any_of HT_.out Zi) (fun _ _ _ h => h) (Or.inl ⟨by rfl, ?_⟩) ?_ ?_; rotate_left
  · intro w'
    go_simp
    with_reducible rfl
  rotate_left
  · simp only [Act.put, List.setIfInBounds_toArray, List.set_cons_zero, List.set_cons_succ, i64_w, i32_w]
    rfl
  refine done_ (done_of HT_.out Zi) ?_
  try go_wp2
  go_ret
  exact ⟨rfl, HB.out⟩
theorem one74 : Try.prog.cellsOf 2 = 1 := by kernel_rfl
theorem ones74 : Try.prog.cellsOf 9 = 1 := by kernel_rfl
theorem size74 : Try.prog.cellsOf 74 = 9 := by kernel_rfl
def Pr74 (x : S74) : Prop := x.f0.size ≤ maxLen ∧ I64 x.f1 ∧ I64 x.f2 ∧ I64 x.f3 ∧ I64 x.f4 ∧ I64 x.f5 ∧ I64 x.f6 ∧ I64 x.f7 ∧ I64 x.f8
theorem open_S74 {H : Type} {enc : TypeId × Value → H} {W : World} {base : Nat} {sp : Nat → Bool} {held : Bool} {fuel : Nat} {cs : List Value} {y : DataW H × List MemPlace} (h : DataW.trod enc Try.prog W base sp held fuel 74 cs = some y) (w : World) : ∃ a : S74, k74.K w a cs ∧ Pr74 a := by
  obtain ⟨xs, n, _, rfl, hl, hlen, hf⟩ := DataW.trod_struct Try.underlying74 h; rw [size74] at hl; obtain ⟨v0, e0, _, w0⟩ := DataW.trod_string Try.underlying9 ((hf 0 _ rfl).trans (List.getElem?_eq_getElem Zw)); have g0 : cs[0]? = some (.string v0) := one_cell (by have z : List.take (Try.prog.cellsOf 9) (List.drop 0 cs) = [.string v0] := e0; rw [ones74] at z; exact z); obtain ⟨v1, e1, _, w1⟩ := DataW.trod_int Try.underlying2 ((hf 1 _ rfl).trans (List.getElem?_eq_getElem Zw)); have g1 : cs[1]? = some (.int .i64 v1) := one_cell (by have z : List.take (Try.prog.cellsOf 2) (List.drop 1 cs) = [.int .i64 v1] := e1; rw [one74] at z; exact z); obtain ⟨v2, e2, _, w2⟩ := DataW.trod_int Try.underlying2 ((hf 2 _ rfl).trans (List.getElem?_eq_getElem Zw)); have g2 : cs[2]? = some (.int .i64 v2) := one_cell (by have z : List.take (Try.prog.cellsOf 2) (List.drop 2 cs) = [.int .i64 v2] := e2; rw [one74] at z; exact z); obtain ⟨v3, e3, _, w3⟩ := DataW.trod_int Try.underlying2 ((hf 3 _ rfl).trans (List.getElem?_eq_getElem Zw)); have g3 : cs[3]? = some (.int .i64 v3) := one_cell (by have z : List.take (Try.prog.cellsOf 2) (List.drop 3 cs) = [.int .i64 v3] := e3; rw [one74] at z; exact z); obtain ⟨v4, e4, _, w4⟩ := DataW.trod_int Try.underlying2 ((hf 4 _ rfl).trans (List.getElem?_eq_getElem Zw)); have g4 : cs[4]? = some (.int .i64 v4) := one_cell (by have z : List.take (Try.prog.cellsOf 2) (List.drop 4 cs) = [.int .i64 v4] := e4; rw [one74] at z; exact z); obtain ⟨v5, e5, _, w5⟩ := DataW.trod_int Try.underlying2 ((hf 5 _ rfl).trans (List.getElem?_eq_getElem Zw)); have g5 : cs[5]? = some (.int .i64 v5) := one_cell (by have z : List.take (Try.prog.cellsOf 2) (List.drop 5 cs) = [.int .i64 v5] := e5; rw [one74] at z; exact z); obtain ⟨v6, e6, _, w6⟩ := DataW.trod_int Try.underlying2 ((hf 6 _ rfl).trans (List.getElem?_eq_getElem Zw)); have g6 : cs[6]? = some (.int .i64 v6) := one_cell (by have z : List.take (Try.prog.cellsOf 2) (List.drop 6 cs) = [.int .i64 v6] := e6; rw [one74] at z; exact z); obtain ⟨v7, e7, _, w7⟩ := DataW.trod_int Try.underlying2 ((hf 7 _ rfl).trans (List.getElem?_eq_getElem Zw)); have g7 : cs[7]? = some (.int .i64 v7) := one_cell (by have z : List.take (Try.prog.cellsOf 2) (List.drop 7 cs) = [.int .i64 v7] := e7; rw [one74] at z; exact z); obtain ⟨v8, e8, _, w8⟩ := DataW.trod_int Try.underlying2 ((hf 8 _ rfl).trans (List.getElem?_eq_getElem Zw)); have g8 : cs[8]? = some (.int .i64 v8) := one_cell (by have z : List.take (Try.prog.cellsOf 2) (List.drop 8 cs) = [.int .i64 v8] := e8; rw [one74] at z; exact z)
  have hcs : cs = [.string v0, .int .i64 v1, .int .i64 v2, .int .i64 v3, .int .i64 v4, .int .i64 v5, .int .i64 v6, .int .i64 v7, .int .i64 v8] := by
    apply List.ext_getElem?
    intro i
    match i with
    | 0 => exact g0
    | 1 => exact g1
    | 2 => exact g2
    | 3 => exact g3
    | 4 => exact g4
    | 5 => exact g5
    | 6 => exact g6
    | 7 => exact g7
    | 8 => exact g8
    | i + 9 => rw [List.getElem?_eq_none (by omega)]; rfl
  subst hcs; exact ⟨⟨v0, v1, v2, v3, v4, v5, v6, v7, v8⟩, k74_mk w _, w0, I64_of w1, I64_of w2, I64_of w3, I64_of w4, I64_of w5, I64_of w6, I64_of w7, I64_of w8⟩
end Go.Proofs.Ytnifblnlpepehaa.F
namespace Go.Proofs.Ytnifblnlpepehaa.F
open Go.RowKit Go.Proofs.YtnifblnlpepehaaW.PrintWords Go.Proofs.YtnifblnlpepehaaW.PrintLast Go.Proofs.YtnifblnlpepehaaW.PrintMore
attribute [local go_sem] max2_int min2_int max_two min_two max_three min_three max_four min_four
set_option linter.unusedVariables false
set_option linter.unusedSimpArgs false
def laws_szCue.f (a0_0 : Int) (a0_1 : Int) (a0_2 : ByteArray) (a0_3 : Int) (a1 : Int) : Option (Int) := if (wrap64 (a1 - (a0_2.size : Int))) < 0 then (some (-1)) else (some (wrap64 (a1 - (a0_2.size : Int))))
set_option maxHeartbeats 8000000 in
set_option maxRecDepth 100000 in
theorem laws_szCue.calls (a0_0 : Int) (a0_1 : Int) (a0_2 : ByteArray) (a0_3 : Int) (a1 : Int) (r : Int) (w : World) (h : laws_szCue.f a0_0 a0_1 a0_2 a0_3 a1 = some r) :
  Calls Try.prog 48 #[.agg #[.int .i64 a0_0, .int .i64 a0_1, .string a0_2, .int .i64 a0_3], .int .i64 a1] w fun e w' => e = .returned (.int .i64 r) ∧ Below w.heap.size w w' := by
 have hu77 := Try.underlying77; have HB := am_ (Below.refl w.heap.size w); have H : (if (wrap64 (a1 - (a0_2.size : Int))) < 0 then (some (-1)) else (some (wrap64 (a1 - (a0_2.size : Int))))) = some r := h; clear h
 by_cases c3 : (wrap64 (a1 - (a0_2.size : Int))) < 0
 ·rw [if_pos c3] at H
  have c3b0 := decide_eq_true c3; clear c3; obtain rfl := Option.some.inj H
  go_enter Try.func48, Try.ntmps48
  go_wp2_with (first | ((with_reducible refine gate_dst (N := 2) rfl ?_); refine boxZ 2 #[.int .i64 a0_0, .int .i64 a0_1, .string a0_2, .int .i64 a0_3] 77 ?_; intro gb853 hg w4 hbox hb; replace BK853 := am_ (hbox); replace GW853 := am_ ((Zc : w.heap.size ≤ gb853)); replace GE853 := GW853; replace HB := (bsZ Zd hb); clear hb hbox hg; refine ci4 BK853 ?_; intros))
  go_ret
  exact ⟨Zj, (Zf GE853)⟩
 ·rw [if_neg c3] at H
  have c3b0 := decide_eq_false c3; clear c3; obtain rfl := Option.some.inj H
  go_enter Try.func48, Try.ntmps48
  go_wp2_with (first | ((with_reducible refine gate_dst (N := 2) rfl ?_); refine boxZ 2 #[.int .i64 a0_0, .int .i64 a0_1, .string a0_2, .int .i64 a0_3] 77 ?_; intro gb853 hg w6 hbox hb; replace BK853 := am_ (hbox); replace GW853 := am_ ((Zc : w.heap.size ≤ gb853)); replace GE853 := GW853; replace HB := (bsZ Zd hb); clear hb hbox hg; refine ci4 BK853 ?_; intros))
  go_ret
  exact ⟨Zj, (Zf GE853)⟩
 /-! ### laws_szCueS: function 22 -/
def laws_szCueS.l0 : Nat → List (S77) → Int → Int → Option (Int)
 | 0, _, _, _ => none
 | k + 1, x0, x1, x5 => if x5 < (x0.length : Int) then (if 0 ≤ x5 then ((laws_szCue.f ((rd_T77 x0 x5).f0) ((rd_T77 x0 x5).f1) ((rd_T77 x0 x5).f2) ((rd_T77 x0 x5).f3) x1).bind fun t855 => (if t855 < 0 then (some (-1)) else (laws_szCueS.l0 k x0 t855 (wrap64 (x5 + 1))))) else (none)) else (some x1)
def laws_szCueS.f (k : Nat) (l0 : List (S77)) (a1 : Int) : Option (Int) := if (wrap64 (a1 - (l0.length : Int))) < 0 then (some (-1)) else (laws_szCueS.l0 k l0 (wrap64 (a1 - (l0.length : Int))) 0)
set_option maxHeartbeats 8000000 in
set_option maxRecDepth 100000 in
theorem laws_szCueS.calls (k : Nat) (A0 : Option Addr) (c0 : Nat) (l0 : List (S77)) (a1 : Int) (r : Int) (w : World) (hr0 : Kd.C k77 w A0 l0.length l0) (hc0 : l0.length ≤ c0) (h : laws_szCueS.f k l0 a1 = some r) :
  Calls Try.prog 22 #[.slice A0 l0.length c0, .int .i64 a1] w fun e w' => e = .returned (.int .i64 r) ∧ Below w.heap.size w w' := by
 have hu77 := Try.underlying77; have HR0 := am_ hr0; have HC0 := am_ hc0; clear hr0 hc0; have HB := am_ (Below.refl w.heap.size w); have H : (if (wrap64 (a1 - (l0.length : Int))) < 0 then (some (-1)) else (laws_szCueS.l0 k l0 (wrap64 (a1 - (l0.length : Int))) 0)) = some r := h; clear h
 by_cases c3 : (wrap64 (a1 - (l0.length : Int))) < 0
 ·rw [if_pos c3] at H
  have c3b0 := decide_eq_true c3; clear c3; obtain rfl := Option.some.inj H
  go_enter Try.func22, Try.ntmps22
  go_wp2
  go_ret
  exact ⟨Zj, Zd⟩
 ·rw [if_neg c3] at H
  have c3b0 := decide_eq_false c3; clear c3; have H' := am_ H; clear H
  go_enter Try.func22, Try.ntmps22
  go_wp2
  go_loopg [1, 5] k (fun kq v1 v5 w' => ∃ (x1_1 : Int) (x5_1 : Int), v1 = .int .i64 x1_1 ∧ v5 = .int .i64 x5_1 ∧ Aside0 (laws_szCueS.l0 kq l0 x1_1 x5_1 = some r) ∧ Aside0 (kq ≤ k) ∧ Aside0 (Below w.heap.size w w'))
  case atStart => exact ⟨(wrap64 (a1 - (l0.length : Int))), (0), Za, Za, H', ⟨Nat.le_refl _⟩, ⟨Zd⟩⟩
  case round =>
   clear H'
   try clear c2
   try clear p2
   try clear c3
   try clear c3b0
   obtain ⟨x1_1, x5_1, rfl, rfl, HA, HK1, HB⟩ := hrel
   cases gk with
   | zero => exact absurd HA.out (by simp [laws_szCueS.l0])
   | succ k1 =>
    have H := HA.out; clear HA; simp only [laws_szCueS.l0] at H
    by_cases c4 : x5_1 < (l0.length : Int)
    ·rw [if_pos c4] at H
     have c4b0 := decide_eq_true c4; clear c4
     by_cases c5 : 0 ≤ x5_1
     ·rw [if_pos c5] at H
      have c5b0 := decide_eq_true c5; clear c5; replace H := Option.bind_eq_some_iff.mp H; obtain ⟨t855, A60, H⟩ := H; have A6 := am_ A60; clear A60; have HS_ := am_ H; clear H; have p854 : 0 ≤ (x5_1 : Int) := of_decide_eq_true Zn; have q854 : x5_1 < (l0.length : Int) := of_decide_eq_true Zn; obtain ⟨ad854, e854, hx854_0, hx854_1, hx854_2, hx854_3⟩ := at_T77 HR0.out x5_1 p854 q854
      cases e854
      replace hx854_0 := cbH HB hx854_0; replace hx854_1 := cbH HB hx854_1; replace hx854_2 := cbH HB hx854_2; replace hx854_3 := cbH HB hx854_3; replace p854 := eq_true p854; replace q854 := eq_true q854
      go_wp2_with (first | ((with_reducible refine gate_callee (f := 48) rfl ?_); refine gZ 23 Try.func48 #[.agg #[.int .i64 ((rd_T77 l0 x5_1).f0), .int .i64 ((rd_T77 l0 x5_1).f1), .string ((rd_T77 l0 x5_1).f2), .int .i64 ((rd_T77 l0 x5_1).f3)], .int .i64 x1_1] ?_; (with_reducible refine (laws_szCue.calls ((rd_T77 l0 x5_1).f0) ((rd_T77 l0 x5_1).f1) ((rd_T77 l0 x5_1).f2) ((rd_T77 l0 x5_1).f3) x1_1 t855 _ A6.out).mono ?_); rintro e w8 ⟨rfl, hb⟩; refine ⟨_, rfl, ?_⟩; replace HB := (bsZ Zd hb); clear hb; refine ?roundEnd))
      case roundEnd =>
       by_cases c7 : t855 < 0
       ·have H := HS_.out
        clear HS_; rw [if_pos c7] at H; have c7b0 := decide_eq_true c7; clear c7; obtain rfl := Option.some.inj H
        go_wp2_with (first | fail)
        go_ret
        exact ⟨Zj, Zd⟩
       ·have H := HS_.out
        clear HS_; rw [if_neg c7] at H; have c7b0 := decide_eq_false c7; clear c7; have H' := am_ H; clear H
        go_wp2_with (first | fail)
        go_roundg k1
        case measure => have := HK1.out; omega
        case rel => exact ⟨(t855), (wrap64 (x5_1 + 1)), Za, Za, H', ⟨Zs⟩, ⟨Zd⟩⟩
     ·rw [if_neg c5] at H
      exact absurd H (by simp)
    ·rw [if_neg c4] at H
     have c4b0 := decide_eq_false c4; clear c4; obtain rfl := Option.some.inj H
     go_wp2
     go_ret
     exact ⟨Zj, Zd⟩
 /-! ### laws_toCue: function 60 -/
def laws_toCue.f (a0_0 : Int) (a0_1 : Int) (a0_2 : ByteArray) (a0_3 : Int) : Option (Int × Int × ByteArray × Int) := some (a0_0, a0_1, a0_2, a0_3)
set_option maxHeartbeats 8000000 in
set_option maxRecDepth 100000 in
theorem laws_toCue.calls (a0_0 : Int) (a0_1 : Int) (a0_2 : ByteArray) (a0_3 : Int) (r1 : Int) (r2 : Int) (r3 : ByteArray) (r4 : Int) (w : World) (h : laws_toCue.f a0_0 a0_1 a0_2 a0_3 = some (r1, r2, r3, r4)) :
  Calls Try.prog 60 #[.agg #[.int .i64 a0_0, .int .i64 a0_1, .string a0_2, .int .i64 a0_3]] w fun e w' => e = .returned (.agg #[.int .i64 r1, .int .i64 r2, .string r3, .int .i64 r4]) ∧ Below w.heap.size w w' := by
 have hu77 := Try.underlying77; have hu80 := Try.underlying80; have HB := am_ (Below.refl w.heap.size w); have H : (some (a0_0, a0_1, a0_2, a0_3)) = some (r1, r2, r3, r4) := h; clear h; simp only [Option.some.injEq, Prod.mk.injEq] at H; obtain ⟨rfl, rfl, rfl, rfl⟩ := H
 go_enter Try.func60, Try.ntmps60
 go_wp2_with (first | ((with_reducible refine gate_dst (N := 1) rfl ?_); refine boxZ 1 #[.int .i64 a0_0, .int .i64 a0_1, .string a0_2, .int .i64 a0_3] 77 ?_; intro gb910 hg w2 hbox hb; replace BK910 := am_ (hbox); replace GW910 := am_ ((Zc : w.heap.size ≤ gb910)); replace GE910 := GW910; replace HB := (bsZ Zd hb); clear hb hbox hg) | ((with_reducible refine gate_dst (N := 2) rfl ?_); refine boxZ 2 #[.int .i64 0, .int .i64 0, .string (⟨#[]⟩ : ByteArray), .int .i64 0] 80 ?_; intro gb911 hg w3 hbox hb; replace BK911 := am_ (hbox); replace GW911 := am_ (((Ze GE910) : w.heap.size ≤ gb911)); replace GE911 := GW911; replace HB := (bsZ (Zf GE910) hb); replace NB910_911 := am_ ((by rw [hg]; exact Nat.ne_of_lt (blk_lt (g := gb910) (b0Z BK910)) : gb910 ≠ gb911)); replace NB911_910 := am_ ((by rw [hg]; exact Nat.ne_of_gt (blk_lt (g := gb910) (b0Z BK910)) : gb911 ≠ gb910)); replace BK910 := (bkZ BK910 hb); clear hb hbox hg) | ((with_reducible refine gate_dst (N := 3) rfl ?_); refine boxZ 3 #[.int .i64 0, .int .i64 0, .string (⟨#[]⟩ : ByteArray), .int .i64 0] 80 ?_; intro gb912 hg w4 hbox hb; replace BK912 := am_ (hbox); replace GW912 := am_ (((Zg GE910 GE911) : w.heap.size ≤ gb912)); replace GE912 := GW912; replace HB := (bsZ (Zh GE910 GE911) hb); replace NB910_912 := am_ ((by rw [hg]; exact Nat.ne_of_lt (blk_lt (g := gb910) (b0Z BK910)) : gb910 ≠ gb912)); replace NB912_910 := am_ ((by rw [hg]; exact Nat.ne_of_gt (blk_lt (g := gb910) (b0Z BK910)) : gb912 ≠ gb910)); replace BK910 := (bkZ BK910 hb); replace NB911_912 := am_ ((by rw [hg]; exact Nat.ne_of_lt (blk_lt (g := gb911) (b0Z BK911)) : gb911 ≠ gb912)); replace NB912_911 := am_ ((by rw [hg]; exact Nat.ne_of_gt (blk_lt (g := gb911) (b0Z BK911)) : gb912 ≠ gb911)); replace BK911 := (bkZ BK911 hb); clear hb hbox hg; have hnb5 := NB910_911.out; have hnc5 := NB911_910.out; have hnb6 := NB910_912.out; have hnc6 := NB912_910.out; refine ci4 BK910 ?_; intros; have hnb8 := NB912_911.out; have hnc8 := NB911_912.out; refine ci4 BK912 ?_; intros; refine ci4 BK911 ?_; intros))
 refine bodyPost_ret (results_cell_row rfl _ _ gb911 80 #[.int .i64 a0_0, .int .i64 a0_1, .string a0_2, .int .i64 a0_3] (0, 0) _ rfl (bmZ BK911 NB911_912) Try.underlying80 rfl Zi) rfl ?_; exact ⟨Zj, (Zk GE910 GE911 GE912)⟩
 /-! ### laws_fillerCue: function 61 -/
def laws_fillerCue.f  : Option (Int × Int × ByteArray × Int) := some ((-7000000000000000101), (-7000000000000000101), (⟨#[126, 115, 112, 97, 114, 101, 126]⟩ : ByteArray), (-7000000000000000101))
set_option maxHeartbeats 8000000 in
set_option maxRecDepth 100000 in
theorem laws_fillerCue.calls  (r1 : Int) (r2 : Int) (r3 : ByteArray) (r4 : Int) (w : World) (h : laws_fillerCue.f  = some (r1, r2, r3, r4)) :
  Calls Try.prog 61 #[] w fun e w' => e = .returned (.agg #[.int .i64 r1, .int .i64 r2, .string r3, .int .i64 r4]) ∧ Below w.heap.size w w' := by
 have hu80 := Try.underlying80; have HB := am_ (Below.refl w.heap.size w); have H : (some ((-7000000000000000101), (-7000000000000000101), (⟨#[126, 115, 112, 97, 114, 101, 126]⟩ : ByteArray), (-7000000000000000101))) = some (r1, r2, r3, r4) := h; clear h; simp only [Option.some.injEq, Prod.mk.injEq] at H; obtain ⟨rfl, rfl, rfl, rfl⟩ := H
 go_enter Try.func61, Try.ntmps61
 go_wp2_with (first | ((with_reducible refine gate_dst (N := 0) rfl ?_); refine boxZ 0 #[.int .i64 0, .int .i64 0, .string (⟨#[]⟩ : ByteArray), .int .i64 0] 80 ?_; intro gb913 hg w1 hbox hb; replace BK913 := am_ (hbox); replace GW913 := am_ ((Zc : w.heap.size ≤ gb913)); replace GE913 := GW913; replace HB := (bsZ Zd hb); clear hb hbox hg; refine ci4 BK913 ?_; intros))
 refine bodyPost_ret (results_cell_row rfl _ _ gb913 80 #[.int .i64 (-7000000000000000101), .int .i64 (-7000000000000000101), .string (⟨#[126, 115, 112, 97, 114, 101, 126]⟩ : ByteArray), .int .i64 (-7000000000000000101)] (0, 0) _ rfl (bpZ BK913) Try.underlying80 rfl Zi) rfl ?_; exact ⟨Zj, (Zf GE913)⟩
 /-! ### laws_toCueS: function 29 -/
 mutual
def laws_toCueS.j0 : Nat → List (S77) → Bool → Option ((List (S80)))
 | 0, _, _ => none
 | k + 1, x0, x13 => if x13 = true then (some ([] : List (S80))) else ((laws_roomBehind.f (x0.length : Int)).bind fun t914 => (if 0 ≤ (wrap64 ((x0.length : Int) + t914)) then (if (wrap64 ((x0.length : Int) + t914) : Int).toNat ≤ 7036874417766 then (laws_toCueS.l0 k x0 (List.replicate (wrap64 ((x0.length : Int) + t914) : Int).toNat z80) 0) else (none)) else (none)))
def laws_toCueS.l0 : Nat → List (S77) → List (S80) → Int → Option ((List (S80)))
 | 0, _, _, _ => none
 | k + 1, x0, x5, x6 => if x6 < (x0.length : Int) then (if 0 ≤ x6 then ((laws_toCue.f ((rd_T77 x0 x6).f0) ((rd_T77 x0 x6).f1) ((rd_T77 x0 x6).f2) ((rd_T77 x0 x6).f3)).bind fun bt919 => (if x6 < (x5.length : Int) then (laws_toCueS.l0 k x0 (x5.set (x6 : Int).toNat (⟨bt919.1, bt919.2.1, bt919.2.2.1, bt919.2.2.2⟩ : S80)) (wrap64 (x6 + 1))) else (none))) else (none)) else (laws_toCueS.l1 k x0 x5 (x0.length : Int))
def laws_toCueS.l1 : Nat → List (S77) → List (S80) → Int → Option ((List (S80)))
 | 0, _, _, _ => none
 | k + 1, x0, x5, x7 => if x7 < (x5.length : Int) then ((laws_fillerCue.f).bind fun bt924 => (if 0 ≤ x7 then (laws_toCueS.l1 k x0 (x5.set (x7 : Int).toNat (⟨bt924.1, bt924.2.1, bt924.2.2.1, bt924.2.2.2⟩ : S80)) (wrap64 (x7 + 1))) else (none))) else (if 0 ≤ (x0.length : Int) then (if (x0.length : Int) ≤ (x5.length : Int) then (some (x5.take ((x0.length : Int) : Int).toNat)) else (none)) else (none))
end
def laws_toCueS.f (k : Nat) (l0 : List (S77)) (a1 : Bool) : Option ((List (S80))) := if a1 = true then (laws_toCueS.j0 k l0 ((l0.length : Int) == 0)) else (laws_toCueS.j0 k l0 false)
set_option maxHeartbeats 8000000 in
set_option maxRecDepth 100000 in
theorem laws_toCueS.calls (k : Nat) (A0 : Option Addr) (c0 : Nat) (l0 : List (S77)) (a1 : Bool) (r : List (S80)) (w : World) (hr0 : Kd.C k77 w A0 l0.length l0) (hc0 : l0.length ≤ c0) (h : laws_toCueS.f k l0 a1 = some r) :
  Calls Try.prog 29 #[.slice A0 l0.length c0, .bool a1] w fun e w' => ∃ v0_ : Value, e = .returned (v0_) ∧ Kd.R k80 80 w' w.heap.size (fun _ => True) v0_ r ∧ Below w.heap.size w w' := by
 have hu77 := Try.underlying77; have hu80 := Try.underlying80; have HR0 := am_ hr0; have HC0 := am_ hc0; clear hr0 hc0; have HB := am_ (Below.refl w.heap.size w); have H : (if a1 = true then (laws_toCueS.j0 k l0 ((l0.length : Int) == 0)) else (laws_toCueS.j0 k l0 false)) = some r := h; clear h; have HC3 := am_ H; clear H
 go_enter Try.func29, Try.ntmps29
 go_upto_region 1 with (fail)
 go_cut [13] (fun v13 wc => ∃ (kq : Nat) (x13_2 : Bool), v13 = .bool x13_2 ∧ Aside0 (laws_toCueS.j0 kq l0 x13_2 = some r) ∧ Aside0 (kq ≤ k) ∧ Aside0 (Below w.heap.size w wc))
 case first =>
  have H := HC3.out; clear HC3
  by_cases c4 : a1 = true
  ·subst c4
   rw [if_pos rfl] at H; have H' := am_ H; clear H
   go_wp2
   go_meet
   case rel => exact ⟨_, (((l0.length : Int) == 0)), Za, H', ⟨Zl⟩, ⟨Zd⟩⟩
  ·replace c4 := Bool.eq_false_iff.mpr c4
   subst c4; rw [if_neg (show ¬ (false = true) by decide)] at H; have H' := am_ H; clear H
   go_wp2
   go_meet
   case rel => exact ⟨_, (false), Za, H', ⟨Zl⟩, ⟨Zd⟩⟩
 case rest =>
  clear HC3
  try clear c2
  try clear p2
  try clear c4
  obtain ⟨kq, x13_2, rfl, HA, HJ2, HB⟩ := hcut
  cases kq with
  | zero => exact absurd HA.out (by simp [laws_toCueS.j0])
  | succ kj2 =>
   have H := HA.out; clear HA; simp only [laws_toCueS.j0] at H
   by_cases c5 : x13_2 = true
   ·subst c5
    rw [if_pos rfl] at H; obtain rfl := Option.some.inj H
    go_wp2
    go_ret
    exact ⟨_, Zj, Zm, Zd⟩
   ·replace c5 := Bool.eq_false_iff.mpr c5
    subst c5; rw [if_neg (show ¬ (false = true) by decide)] at H; replace H := Option.bind_eq_some_iff.mp H; obtain ⟨t914, A60, H⟩ := H; have A6 := am_ A60; clear A60; obtain ⟨ji7, hji7⟩ : ∃ j_ : Int, (wrap64 ((l0.length : Int) + t914)) = j_ := ⟨_, rfl⟩
    replace H : (if 0 ≤ (ji7) then (if (ji7 : Int).toNat ≤ 7036874417766 then (laws_toCueS.l0 kj2 l0 (List.replicate (ji7 : Int).toNat z80) 0) else (none)) else (none)) = some r := by first | (rw [hji7] at H; exact H) | (simp only [hji7] at H ⊢; exact H)
    (try rw [hji7] at A6)
    have hji7w : (IntKind.i64.wrap ((l0.length : Int) + t914)) = ji7 := (i64_w _).trans hji7
    by_cases c8 : 0 ≤ (ji7)
    ·rw [if_pos c8] at H
     have c8b0 := eq_true c8; have c8b1 := decide_eq_true c8; clear c8
     by_cases c9 : (ji7 : Int).toNat ≤ 7036874417766
     ·rw [if_pos c9] at H
      have c9b0 := eq_true c9; have c9b1 := decide_eq_true c9; clear c9; obtain ⟨y915, hy915⟩ : ∃ y_ : List (S80), y_ = (List.replicate (ji7 : Int).toNat z80) := ⟨_, rfl⟩
      (first | (rw [← hy915] at H; with_reducible replace H := bindZ H) | rw [← hy915] at H | skip)
      have Ny915 := am_ hy915; clear hy915; have H' := am_ H; clear H
      go_wp2_with (first | ((with_reducible refine gate_callee (f := 55) rfl ?_); refine gZ 18 Try.func55 #[.int .i64 (l0.length : Int)] ?_; (with_reducible refine (laws_roomBehind.calls (l0.length : Int) t914 _ A6.out).mono ?_); rintro e w' ⟨rfl, ⟨nd, rfl⟩⟩; refine ⟨_, rfl, ?_⟩) | ((with_reducible refine gate_dst (N := 20) rfl ?_); (try (refine gate_guard (by rfl) ?_; dsimp only)); refine Kd.R_make k80 _ 80 rfl (N := 20) rfl 33 _ _ rfl ji7 rfl rfl Try.underlying33 (.agg #[(.int .i64 0), (.int .i64 0), (.string ⟨#[]⟩), (.int .i64 0)]) 40 info80 rfl (by decide) (by omega) z80 (ok := fun _ => True) (okp := fun _ => True) (k80_mkM _ _ _ z80 ) (fun _ hk => hk) trivial (of_decide_eq_true Zn) (Nat.le_trans (Nat.mul_le_mul_right _ (of_decide_eq_true Zn : ji7.toNat ≤ 7036874417766)) (by omega)) (Below.refl _ _) (Nat.le_refl _) ?_; intro v916 w10 ho11 hb hg_ hnew_; clear hg_ hnew_; (first | rw [← Ny915.out] at ho11 | (simp only [Int.reduceToNat] at ho11; rw [← Ny915.out] at ho11)); replace HO917 := am_ (Kd.R_lower ho11 (below_size Zd)); replace HB := (bsZ Zd hb); clear hb ho11))
      go_loopg [6] kj2 (fun kq v6 w' => ∃ (x5_2 : List (S80)) (x6_2 : Int), v6 = .int .i64 x6_2 ∧ Aside0 (laws_toCueS.l0 kq l0 x5_2 x6_2 = some r) ∧ Aside0 (kq ≤ kj2) ∧ Aside0 (Kd.R k80 80 w' w.heap.size (fun _ => True) v916 x5_2) ∧ Aside0 (Below w.heap.size w w'))
      case atStart => exact ⟨(y915), (0), Za, H', ⟨Nat.le_refl _⟩, ⟨(Zo HO917)⟩, ⟨Zd⟩⟩
      case round =>
       clear H'
       try clear c2
       try clear p2
       try clear c4
       try clear c5
       try clear p6
       try clear c8
       try clear c8b0
       try clear c8b1
       try clear c9
       try clear c9b0
       try clear c9b1
       try clear p2
       obtain ⟨x5_2, x6_2, rfl, HA, HK2, HO_5, HB⟩ := hrel
       cases gk with
       | zero => exact absurd HA.out (by simp [laws_toCueS.l0])
       | succ k2 =>
        have H := HA.out; clear HA; simp only [laws_toCueS.l0] at H
        by_cases c12 : x6_2 < (l0.length : Int)
        ·rw [if_pos c12] at H
         have c12b0 := decide_eq_true c12; clear c12
         by_cases c13 : 0 ≤ x6_2
         ·rw [if_pos c13] at H
          have c13b0 := decide_eq_true c13; clear c13; replace H := Option.bind_eq_some_iff.mp H; obtain ⟨⟨t919, t920, t921, t922⟩, A140, H⟩ := H
          dsimp only at H
          have A14 := am_ A140; clear A140
          by_cases c15 : x6_2 < (x5_2.length : Int)
          ·rw [if_pos c15] at H
           have c15b0 := decide_eq_true c15; clear c15; obtain ⟨y923, hy923⟩ : ∃ y_ : List (S80), y_ = (x5_2.set (x6_2 : Int).toNat (⟨t919, t920, t921, t922⟩ : S80)) := ⟨_, rfl⟩
           (first | (rw [← hy923] at H; with_reducible replace H := bindZ H) | rw [← hy923] at H | skip)
           have Ny923 := am_ hy923; clear hy923; have H' := am_ H; clear H; have p918 : 0 ≤ (x6_2 : Int) := of_decide_eq_true Zn; have q918 : x6_2 < (l0.length : Int) := of_decide_eq_true Zn; obtain ⟨ad918, e918, hx918_0, hx918_1, hx918_2, hx918_3⟩ := at_T77 HR0.out x6_2 p918 q918
           cases e918
           replace hx918_0 := cbH HB hx918_0; replace hx918_1 := cbH HB hx918_1; replace hx918_2 := cbH HB hx918_2; replace hx918_3 := cbH HB hx918_3; replace p918 := eq_true p918; replace q918 := eq_true q918
           go_wp2_with (first | ((with_reducible refine gate_callee (f := 60) rfl ?_); refine gZ 33 Try.func60 #[.agg #[.int .i64 ((rd_T77 l0 x6_2).f0), .int .i64 ((rd_T77 l0 x6_2).f1), .string ((rd_T77 l0 x6_2).f2), .int .i64 ((rd_T77 l0 x6_2).f3)]] ?_; (with_reducible refine (laws_toCue.calls ((rd_T77 l0 x6_2).f0) ((rd_T77 l0 x6_2).f1) ((rd_T77 l0 x6_2).f2) ((rd_T77 l0 x6_2).f3) t919 t920 t921 t922 _ A14.out).mono ?_); rintro e w17 ⟨rfl, hb⟩; refine ⟨_, rfl, ?_⟩; replace HO_5 := (hbZ HO_5 hb); replace HB := (bsZ Zd hb); clear hb; have p16 : 0 ≤ (x6_2 : Int) := of_decide_eq_true Zn; have q16 : (x6_2 : Int) < ((x5_2.length : Int) : Int) := of_decide_eq_true Zn; obtain ⟨go16, co16, eo16, gb16, gl16, cl16, HG16⟩ := Kd.R_form HO_5.out (by omega); (first | cases eo16 | (injection eo16 with ea_ en_ ec_; (first | subst ea_ | (injection ea_ with ea_; subst ea_)); subst ec_; clear en_)); have GB16 := am_ gb16; have GG16 := am_ HG16; clear gb16 gl16 HG16; obtain ⟨ce16, hcl16, hM16, hcc16, hfr16⟩ := Kd.R_elem HO_5.out z80 (x6_2 : Int) p16 q16; obtain rfl := k80_openM hM16; have hx16_0 : w17.cell? ⟨go16, (x6_2 : Int).toNat * 4, none⟩ = some (.int .i64 ((rd_T80 x5_2 x6_2).f0)) := hcc16 0 _ rfl; have hx16_1 : w17.cell? ⟨go16, (x6_2 : Int).toNat * 4 + 1, none⟩ = some (.int .i64 ((rd_T80 x5_2 x6_2).f1)) := hcc16 1 _ rfl; have hx16_2 : w17.cell? ⟨go16, (x6_2 : Int).toNat * 4 + 2, none⟩ = some (.string ((rd_T80 x5_2 x6_2).f2)) := hcc16 2 _ rfl; have hx16_3 : w17.cell? ⟨go16, (x6_2 : Int).toNat * 4 + 3, none⟩ = some (.int .i64 ((rd_T80 x5_2 x6_2).f3)) := hcc16 3 _ rfl; have hf16_0 : w17.frozen? ⟨go16, (x6_2 : Int).toNat * 4, none⟩ = false := hfr16 0; have hf16_1 := hfr16 1; have hf16_2 := hfr16 2; have hf16_3 := hfr16 3; clear hcl16 hcc16 hfr16 hM16; replace p16 := eq_true p16; replace q16 := eq_true q16; have HX18 := am_ (show Kd.R k80 80 w17 w.heap.size (fun _ => True) (.slice (some ⟨go16, 0, none⟩) x5_2.length co16) x5_2 from (Zo HO_5)); obtain ⟨ce18, hcl18, hM18, hcc18, hfr18⟩ := Kd.R_elem HX18.out z80 (x6_2 : Int) (of_decide_eq_true Zn) (by have h_ : (x6_2 : Int) < ((x5_2.length : Int) : Int) := of_decide_eq_true Zn; first | exact h_ | (have e_ := (Kd.R_reads' HO_5.out).1; omega) | simpa using h_); obtain rfl := k80_openM hM18; have HP18 := Kd.R_seg HX18.out (x6_2 : Int) (of_decide_eq_true Zn) (by have h_ : (x6_2 : Int) < ((x5_2.length : Int) : Int) := of_decide_eq_true Zn; first | exact h_ | (have e_ := (Kd.R_reads' HO_5.out).1; omega) | simpa using h_) (seg := [.int .i64 t919, .int .i64 t920, .string t921, .int .i64 t922]) (j := 0) hcl18 hcc18 (show 4 ≤ 4 from (by decide)) (x' := (⟨t919, t920, t921, t922⟩ : S80)) (k80_mkM _ _ _ (⟨t919, t920, t921, t922⟩ : S80) ) (fun _ hk => hk); have hx18_0 := hcc18 0 _ rfl; (try simp only [show (k80).sz = 4 from rfl, Nat.mul_one, Nat.add_zero] at hx18_0); have hf18_0 := hfr18 0; (try simp only [show (k80).sz = 4 from rfl, Nat.mul_one, Nat.add_zero] at hf18_0); have hx18_1 := hcc18 1 _ rfl; (try simp only [show (k80).sz = 4 from rfl, Nat.mul_one, Nat.add_zero] at hx18_1); have hf18_1 := hfr18 1; (try simp only [show (k80).sz = 4 from rfl, Nat.mul_one, Nat.add_zero] at hf18_1); have hx18_2 := hcc18 2 _ rfl; (try simp only [show (k80).sz = 4 from rfl, Nat.mul_one, Nat.add_zero] at hx18_2); have hf18_2 := hfr18 2; (try simp only [show (k80).sz = 4 from rfl, Nat.mul_one, Nat.add_zero] at hf18_2); have hx18_3 := hcc18 3 _ rfl; (try simp only [show (k80).sz = 4 from rfl, Nat.mul_one, Nat.add_zero] at hx18_3); have hf18_3 := hfr18 3; (try simp only [show (k80).sz = 4 from rfl, Nat.mul_one, Nat.add_zero] at hf18_3); clear hcl18 hcc18 hfr18 hM18) | ((with_reducible refine gate_store (t := 80) (p := 34) rfl ?_); refine store_event (t := 80) (p := 34) (v := ?vo_w19) (w1 := ((((w17.setCell ⟨go16, (x6_2 : Int).toNat * 4, none⟩ (.int .i64 t919)).setCell ⟨go16, (x6_2 : Int).toNat * 4 + 1, none⟩ (.int .i64 t920)).setCell ⟨go16, (x6_2 : Int).toNat * 4 + 2, none⟩ (.string t921)).setCell ⟨go16, (x6_2 : Int).toNat * 4 + 3, none⟩ (.int .i64 t922))) ?hg ?ho ?hn ?hr ?_; (case ho => rfl); (case hg => rfl); (case hn => rfl); (case hr => first | (go_simp; done) | (go_simp; rfl)); intro w19 hw; have hg : w17.grownBy w19 (some go16) := (by rw [hw]; exact HP18.2); have hp_ : Kd.R k80 80 w19 w.heap.size (fun _ => True) (.slice (some ⟨go16, 0, none⟩) x5_2.length co16) y923 := (by rw [hw, Ny923.out]; exact HP18.1); clear HP18; replace HO_5 := am_ (hp_); replace HB := am_ (((Zy GB16) : Below w.heap.size w w19)); clear hg hw hp_))
           go_roundg k2
           case measure => have := HJ2.out; have := HK2.out; omega
           case rel => exact ⟨(y923), (wrap64 (x6_2 + 1)), Za, H', ⟨by have := HJ2.out; have := HK2.out; omega⟩, ⟨(Zo HO_5)⟩, ⟨Zd⟩⟩
          ·rw [if_neg c15] at H
           exact absurd H (by simp)
         ·rw [if_neg c13] at H
          exact absurd H (by simp)
        ·rw [if_neg c12] at H
         have c12b0 := decide_eq_false c12; clear c12; have H' := am_ H; clear H
         go_wp2
         go_loopg [7] k2 (fun kq v7 w' => ∃ (x5_3 : List (S80)) (x7_3 : Int), v7 = .int .i64 x7_3 ∧ Aside0 (laws_toCueS.l1 kq l0 x5_3 x7_3 = some r) ∧ Aside0 (kq ≤ k2) ∧ Aside0 (Kd.R k80 80 w' w.heap.size (fun _ => True) v916 x5_3) ∧ Aside0 (Below w.heap.size w w'))
         case atStart => exact ⟨(x5_2), ((l0.length : Int)), Za, H', ⟨Nat.le_refl _⟩, ⟨(Zo HO_5)⟩, ⟨Zd⟩⟩
         case round =>
          clear H'
          try clear c1
          try clear p1
          try clear q1
          try clear hx1
          try clear c2
          try clear p2
          try clear c4
          try clear c5
          try clear c6
          try clear p6
          try clear c8
          try clear c8b0
          try clear c8b1
          try clear c9
          try clear c9b0
          try clear c9b1
          try clear p9
          try clear q9
          try clear hx9
          try clear c12
          try clear c12b0
          try clear c13
          try clear c13b0
          try clear c15
          try clear c15b0
          try clear c16
          try clear p16
          try clear q16
          try clear hx16
          try clear hf16
          try clear c18
          try clear hx18
          try clear hf18
          try clear hx16_0
          try clear hx16_1
          try clear hx16_2
          try clear hx16_3
          try clear hx18_0
          try clear hx18_1
          try clear hx18_2
          try clear hx18_3
          try clear hx918_0
          try clear hx918_1
          try clear hx918_2
          try clear hx918_3
          try clear p16
          try clear p2
          try clear p6
          try clear p918
          try clear q16
          try clear q918
          obtain ⟨x5_3, x7_3, rfl, HA, HK3, HO_5, HB⟩ := hrel
          cases gk with
          | zero => exact absurd HA.out (by simp [laws_toCueS.l1])
          | succ k3 =>
           have H := HA.out; clear HA; simp only [laws_toCueS.l1] at H
           by_cases c20 : x7_3 < (x5_3.length : Int)
           ·rw [if_pos c20] at H
            have c20b0 := decide_eq_true c20; clear c20; replace H := Option.bind_eq_some_iff.mp H; obtain ⟨⟨t924, t925, t926, t927⟩, A210, H⟩ := H
            dsimp only at H
            have A21 := am_ A210; clear A210
            by_cases c22 : 0 ≤ x7_3
            ·rw [if_pos c22] at H
             have c22b0 := decide_eq_true c22; clear c22; obtain ⟨y928, hy928⟩ : ∃ y_ : List (S80), y_ = (x5_3.set (x7_3 : Int).toNat (⟨t924, t925, t926, t927⟩ : S80)) := ⟨_, rfl⟩
             (first | (rw [← hy928] at H; with_reducible replace H := bindZ H) | rw [← hy928] at H | skip)
             have Ny928 := am_ hy928; clear hy928; have H' := am_ H; clear H; obtain ⟨Ao24, co24, eo24⟩ := Kd.R_slice HO_5.out; subst eo24
             go_wp2_with (first | ((with_reducible refine gate_callee (f := 61) rfl ?_); refine gZ 45 Try.func61 #[] ?_; (with_reducible refine (laws_fillerCue.calls  t924 t925 t926 t927 _ A21.out).mono ?_); rintro e w25 ⟨rfl, hb⟩; refine ⟨_, rfl, ?_⟩; replace HO_5 := (hbZ HO_5 hb); replace HB := (bsZ Zd hb); clear hb; have p23 : 0 ≤ (x7_3 : Int) := of_decide_eq_true Zn; have q23 : (x7_3 : Int) < ((x5_3.length : Int) : Int) := of_decide_eq_true Zn; obtain ⟨go23, co23, eo23, gb23, gl23, cl23, HG23⟩ := Kd.R_form HO_5.out (by omega); (first | cases eo23 | (injection eo23 with ea_ en_ ec_; (first | subst ea_ | (injection ea_ with ea_; subst ea_)); subst ec_; clear en_)); have GB23 := am_ gb23; have GG23 := am_ HG23; clear gb23 gl23 HG23; obtain ⟨ce23, hcl23, hM23, hcc23, hfr23⟩ := Kd.R_elem HO_5.out z80 (x7_3 : Int) p23 q23; obtain rfl := k80_openM hM23; have hx23_0 : w25.cell? ⟨go23, (x7_3 : Int).toNat * 4, none⟩ = some (.int .i64 ((rd_T80 x5_3 x7_3).f0)) := hcc23 0 _ rfl; have hx23_1 : w25.cell? ⟨go23, (x7_3 : Int).toNat * 4 + 1, none⟩ = some (.int .i64 ((rd_T80 x5_3 x7_3).f1)) := hcc23 1 _ rfl; have hx23_2 : w25.cell? ⟨go23, (x7_3 : Int).toNat * 4 + 2, none⟩ = some (.string ((rd_T80 x5_3 x7_3).f2)) := hcc23 2 _ rfl; have hx23_3 : w25.cell? ⟨go23, (x7_3 : Int).toNat * 4 + 3, none⟩ = some (.int .i64 ((rd_T80 x5_3 x7_3).f3)) := hcc23 3 _ rfl; have hf23_0 : w25.frozen? ⟨go23, (x7_3 : Int).toNat * 4, none⟩ = false := hfr23 0; have hf23_1 := hfr23 1; have hf23_2 := hfr23 2; have hf23_3 := hfr23 3; clear hcl23 hcc23 hfr23 hM23; replace p23 := eq_true p23; replace q23 := eq_true q23; have HX26 := am_ (show Kd.R k80 80 w25 w.heap.size (fun _ => True) (.slice (some ⟨go23, 0, none⟩) x5_3.length co24) x5_3 from (Zo HO_5)); obtain ⟨ce26, hcl26, hM26, hcc26, hfr26⟩ := Kd.R_elem HX26.out z80 (x7_3 : Int) (of_decide_eq_true Zn) (by have h_ : (x7_3 : Int) < ((x5_3.length : Int) : Int) := of_decide_eq_true Zn; first | exact h_ | (have e_ := (Kd.R_reads' HO_5.out).1; omega) | simpa using h_); obtain rfl := k80_openM hM26; have HP26 := Kd.R_seg HX26.out (x7_3 : Int) (of_decide_eq_true Zn) (by have h_ : (x7_3 : Int) < ((x5_3.length : Int) : Int) := of_decide_eq_true Zn; first | exact h_ | (have e_ := (Kd.R_reads' HO_5.out).1; omega) | simpa using h_) (seg := [.int .i64 t924, .int .i64 t925, .string t926, .int .i64 t927]) (j := 0) hcl26 hcc26 (show 4 ≤ 4 from (by decide)) (x' := (⟨t924, t925, t926, t927⟩ : S80)) (k80_mkM _ _ _ (⟨t924, t925, t926, t927⟩ : S80) ) (fun _ hk => hk); have hx26_0 := hcc26 0 _ rfl; (try simp only [show (k80).sz = 4 from rfl, Nat.mul_one, Nat.add_zero] at hx26_0); have hf26_0 := hfr26 0; (try simp only [show (k80).sz = 4 from rfl, Nat.mul_one, Nat.add_zero] at hf26_0); have hx26_1 := hcc26 1 _ rfl; (try simp only [show (k80).sz = 4 from rfl, Nat.mul_one, Nat.add_zero] at hx26_1); have hf26_1 := hfr26 1; (try simp only [show (k80).sz = 4 from rfl, Nat.mul_one, Nat.add_zero] at hf26_1); have hx26_2 := hcc26 2 _ rfl; (try simp only [show (k80).sz = 4 from rfl, Nat.mul_one, Nat.add_zero] at hx26_2); have hf26_2 := hfr26 2; (try simp only [show (k80).sz = 4 from rfl, Nat.mul_one, Nat.add_zero] at hf26_2); have hx26_3 := hcc26 3 _ rfl; (try simp only [show (k80).sz = 4 from rfl, Nat.mul_one, Nat.add_zero] at hx26_3); have hf26_3 := hfr26 3; (try simp only [show (k80).sz = 4 from rfl, Nat.mul_one, Nat.add_zero] at hf26_3); clear hcl26 hcc26 hfr26 hM26) | ((with_reducible refine gate_store (t := 80) (p := 46) rfl ?_); refine store_event (t := 80) (p := 46) (v := ?vo_w27) (w1 := ((((w25.setCell ⟨go23, (x7_3 : Int).toNat * 4, none⟩ (.int .i64 t924)).setCell ⟨go23, (x7_3 : Int).toNat * 4 + 1, none⟩ (.int .i64 t925)).setCell ⟨go23, (x7_3 : Int).toNat * 4 + 2, none⟩ (.string t926)).setCell ⟨go23, (x7_3 : Int).toNat * 4 + 3, none⟩ (.int .i64 t927))) ?hg ?ho ?hn ?hr ?_; (case ho => rfl); (case hg => rfl); (case hn => rfl); (case hr => first | (go_simp; done) | (go_simp; rfl)); intro w27 hw; have hg : w25.grownBy w27 (some go23) := (by rw [hw]; exact HP26.2); have hp_ : Kd.R k80 80 w27 w.heap.size (fun _ => True) (.slice (some ⟨go23, 0, none⟩) x5_3.length co24) y928 := (by rw [hw, Ny928.out]; exact HP26.1); clear HP26; replace HO_5 := am_ (hp_); replace HB := am_ (((Zy GB23) : Below w.heap.size w w27)); clear hg hw hp_))
             go_roundg k3
             case measure => have := HJ2.out; have := HK2.out; have := HK3.out; omega
             case rel => exact ⟨(y928), (wrap64 (x7_3 + 1)), Za, H', ⟨Zp⟩, ⟨(Zo HO_5)⟩, ⟨Zd⟩⟩
            ·rw [if_neg c22] at H
             exact absurd H (by simp)
           ·rw [if_neg c20] at H
            have c20b0 := decide_eq_false c20; clear c20
            by_cases c28 : 0 ≤ (l0.length : Int)
            ·rw [if_pos c28] at H
             have c28b0 := eq_true c28; have c28b1 := decide_eq_true c28; clear c28
             by_cases c29 : (l0.length : Int) ≤ (x5_3.length : Int)
             ·rw [if_pos c29] at H
              have c29b0 := eq_true c29; have c29b1 := decide_eq_true c29; clear c29; obtain ⟨y929, hy929⟩ : ∃ y_ : List (S80), y_ = (x5_3.take ((l0.length : Int) : Int).toNat) := ⟨_, rfl⟩
              (first | (rw [← hy929] at H; with_reducible replace H := bindZ H) | rw [← hy929] at H | skip)
              have Ny929 := am_ hy929; clear hy929; obtain rfl := Option.some.inj H; obtain ⟨Ao30, co30, eo30⟩ := Kd.R_slice HO_5.out; subst eo30; have q31 : ((l0.length : Int) : Int) ≤ ((x5_3.length : Int) : Int) := of_decide_eq_true Zn; obtain ⟨i031, hi031, _, hsz31, _⟩ := info_parts info80; have hcut31 := cut_to (P := Try.prog) 33 80 .i64 Try.underlying33 hi031 Ao30 x5_3.length co30 (l0.length : Int) (of_decide_eq_true Zn) q31 (Kd.R_reads' HO_5.out).2.1; have hr31 := Kd.R_take (m := ((l0.length : Int) : Int).toNat) HO_5.out (by omega); have hy31 : y929.length = ((l0.length : Int) : Int).toNat := (by rw [Ny929.out, List.length_take]; omega); rw [← Ny929.out] at hr31; rw [← hy31] at hr31 hcut31; clear hy31 hi031 hsz31 HO_5; have HO931 := am_ hr31; clear hr31; replace q31 := eq_true q31
              go_wp2
              go_ret
              exact ⟨_, Zq, (Zo HO931), Zd⟩
             ·rw [if_neg c29] at H
              exact absurd H (by simp)
            ·rw [if_neg c28] at H
             exact absurd H (by simp)
     ·rw [if_neg c9] at H
      exact absurd H (by simp)
    ·rw [if_neg c8] at H
     exact absurd H (by simp)
 /-! ### laws_eqCue: function 84 -/
def laws_eqCue.f (a0_0 : Int) (a0_1 : Int) (a0_2 : ByteArray) (a0_3 : Int) (a1_0 : Int) (a1_1 : Int) (a1_2 : ByteArray) (a1_3 : Int) : Option (Bool) := if a0_0 = a1_0 then (if a0_1 = a1_1 then (if a0_2.toList = a1_2.toList then (if a0_3 = a1_3 then (some true) else (some false)) else (some false)) else (some false)) else (some false)
set_option maxHeartbeats 8000000 in
set_option maxRecDepth 100000 in
theorem laws_eqCue.calls (a0_0 : Int) (a0_1 : Int) (a0_2 : ByteArray) (a0_3 : Int) (a1_0 : Int) (a1_1 : Int) (a1_2 : ByteArray) (a1_3 : Int) (r : Bool) (w : World) (h : laws_eqCue.f a0_0 a0_1 a0_2 a0_3 a1_0 a1_1 a1_2 a1_3 = some r) (hr_ : r = true := by rfl) :
  Calls Try.prog 84 #[.agg #[.int .i64 a0_0, .int .i64 a0_1, .string a0_2, .int .i64 a0_3], .agg #[.int .i64 a1_0, .int .i64 a1_1, .string a1_2, .int .i64 a1_3]] w fun e w' => e = .returned (.bool r) ∧ Below w.heap.size w w' := by
 have HR_ := am_ hr_; clear hr_; have hu80 := Try.underlying80; have HB := am_ (Below.refl w.heap.size w); have H : (if a0_0 = a1_0 then (if a0_1 = a1_1 then (if a0_2.toList = a1_2.toList then (if a0_3 = a1_3 then (some true) else (some false)) else (some false)) else (some false)) else (some false)) = some r := h; clear h
 by_cases c3 : a0_0 = a1_0
 ·rw [if_pos c3] at H
  have c3b0 := beq_iff_eq.mpr c3; have c3b1 := bne_eq_false_iff_eq.mpr c3; clear c3
  by_cases c4 : a0_1 = a1_1
  ·rw [if_pos c4] at H
   have c4b0 := beq_iff_eq.mpr c4; have c4b1 := bne_eq_false_iff_eq.mpr c4; clear c4
   by_cases c5 : a0_2.toList = a1_2.toList
   ·rw [if_pos c5] at H
    have c5b0 := beq_iff_eq.mpr c5; have c5b1 := bne_eq_false_iff_eq.mpr c5; clear c5
    by_cases c6 : a0_3 = a1_3
    ·rw [if_pos c6] at H
     have c6b0 := beq_iff_eq.mpr c6; have c6b1 := bne_eq_false_iff_eq.mpr c6; clear c6; obtain rfl := Option.some.inj H
     go_enter Try.func84, Try.ntmps84
     go_wp2_with (first | ((with_reducible refine gate_dst (N := 2) rfl ?_); refine boxZ 2 #[.int .i64 a0_0, .int .i64 a0_1, .string a0_2, .int .i64 a0_3] 80 ?_; intro gb979 hg w7 hbox hb; replace BK979 := am_ (hbox); replace GW979 := am_ ((Zc : w.heap.size ≤ gb979)); replace GE979 := GW979; replace HB := (bsZ Zd hb); clear hb hbox hg) | ((with_reducible refine gate_dst (N := 3) rfl ?_); refine boxZ 3 #[.int .i64 a1_0, .int .i64 a1_1, .string a1_2, .int .i64 a1_3] 80 ?_; intro gb980 hg w8 hbox hb; replace BK980 := am_ (hbox); replace GW980 := am_ (((Ze GE979) : w.heap.size ≤ gb980)); replace GE980 := GW980; replace HB := (bsZ (Zf GE979) hb); replace NB979_980 := am_ ((by rw [hg]; exact Nat.ne_of_lt (blk_lt (g := gb979) (b0Z BK979)) : gb979 ≠ gb980)); replace NB980_979 := am_ ((by rw [hg]; exact Nat.ne_of_gt (blk_lt (g := gb979) (b0Z BK979)) : gb980 ≠ gb979)); replace BK979 := (bkZ BK979 hb); clear hb hbox hg; have hnb9 := NB979_980.out; have hnc9 := NB980_979.out; refine ci4 BK979 ?_; intros; refine ci4 BK980 ?_; intros))
     go_ret
     exact ⟨Zj, (Zh GE979 GE980)⟩
    ·rw [if_neg c6] at H
     have c6b0 := beq_eq_false_iff_ne.mpr c6; have c6b1 := bne_iff_ne.mpr c6; exact absurd ((Option.some.inj H).trans HR_.out) (by decide)
   ·rw [if_neg c5] at H
    have c5b0 := beq_eq_false_iff_ne.mpr c5; have c5b1 := bne_iff_ne.mpr c5; exact absurd ((Option.some.inj H).trans HR_.out) (by decide)
  ·rw [if_neg c4] at H
   have c4b0 := beq_eq_false_iff_ne.mpr c4; have c4b1 := bne_iff_ne.mpr c4; exact absurd ((Option.some.inj H).trans HR_.out) (by decide)
 ·rw [if_neg c3] at H
  have c3b0 := beq_eq_false_iff_ne.mpr c3; have c3b1 := bne_iff_ne.mpr c3; exact absurd ((Option.some.inj H).trans HR_.out) (by decide)
 /-! ### laws_eqCueS: function 68 -/
def laws_eqCueS.l0 : Nat → List (S80) → List (S80) → Int → Option (Bool)
 | 0, _, _, _ => none
 | k + 1, x0, x1, x5 => if x5 < (x0.length : Int) then (if 0 ≤ x5 then (if x5 < (x1.length : Int) then ((laws_eqCue.f ((rd_T80 x0 x5).f0) ((rd_T80 x0 x5).f1) ((rd_T80 x0 x5).f2) ((rd_T80 x0 x5).f3) ((rd_T80 x1 x5).f0) ((rd_T80 x1 x5).f1) ((rd_T80 x1 x5).f2) ((rd_T80 x1 x5).f3)).bind fun t983 => (if t983 = true then (laws_eqCueS.l0 k x0 x1 (wrap64 (x5 + 1))) else (some false))) else (none)) else (none)) else (some true)
def laws_eqCueS.f (k : Nat) (l0 : List (S80)) (l1 : List (S80)) : Option (Bool) := if (l0.length : Int) = (l1.length : Int) then (laws_eqCueS.l0 k l0 l1 0) else (some false)
def laws_eqCueS.T6 : Bool × List (List Nat × List Nat) := (true, [([], []), ([], []), ([0, 1], [0, 1]), ([2], [2]), ([], []), ([], []), ([4, 5], [4, 5]), ([6], [6]), ([3, 7], [3, 7]), ([8], [8])])
def laws_eqCueS.B6 : List Nat := [0, 0, 3, 7, 0, 0, 48, 112, 255, 511]
theorem laws_eqCueS.tab6 : rtab .any (opsOf Try.f68 6) = laws_eqCueS.T6 := by kernel_rfl
theorem laws_eqCueS.bits6 : waitsOk laws_eqCueS.T6.2 laws_eqCueS.B6 = true := by kernel_rfl
set_option maxHeartbeats 8000000 in
set_option maxRecDepth 100000 in
theorem laws_eqCueS.calls (k : Nat) (A0 : Option Addr) (c0 : Nat) (l0 : List (S80)) (A1 : Option Addr) (c1 : Nat) (l1 : List (S80)) (r : Bool) (w : World) (hr0 : Kd.C k80 w A0 l0.length l0) (hc0 : l0.length ≤ c0) (hr1 : Kd.C k80 w A1 l1.length l1) (hc1 : l1.length ≤ c1) (h : laws_eqCueS.f k l0 l1 = some r) (hr_ : r = true := by rfl) :
  Calls Try.prog 68 #[.slice A0 l0.length c0, .slice A1 l1.length c1] w fun e w' => e = .returned (.bool r) ∧ Below w.heap.size w w' := by
 have HR_ := am_ hr_; clear hr_; have hu80 := Try.underlying80; have HR0 := am_ hr0; have HC0 := am_ hc0; clear hr0 hc0; have HR1 := am_ hr1; have HC1 := am_ hc1; clear hr1 hc1; have HB := am_ (Below.refl w.heap.size w); have H : (if (l0.length : Int) = (l1.length : Int) then (laws_eqCueS.l0 k l0 l1 0) else (some false)) = some r := h; clear h
 by_cases c3 : (l0.length : Int) = (l1.length : Int)
 ·rw [if_pos c3] at H
  have c3b0 := beq_iff_eq.mpr c3; have c3b1 := bne_eq_false_iff_eq.mpr c3
  have c3b2 : (l0.length == l1.length) = true := by first | simpa using c3 | (simp at c3 ⊢; omega)
  clear c3; have H' := am_ H; clear H
  go_enter Try.func68, Try.ntmps68
  go_wp2
  go_loopg [5] k (fun kq v5 w' => ∃ (x5_1 : Int), v5 = .int .i64 x5_1 ∧ Aside0 (laws_eqCueS.l0 kq l0 l1 x5_1 = some r) ∧ Aside0 (kq ≤ k) ∧ Aside0 (Below w.heap.size w w'))
  case atStart => exact ⟨(0), Za, H', ⟨Nat.le_refl _⟩, ⟨Zd⟩⟩
  case round =>
   clear H'
   try clear c1
   try clear p2
   try clear c3
   try clear c3b0
   try clear c3b1
   try clear c3b2
   obtain ⟨x5_1, rfl, HA, HK1, HB⟩ := hrel
   cases gk with
   | zero => exact absurd HA.out (by simp [laws_eqCueS.l0])
   | succ k1 =>
    have H := HA.out; clear HA; simp only [laws_eqCueS.l0] at H
    by_cases c4 : x5_1 < (l0.length : Int)
    ·rw [if_pos c4] at H
     have c4b0 := decide_eq_true c4; clear c4
     by_cases c5 : 0 ≤ x5_1
     ·rw [if_pos c5] at H
      have c5b0 := decide_eq_true c5; clear c5
      by_cases c6 : x5_1 < (l1.length : Int)
      ·rw [if_pos c6] at H
       have c6b0 := decide_eq_true c6; clear c6; replace H := Option.bind_eq_some_iff.mp H; obtain ⟨t983, A70, H⟩ := H; have A7 := am_ A70; clear A70
       by_cases c8 : t983 = true
       ·subst c8
        rw [if_pos rfl] at H; have H' := am_ H; clear H
        try go_wp2
        replace HB := am_ (below_drew1 HB.out); have p981 : 0 ≤ (x5_1 : Int) := of_decide_eq_true Zn; have q981 : x5_1 < (l0.length : Int) := of_decide_eq_true Zn; obtain ⟨ad981, e981, hx981_0, hx981_1, hx981_2, hx981_3⟩ := at_T80 HR0.out x5_1 p981 q981; have hw981_3 := hx981_3; have hw981_2 := hx981_2; have hw981_1 := hx981_1; have hw981_0 := hx981_0
        cases e981
        replace hx981_0 := cbH HB hx981_0; replace hx981_1 := cbH HB hx981_1; replace hx981_2 := cbH HB hx981_2; replace hx981_3 := cbH HB hx981_3; replace p981 := eq_true p981; replace q981 := eq_true q981; have p982 : 0 ≤ (x5_1 : Int) := of_decide_eq_true Zn; have q982 : x5_1 < (l1.length : Int) := of_decide_eq_true Zn; obtain ⟨ad982, e982, hx982_0, hx982_1, hx982_2, hx982_3⟩ := at_T80 HR1.out x5_1 p982 q982; have hw982_3 := hx982_3; have hw982_2 := hx982_2; have hw982_1 := hx982_1; have hw982_0 := hx982_0
        cases e982
        replace hx982_0 := cbH HB hx982_0; replace hx982_1 := cbH HB hx982_1; replace hx982_2 := cbH HB hx982_2; replace hx982_3 := cbH HB hx982_3; replace p982 := eq_true p982; replace q982 := eq_true q982; refine start_ (n := 10) (S := fun w' => w'.cell? (ad981.add ((x5_1).toNat * 4)) = some (.int .i64 ((rd_T80 l0 x5_1).f0)) ∧ w'.cell? ⟨(ad981.add ((x5_1).toNat * 4)).block, (ad981.add ((x5_1).toNat * 4)).off + 1, none⟩ = some (.int .i64 ((rd_T80 l0 x5_1).f1)) ∧ w'.cell? ⟨(ad981.add ((x5_1).toNat * 4)).block, (ad981.add ((x5_1).toNat * 4)).off + 2, none⟩ = some (.string ((rd_T80 l0 x5_1).f2)) ∧ w'.cell? ⟨(ad981.add ((x5_1).toNat * 4)).block, (ad981.add ((x5_1).toNat * 4)).off + 3, none⟩ = some (.int .i64 ((rd_T80 l0 x5_1).f3)) ∧ w'.cell? (ad982.add ((x5_1).toNat * 4)) = some (.int .i64 ((rd_T80 l1 x5_1).f0)) ∧ w'.cell? ⟨(ad982.add ((x5_1).toNat * 4)).block, (ad982.add ((x5_1).toNat * 4)).off + 1, none⟩ = some (.int .i64 ((rd_T80 l1 x5_1).f1)) ∧ w'.cell? ⟨(ad982.add ((x5_1).toNat * 4)).block, (ad982.add ((x5_1).toNat * 4)).off + 2, none⟩ = some (.string ((rd_T80 l1 x5_1).f2)) ∧ w'.cell? ⟨(ad982.add ((x5_1).toNat * 4)).block, (ad982.add ((x5_1).toNat * 4)).off + 3, none⟩ = some (.int .i64 ((rd_T80 l1 x5_1).f3))) (ds := []) (bT 10 0) Zi rfl rfl ⟨(cbH HB hw981_0 :), (cbH HB hw981_1 :), (cbH HB hw981_2 :), (cbH HB hw981_3 :), (cbH HB hw982_0 :), (cbH HB hw982_1 :), (cbH HB hw982_2 :), (cbH HB hw982_3 :)⟩ (fun hHeld => ?_); refine with_tabW laws_eqCueS.tab6 laws_eqCueS.bits6 (fun HT_ HW_ => ?_); generalize wr.drew = w9 at HB hx981_0 hx981_1 hx981_2 hx981_3 hx982_0 hx982_1 hx982_2 hx982_3 hHeld ⊢; refine pureZ HT_ 0 (some 17) (bT 10 1) ?_; refine pureZ HT_ 1 (some 18) (bT 10 2) ?_; refine pureZ HT_ 2 (some 19) (bT 10 3) ?_; refine pureZ HT_ 4 (some 21) (bB 10 23) ?_; refine pureZ HT_ 5 (some 22) (bB 10 55) ?_; refine pureZ HT_ 6 (some 23) (bB 10 119) ?_; refine takeZ8 HT_ HW_ 3 (some 20) (bT 10 7) hHeld ?_; refine takeZ8 HT_ HW_ 7 (some 24) (bT 10 8) hHeld ?_; refine one_ (i := 8) (N := some 25) (bT 10 9) rfl rfl (one_of HT_.out Zi) (by decide) (fun K hK => ?_); refine goes_ Try.func84 Zi rfl #[.agg #[.int .i64 ((rd_T80 l0 x5_1).f0), .int .i64 ((rd_T80 l0 x5_1).f1), .string ((rd_T80 l0 x5_1).f2), .int .i64 ((rd_T80 l0 x5_1).f3)], .agg #[.int .i64 ((rd_T80 l1 x5_1).f0), .int .i64 ((rd_T80 l1 x5_1).f1), .string ((rd_T80 l1 x5_1).f2), .int .i64 ((rd_T80 l1 x5_1).f3)]] (by rfl) rfl rfl Zr ?_
        with_reducible refine (laws_eqCue.calls ((rd_T80 l0 x5_1).f0) ((rd_T80 l0 x5_1).f1) ((rd_T80 l0 x5_1).f2) ((rd_T80 l0 x5_1).f3) ((rd_T80 l1 x5_1).f0) ((rd_T80 l1 x5_1).f1) ((rd_T80 l1 x5_1).f2) ((rd_T80 l1 x5_1).f3) true _ A7.out).mono ?_
        rintro e w10 ⟨rfl, hb⟩; refine ⟨_, rfl, ?_⟩; replace HB := (bsZ Zd hb)
        (try clear hb)
        (try clear hb2)
        (try clear hk)
        (try clear hi)
        refine hK.out _ _ ⟨(cbH HB hw981_0 :), (cbH HB hw981_1 :), (cbH HB hw981_2 :), (cbH HB hw981_3 :), (cbH HB hw982_0 :), (cbH HB hw982_1 :), (cbH HB hw982_2 :), (cbH HB hw982_3 :)⟩ (fun hHeld => ?_); clear hK K; refine normZ 25 ?_; refine pureZ HT_ 9 (some 26) (bT 10 10) ?_; refine done_ (done_of HT_.out Zi) ?_
        try go_wp2
        go_roundg k1
        case measure => have := HK1.out; omega
        case rel => exact ⟨(wrap64 (x5_1 + 1)), Za, H', ⟨Zs⟩, ⟨Zd⟩⟩
       ·replace c8 := Bool.eq_false_iff.mpr c8
        subst c8; rw [if_neg (show ¬ (false = true) by decide)] at H; exact absurd ((Option.some.inj H).trans HR_.out) (by decide)
      ·rw [if_neg c6] at H
       exact absurd H (by simp)
     ·rw [if_neg c5] at H
      exact absurd H (by simp)
    ·rw [if_neg c4] at H
     have c4b0 := decide_eq_false c4; clear c4; obtain rfl := Option.some.inj H
     go_wp2
     go_ret
     exact ⟨Zj, Zd⟩
 ·rw [if_neg c3] at H
  have c3b0 := beq_eq_false_iff_ne.mpr c3; have c3b1 := bne_iff_ne.mpr c3
  have c3b2 : (l0.length == l1.length) = false := by first | simpa using c3 | (simp at c3 ⊢; omega)
  exact absurd ((Option.some.inj H).trans HR_.out) (by decide)
 /-! ### laws_markCueS: function 39 -/
def laws_markCueS.l0 : Nat → List (S80) → Int → Int → Option (Int × (List (S80)))
 | 0, _, _, _ => none
 | k + 1, x0, x1, x5 => if x5 < (x0.length : Int) then (if 0 ≤ x5 then ((some (x0.set (x5 : Int).toNat (⟨x1, (rd_T80 x0 x5).f1, (rd_T80 x0 x5).f2, (rd_T80 x0 x5).f3⟩ : S80) : List (S80))).bind fun y1014 => ((some (y1014.set (x5 : Int).toNat (⟨(rd_T80 y1014 x5).f0, wrap64 (x1 + 1), (rd_T80 y1014 x5).f2, (rd_T80 y1014 x5).f3⟩ : S80) : List (S80))).bind fun y1015 => ((laws_markText.f k (wrap64 ((wrap64 (x1 + 1)) + 1))).bind fun t1016 => ((some (y1015.set (x5 : Int).toNat (⟨(rd_T80 y1015 x5).f0, (rd_T80 y1015 x5).f1, t1016, (rd_T80 y1015 x5).f3⟩ : S80) : List (S80))).bind fun y1017 => (laws_markCueS.l0 k (y1017.set (x5 : Int).toNat (⟨(rd_T80 y1017 x5).f0, (rd_T80 y1017 x5).f1, (rd_T80 y1017 x5).f2, wrap64 ((wrap64 ((wrap64 (x1 + 1)) + 1)) + 1)⟩ : S80)) (wrap64 ((wrap64 ((wrap64 ((wrap64 (x1 + 1)) + 1)) + 1)) + 1)) (wrap64 (x5 + 1))))))) else (none)) else (some (x1, x0))
def laws_markCueS.f (k : Nat) (l0 : List (S80)) (a1 : Int) : Option (Int × (List (S80))) := laws_markCueS.l0 k l0 a1 0
set_option maxHeartbeats 8000000 in
set_option maxRecDepth 100000 in
theorem laws_markCueS.calls (k : Nat) (P0_ : Nat → Prop) (u9000_ : Value) (l0 : List (S80)) (a1 : Int) (r1 : Int) (r2 : List (S80)) (w0 w : World) (hB : Below w0.heap.size w0 w) (ho0 : Kd.R k80 80 w w0.heap.size P0_ u9000_ l0) (h : laws_markCueS.f k l0 a1 = some (r1, r2)) :
  Calls Try.prog 39 #[u9000_, .int .i64 a1] w fun e w' => e = .returned (.int .i64 r1) ∧ Kd.R k80 80 w' w0.heap.size (fun k_ => (P0_ k_ ∨ w.heap.size ≤ k_)) u9000_ r2 ∧ Below w0.heap.size w0 w' ∧ Kept w w' (fun k_ => P0_ k_) := by
 have HO0 := am_ (show Kd.R k80 80 w w0.heap.size (fun k_ => (P0_ k_ ∨ w.heap.size ≤ k_)) u9000_ l0 from Kd.R_mono ho0 (fun k_ hk => (.inl hk))); have HK := am_ (Kept.refl w (fun k_ => P0_ k_)); have HW0 := am_ hB.size; have HB := am_ hB; clear hB; have H : (laws_markCueS.l0 k l0 a1 0) = some (r1, r2) := h; clear h; have H' := am_ H; clear H
 go_enter Try.func39, Try.ntmps39
 go_wp2
 go_loopg [1, 5] k (fun kq v1 v5 w' => ∃ (x0_1 : List (S80)) (x1_1 : Int) (x5_1 : Int), v1 = .int .i64 x1_1 ∧ v5 = .int .i64 x5_1 ∧ Aside0 (laws_markCueS.l0 kq x0_1 x1_1 x5_1 = some (r1, r2)) ∧ Aside0 (kq ≤ k) ∧ Aside0 (Kd.R k80 80 w' w0.heap.size (fun k_ => (P0_ k_ ∨ w.heap.size ≤ k_)) u9000_ x0_1) ∧ Aside0 (Kept w w' (fun k_ => P0_ k_)) ∧ Aside0 (Below w0.heap.size w0 w'))
 case atStart => exact ⟨(l0), (a1), (0), Za, Za, H', ⟨Nat.le_refl _⟩, ⟨(Zo HO0)⟩, ⟨Zt⟩, ⟨Zd⟩⟩
 case round =>
  clear H'
  try clear p2
  obtain ⟨x0_1, x1_1, x5_1, rfl, rfl, HA, HK1, HO_0, HK, HB⟩ := hrel
  cases gk with
  | zero => exact absurd HA.out (by simp [laws_markCueS.l0])
  | succ k1 =>
   have H := HA.out; clear HA; simp only [laws_markCueS.l0] at H
   by_cases c3 : x5_1 < (x0_1.length : Int)
   ·rw [if_pos c3] at H
    have c3b0 := decide_eq_true c3; clear c3
    by_cases c4 : 0 ≤ x5_1
    ·rw [if_pos c4] at H
     have c4b0 := decide_eq_true c4; clear c4; obtain ⟨y1014, hy1014⟩ : ∃ y_ : List (S80), y_ = (x0_1.set (x5_1 : Int).toNat (⟨x1_1, (rd_T80 x0_1 x5_1).f1, (rd_T80 x0_1 x5_1).f2, (rd_T80 x0_1 x5_1).f3⟩ : S80)) := ⟨_, rfl⟩
     (first | (rw [← hy1014] at H; with_reducible replace H := bindZ H) | rw [← hy1014] at H | skip)
     have Ny1014 := am_ hy1014; clear hy1014; obtain ⟨y1015, hy1015⟩ : ∃ y_ : List (S80), y_ = (y1014.set (x5_1 : Int).toNat (⟨(rd_T80 y1014 x5_1).f0, wrap64 (x1_1 + 1), (rd_T80 y1014 x5_1).f2, (rd_T80 y1014 x5_1).f3⟩ : S80)) := ⟨_, rfl⟩
     (first | (rw [← hy1015] at H; with_reducible replace H := bindZ H) | rw [← hy1015] at H | skip)
     have Ny1015 := am_ hy1015; clear hy1015; replace H := Option.bind_eq_some_iff.mp H; obtain ⟨t1016, A70, H⟩ := H; have A7 := am_ A70; clear A70; obtain ⟨y1017, hy1017⟩ : ∃ y_ : List (S80), y_ = (y1015.set (x5_1 : Int).toNat (⟨(rd_T80 y1015 x5_1).f0, (rd_T80 y1015 x5_1).f1, t1016, (rd_T80 y1015 x5_1).f3⟩ : S80)) := ⟨_, rfl⟩
     (first | (rw [← hy1017] at H; with_reducible replace H := bindZ H) | rw [← hy1017] at H | skip)
     have Ny1017 := am_ hy1017; clear hy1017; obtain ⟨y1018, hy1018⟩ : ∃ y_ : List (S80), y_ = (y1017.set (x5_1 : Int).toNat (⟨(rd_T80 y1017 x5_1).f0, (rd_T80 y1017 x5_1).f1, (rd_T80 y1017 x5_1).f2, wrap64 ((wrap64 ((wrap64 (x1_1 + 1)) + 1)) + 1)⟩ : S80)) := ⟨_, rfl⟩
     (first | (rw [← hy1018] at H; with_reducible replace H := bindZ H) | rw [← hy1018] at H | skip)
     have Ny1018 := am_ hy1018; clear hy1018; have H' := am_ H; clear H; obtain ⟨Ao10, co10, eo10⟩ := Kd.R_slice HO_0.out; subst eo10; have p5 : 0 ≤ (x5_1 : Int) := of_decide_eq_true Zn; have q5 : (x5_1 : Int) < ((x0_1.length : Int) : Int) := of_decide_eq_true Zn; obtain ⟨go5, co5, eo5, gb5, gl5, cl5, HG5⟩ := Kd.R_form HO_0.out (by omega)
     (first | cases eo5 | (injection eo5 with ea_ en_ ec_; (first | subst ea_ | (injection ea_ with ea_; subst ea_)); subst ec_; clear en_))
     have GB5 := am_ gb5; have GG5 := am_ HG5; clear gb5 gl5 HG5; have HMgo5 := am_ (show (P0_ go5 ∨ w.heap.size ≤ go5) from (HO_0.out.1 _ rfl)); obtain ⟨ce5, hcl5, hM5, hcc5, hfr5⟩ := Kd.R_elem HO_0.out z80 (x5_1 : Int) p5 q5; obtain rfl := k80_openM hM5; have hx5_0 : wr.cell? ⟨go5, (x5_1 : Int).toNat * 4, none⟩ = some (.int .i64 ((rd_T80 x0_1 x5_1).f0)) := hcc5 0 _ rfl; have hx5_1 : wr.cell? ⟨go5, (x5_1 : Int).toNat * 4 + 1, none⟩ = some (.int .i64 ((rd_T80 x0_1 x5_1).f1)) := hcc5 1 _ rfl; have hx5_2 : wr.cell? ⟨go5, (x5_1 : Int).toNat * 4 + 2, none⟩ = some (.string ((rd_T80 x0_1 x5_1).f2)) := hcc5 2 _ rfl; have hx5_3 : wr.cell? ⟨go5, (x5_1 : Int).toNat * 4 + 3, none⟩ = some (.int .i64 ((rd_T80 x0_1 x5_1).f3)) := hcc5 3 _ rfl; have hf5_0 : wr.frozen? ⟨go5, (x5_1 : Int).toNat * 4, none⟩ = false := hfr5 0; have hf5_1 := hfr5 1; have hf5_2 := hfr5 2; have hf5_3 := hfr5 3; clear hcl5 hcc5 hfr5 hM5; replace p5 := eq_true p5; replace q5 := eq_true q5; have HX11 := am_ (show Kd.R k80 80 wr w0.heap.size (fun k_ => (P0_ k_ ∨ w.heap.size ≤ k_)) (.slice (some ⟨go5, 0, none⟩) x0_1.length co10) x0_1 from (Zo HO_0)); obtain ⟨ce11, hcl11, hM11, hcc11, hfr11⟩ := Kd.R_elem HX11.out z80 (x5_1 : Int) (of_decide_eq_true Zn) (by have h_ : (x5_1 : Int) < ((x0_1.length : Int) : Int) := of_decide_eq_true Zn; first | exact h_ | (have e_ := (Kd.R_reads' HO_0.out).1; omega) | simpa using h_); obtain rfl := k80_openM hM11; have HP11 := Kd.R_seg HX11.out (x5_1 : Int) (of_decide_eq_true Zn) (by have h_ : (x5_1 : Int) < ((x0_1.length : Int) : Int) := of_decide_eq_true Zn; first | exact h_ | (have e_ := (Kd.R_reads' HO_0.out).1; omega) | simpa using h_) (seg := [.int .i64 x1_1]) (j := 0) hcl11 hcc11 (show 1 ≤ 4 from (by decide)) (x' := (⟨x1_1, (rd_T80 x0_1 x5_1).f1, (rd_T80 x0_1 x5_1).f2, (rd_T80 x0_1 x5_1).f3⟩ : S80)) (k80_mkM _ _ _ (⟨x1_1, (rd_T80 x0_1 x5_1).f1, (rd_T80 x0_1 x5_1).f2, (rd_T80 x0_1 x5_1).f3⟩ : S80) ) (fun _ hk => hk); have hx11_0 := hcc11 0 _ rfl
     (try simp only [show (k80).sz = 4 from rfl, Nat.mul_one, Nat.add_zero] at hx11_0)
     have hf11_0 := hfr11 0
     (try simp only [show (k80).sz = 4 from rfl, Nat.mul_one, Nat.add_zero] at hf11_0)
     clear hcl11 hcc11 hfr11 hM11
     go_wp2_with (first | ((with_reducible refine gate_store (t := 2) (p := 16) rfl ?_); refine store_event (t := 2) (p := 16) (v := ?vo_w12) (w1 := (wr.setCell ⟨go5, (x5_1 : Int).toNat * 4, none⟩ (.int .i64 x1_1))) ?hg ?ho ?hn ?hr ?_; (case ho => rfl); (case hg => rfl); (case hn => rfl); (case hr => first | (go_simp; done) | (go_simp; rfl)); intro w12 hw; have hg : wr.grownBy w12 (some go5) := (by rw [hw]; exact HP11.2); have hp_ : Kd.R k80 80 w12 w0.heap.size (fun k_ => (P0_ k_ ∨ w.heap.size ≤ k_)) (.slice (some ⟨go5, 0, none⟩) x0_1.length co10) y1014 := (by rw [hw, Ny1014.out]; exact HP11.1); clear HP11; replace HB := am_ (((Zu GB5) : Below w0.heap.size w0 w12)); replace HK := am_ (Kept.of_grown (S := (fun k_ => P0_ k_)) hg Zt (fun k_ e_ => (HO_0.out.1 k_ e_))); replace HO_0 := am_ (hp_); clear hg hw hp_; have p6 : 0 ≤ (x5_1 : Int) := of_decide_eq_true Zn; have q6 : (x5_1 : Int) < ((x0_1.length : Int) : Int) := of_decide_eq_true Zn; obtain ⟨ce6, hcl6, hM6, hcc6, hfr6⟩ := Kd.R_elem HO_0.out z80 (x5_1 : Int) p6 q6; obtain rfl := k80_openM hM6; have hx6_0 : w12.cell? ⟨go5, (x5_1 : Int).toNat * 4, none⟩ = some (.int .i64 ((rd_T80 y1014 x5_1).f0)) := hcc6 0 _ rfl; have hx6_1 : w12.cell? ⟨go5, (x5_1 : Int).toNat * 4 + 1, none⟩ = some (.int .i64 ((rd_T80 y1014 x5_1).f1)) := hcc6 1 _ rfl; have hx6_2 : w12.cell? ⟨go5, (x5_1 : Int).toNat * 4 + 2, none⟩ = some (.string ((rd_T80 y1014 x5_1).f2)) := hcc6 2 _ rfl; have hx6_3 : w12.cell? ⟨go5, (x5_1 : Int).toNat * 4 + 3, none⟩ = some (.int .i64 ((rd_T80 y1014 x5_1).f3)) := hcc6 3 _ rfl; have hf6_0 : w12.frozen? ⟨go5, (x5_1 : Int).toNat * 4, none⟩ = false := hfr6 0; have hf6_1 := hfr6 1; have hf6_2 := hfr6 2; have hf6_3 := hfr6 3; clear hcl6 hcc6 hfr6 hM6; replace p6 := eq_true p6; replace q6 := eq_true q6; have HX13 := am_ (show Kd.R k80 80 w12 w0.heap.size (fun k_ => (P0_ k_ ∨ w.heap.size ≤ k_)) (.slice (some ⟨go5, 0, none⟩) x0_1.length co10) y1014 from (Zo HO_0)); obtain ⟨ce13, hcl13, hM13, hcc13, hfr13⟩ := Kd.R_elem HX13.out z80 (x5_1 : Int) (of_decide_eq_true Zn) (by have h_ : (x5_1 : Int) < ((x0_1.length : Int) : Int) := of_decide_eq_true Zn; first | exact h_ | (have e_ := (Kd.R_reads' HO_0.out).1; omega) | simpa using h_); obtain rfl := k80_openM hM13; have HP13 := Kd.R_seg HX13.out (x5_1 : Int) (of_decide_eq_true Zn) (by have h_ : (x5_1 : Int) < ((x0_1.length : Int) : Int) := of_decide_eq_true Zn; first | exact h_ | (have e_ := (Kd.R_reads' HO_0.out).1; omega) | simpa using h_) (seg := [.int .i64 (wrap64 (x1_1 + 1))]) (j := 1) hcl13 hcc13 (show 2 ≤ 4 from (by decide)) (x' := (⟨(rd_T80 y1014 x5_1).f0, wrap64 (x1_1 + 1), (rd_T80 y1014 x5_1).f2, (rd_T80 y1014 x5_1).f3⟩ : S80)) (k80_mkM _ _ _ (⟨(rd_T80 y1014 x5_1).f0, wrap64 (x1_1 + 1), (rd_T80 y1014 x5_1).f2, (rd_T80 y1014 x5_1).f3⟩ : S80) ) (fun _ hk => hk); have hx13_1 := hcc13 1 _ rfl; (try simp only [show (k80).sz = 4 from rfl, Nat.mul_one, Nat.add_zero] at hx13_1); have hf13_1 := hfr13 1; (try simp only [show (k80).sz = 4 from rfl, Nat.mul_one, Nat.add_zero] at hf13_1); clear hcl13 hcc13 hfr13 hM13) | ((with_reducible refine gate_store (t := 2) (p := 23) rfl ?_); refine store_event (t := 2) (p := 23) (v := ?vo_w14) (w1 := (w12.setCell ⟨go5, (x5_1 : Int).toNat * 4 + 1, none⟩ (.int .i64 (wrap64 (x1_1 + 1))))) ?hg ?ho ?hn ?hr ?_; (case ho => rfl); (case hg => rfl); (case hn => rfl); (case hr => first | (go_simp; done) | (go_simp; rfl)); intro w14 hw; have hg : w12.grownBy w14 (some go5) := (by rw [hw]; exact HP13.2); have hp_ : Kd.R k80 80 w14 w0.heap.size (fun k_ => (P0_ k_ ∨ w.heap.size ≤ k_)) (.slice (some ⟨go5, 0, none⟩) x0_1.length co10) y1015 := (by rw [hw, Ny1015.out]; exact HP13.1); clear HP13; replace HB := am_ (((Zu GB5) : Below w0.heap.size w0 w14)); replace HK := am_ (Kept.of_grown (S := (fun k_ => P0_ k_)) hg Zt (fun k_ e_ => (HO_0.out.1 k_ e_))); replace HO_0 := am_ (hp_); clear hg hw hp_) | ((with_reducible refine gate_callee (f := 69) rfl ?_); refine gZ 29 Try.func69 #[.int .i64 (wrap64 ((wrap64 (x1_1 + 1)) + 1))] ?_; (with_reducible refine (laws_markText.calls k1 (wrap64 ((wrap64 (x1_1 + 1)) + 1)) t1016 _ A7.out).mono ?_); rintro e w15 ⟨rfl, hb⟩; refine ⟨_, rfl, ?_⟩; replace HO_0 := (hbZ HO_0 hb); replace HK := am_ (Kept.below (S := (fun k_ => P0_ k_)) Zt hb); replace HB := (bsZ Zd hb); clear hb; have p8 : 0 ≤ (x5_1 : Int) := of_decide_eq_true Zn; have q8 : (x5_1 : Int) < ((x0_1.length : Int) : Int) := of_decide_eq_true Zn; obtain ⟨ce8, hcl8, hM8, hcc8, hfr8⟩ := Kd.R_elem HO_0.out z80 (x5_1 : Int) p8 q8; obtain rfl := k80_openM hM8; have hx8_0 : w15.cell? ⟨go5, (x5_1 : Int).toNat * 4, none⟩ = some (.int .i64 ((rd_T80 y1015 x5_1).f0)) := hcc8 0 _ rfl; have hx8_1 : w15.cell? ⟨go5, (x5_1 : Int).toNat * 4 + 1, none⟩ = some (.int .i64 ((rd_T80 y1015 x5_1).f1)) := hcc8 1 _ rfl; have hx8_2 : w15.cell? ⟨go5, (x5_1 : Int).toNat * 4 + 2, none⟩ = some (.string ((rd_T80 y1015 x5_1).f2)) := hcc8 2 _ rfl; have hx8_3 : w15.cell? ⟨go5, (x5_1 : Int).toNat * 4 + 3, none⟩ = some (.int .i64 ((rd_T80 y1015 x5_1).f3)) := hcc8 3 _ rfl; have hf8_0 : w15.frozen? ⟨go5, (x5_1 : Int).toNat * 4, none⟩ = false := hfr8 0; have hf8_1 := hfr8 1; have hf8_2 := hfr8 2; have hf8_3 := hfr8 3; clear hcl8 hcc8 hfr8 hM8; replace p8 := eq_true p8; replace q8 := eq_true q8; have HX16 := am_ (show Kd.R k80 80 w15 w0.heap.size (fun k_ => (P0_ k_ ∨ w.heap.size ≤ k_)) (.slice (some ⟨go5, 0, none⟩) x0_1.length co10) y1015 from (Zo HO_0)); obtain ⟨ce16, hcl16, hM16, hcc16, hfr16⟩ := Kd.R_elem HX16.out z80 (x5_1 : Int) (of_decide_eq_true Zn) (by have h_ : (x5_1 : Int) < ((x0_1.length : Int) : Int) := of_decide_eq_true Zn; first | exact h_ | (have e_ := (Kd.R_reads' HO_0.out).1; omega) | simpa using h_); obtain rfl := k80_openM hM16; have HP16 := Kd.R_seg HX16.out (x5_1 : Int) (of_decide_eq_true Zn) (by have h_ : (x5_1 : Int) < ((x0_1.length : Int) : Int) := of_decide_eq_true Zn; first | exact h_ | (have e_ := (Kd.R_reads' HO_0.out).1; omega) | simpa using h_) (seg := [.string t1016]) (j := 2) hcl16 hcc16 (show 3 ≤ 4 from (by decide)) (x' := (⟨(rd_T80 y1015 x5_1).f0, (rd_T80 y1015 x5_1).f1, t1016, (rd_T80 y1015 x5_1).f3⟩ : S80)) (k80_mkM _ _ _ (⟨(rd_T80 y1015 x5_1).f0, (rd_T80 y1015 x5_1).f1, t1016, (rd_T80 y1015 x5_1).f3⟩ : S80) ) (fun _ hk => hk); have hx16_2 := hcc16 2 _ rfl; (try simp only [show (k80).sz = 4 from rfl, Nat.mul_one, Nat.add_zero] at hx16_2); have hf16_2 := hfr16 2; (try simp only [show (k80).sz = 4 from rfl, Nat.mul_one, Nat.add_zero] at hf16_2); clear hcl16 hcc16 hfr16 hM16) | ((with_reducible refine gate_store (t := 9) (p := 31) rfl ?_); refine store_event (t := 9) (p := 31) (v := ?vo_w17) (w1 := (w15.setCell ⟨go5, (x5_1 : Int).toNat * 4 + 2, none⟩ (.string t1016))) ?hg ?ho ?hn ?hr ?_; (case ho => rfl); (case hg => rfl); (case hn => rfl); (case hr => first | (go_simp; done) | (go_simp; rfl)); intro w17 hw; have hg : w15.grownBy w17 (some go5) := (by rw [hw]; exact HP16.2); have hp_ : Kd.R k80 80 w17 w0.heap.size (fun k_ => (P0_ k_ ∨ w.heap.size ≤ k_)) (.slice (some ⟨go5, 0, none⟩) x0_1.length co10) y1017 := (by rw [hw, Ny1017.out]; exact HP16.1); clear HP16; replace HB := am_ (((Zu GB5) : Below w0.heap.size w0 w17)); replace HK := am_ (Kept.of_grown (S := (fun k_ => P0_ k_)) hg Zt (fun k_ e_ => (HO_0.out.1 k_ e_))); replace HO_0 := am_ (hp_); clear hg hw hp_; have p9 : 0 ≤ (x5_1 : Int) := of_decide_eq_true Zn; have q9 : (x5_1 : Int) < ((x0_1.length : Int) : Int) := of_decide_eq_true Zn; obtain ⟨ce9, hcl9, hM9, hcc9, hfr9⟩ := Kd.R_elem HO_0.out z80 (x5_1 : Int) p9 q9; obtain rfl := k80_openM hM9; have hx9_0 : w17.cell? ⟨go5, (x5_1 : Int).toNat * 4, none⟩ = some (.int .i64 ((rd_T80 y1017 x5_1).f0)) := hcc9 0 _ rfl; have hx9_1 : w17.cell? ⟨go5, (x5_1 : Int).toNat * 4 + 1, none⟩ = some (.int .i64 ((rd_T80 y1017 x5_1).f1)) := hcc9 1 _ rfl; have hx9_2 : w17.cell? ⟨go5, (x5_1 : Int).toNat * 4 + 2, none⟩ = some (.string ((rd_T80 y1017 x5_1).f2)) := hcc9 2 _ rfl; have hx9_3 : w17.cell? ⟨go5, (x5_1 : Int).toNat * 4 + 3, none⟩ = some (.int .i64 ((rd_T80 y1017 x5_1).f3)) := hcc9 3 _ rfl; have hf9_0 : w17.frozen? ⟨go5, (x5_1 : Int).toNat * 4, none⟩ = false := hfr9 0; have hf9_1 := hfr9 1; have hf9_2 := hfr9 2; have hf9_3 := hfr9 3; clear hcl9 hcc9 hfr9 hM9; replace p9 := eq_true p9; replace q9 := eq_true q9; have HX18 := am_ (show Kd.R k80 80 w17 w0.heap.size (fun k_ => (P0_ k_ ∨ w.heap.size ≤ k_)) (.slice (some ⟨go5, 0, none⟩) x0_1.length co10) y1017 from (Zo HO_0)); obtain ⟨ce18, hcl18, hM18, hcc18, hfr18⟩ := Kd.R_elem HX18.out z80 (x5_1 : Int) (of_decide_eq_true Zn) (by have h_ : (x5_1 : Int) < ((x0_1.length : Int) : Int) := of_decide_eq_true Zn; first | exact h_ | (have e_ := (Kd.R_reads' HO_0.out).1; omega) | simpa using h_); obtain rfl := k80_openM hM18; have HP18 := Kd.R_seg HX18.out (x5_1 : Int) (of_decide_eq_true Zn) (by have h_ : (x5_1 : Int) < ((x0_1.length : Int) : Int) := of_decide_eq_true Zn; first | exact h_ | (have e_ := (Kd.R_reads' HO_0.out).1; omega) | simpa using h_) (seg := [.int .i64 (wrap64 ((wrap64 ((wrap64 (x1_1 + 1)) + 1)) + 1))]) (j := 3) hcl18 hcc18 (show 4 ≤ 4 from (by decide)) (x' := (⟨(rd_T80 y1017 x5_1).f0, (rd_T80 y1017 x5_1).f1, (rd_T80 y1017 x5_1).f2, wrap64 ((wrap64 ((wrap64 (x1_1 + 1)) + 1)) + 1)⟩ : S80)) (k80_mkM _ _ _ (⟨(rd_T80 y1017 x5_1).f0, (rd_T80 y1017 x5_1).f1, (rd_T80 y1017 x5_1).f2, wrap64 ((wrap64 ((wrap64 (x1_1 + 1)) + 1)) + 1)⟩ : S80) ) (fun _ hk => hk); have hx18_3 := hcc18 3 _ rfl; (try simp only [show (k80).sz = 4 from rfl, Nat.mul_one, Nat.add_zero] at hx18_3); have hf18_3 := hfr18 3; (try simp only [show (k80).sz = 4 from rfl, Nat.mul_one, Nat.add_zero] at hf18_3); clear hcl18 hcc18 hfr18 hM18) | ((with_reducible refine gate_store (t := 2) (p := 38) rfl ?_); refine store_event (t := 2) (p := 38) (v := ?vo_w19) (w1 := (w17.setCell ⟨go5, (x5_1 : Int).toNat * 4 + 3, none⟩ (.int .i64 (wrap64 ((wrap64 ((wrap64 (x1_1 + 1)) + 1)) + 1))))) ?hg ?ho ?hn ?hr ?_; (case ho => rfl); (case hg => rfl); (case hn => rfl); (case hr => first | (go_simp; done) | (go_simp; rfl)); intro w19 hw; have hg : w17.grownBy w19 (some go5) := (by rw [hw]; exact HP18.2); have hp_ : Kd.R k80 80 w19 w0.heap.size (fun k_ => (P0_ k_ ∨ w.heap.size ≤ k_)) (.slice (some ⟨go5, 0, none⟩) x0_1.length co10) y1018 := (by rw [hw, Ny1018.out]; exact HP18.1); clear HP18; replace HB := am_ (((Zu GB5) : Below w0.heap.size w0 w19)); replace HK := am_ (Kept.of_grown (S := (fun k_ => P0_ k_)) hg Zt (fun k_ e_ => (HO_0.out.1 k_ e_))); replace HO_0 := am_ (hp_); clear hg hw hp_))
     go_roundg k1
     case measure => have := HK1.out; omega
     case rel => exact ⟨(y1018), (wrap64 ((wrap64 ((wrap64 ((wrap64 (x1_1 + 1)) + 1)) + 1)) + 1)), (wrap64 (x5_1 + 1)), Za, Za, H', ⟨Zs⟩, ⟨(Zo HO_0)⟩, ⟨Zt⟩, ⟨Zd⟩⟩
    ·rw [if_neg c4] at H
     exact absurd H (by simp)
   ·rw [if_neg c3] at H
    have c3b0 := decide_eq_false c3; clear c3; simp only [Option.some.injEq, Prod.mk.injEq] at H; obtain ⟨rfl, rfl⟩ := H; obtain ⟨Ao20, co20, eo20⟩ := Kd.R_slice HO_0.out; subst eo20
    go_wp2
    go_ret
    exact ⟨Zj, (Zo HO_0), Zd, Zt⟩
end Go.Proofs.Ytnifblnlpepehaa.F
namespace Go.Proofs.Ytnifblnlpepehaa.F
open Go.RowKit Go.Proofs.YtnifblnlpepehaaW.PrintWords Go.Proofs.YtnifblnlpepehaaW.PrintLast Go.Proofs.YtnifblnlpepehaaW.PrintMore
set_option linter.unusedVariables false
set_option linter.unusedSimpArgs false
attribute [local go_sem] max2_int min2_int max_two min_two max_three min_three max_four min_four
 mutual
def full_toCueS.j0 : Nat → List (S77) → Bool → Option ((List (S80)))
 | 0, _, _ => none
 | k + 1, x0, x13 => if x13 = true then (some ([] : List (S80))) else ((laws_roomBehind.f (x0.length : Int)).bind fun t914 => (if 0 ≤ (wrap64 ((x0.length : Int) + t914)) then (if (wrap64 ((x0.length : Int) + t914) : Int).toNat ≤ 7036874417766 then (full_toCueS.l0 k x0 (List.replicate (wrap64 ((x0.length : Int) + t914) : Int).toNat z80) 0) else (none)) else (none)))
def full_toCueS.l0 : Nat → List (S77) → List (S80) → Int → Option ((List (S80)))
 | 0, _, _, _ => none
 | k + 1, x0, x5, x6 => if x6 < (x0.length : Int) then (if 0 ≤ x6 then ((laws_toCue.f ((rd_T77 x0 x6).f0) ((rd_T77 x0 x6).f1) ((rd_T77 x0 x6).f2) ((rd_T77 x0 x6).f3)).bind fun bt919 => (if x6 < (x5.length : Int) then (full_toCueS.l0 k x0 (x5.set (x6 : Int).toNat (⟨bt919.1, bt919.2.1, bt919.2.2.1, bt919.2.2.2⟩ : S80)) (wrap64 (x6 + 1))) else (none))) else (none)) else (full_toCueS.l1 k x0 x5 (x0.length : Int))
def full_toCueS.l1 : Nat → List (S77) → List (S80) → Int → Option ((List (S80)))
 | 0, _, _, _ => none
 | k + 1, x0, x5, x7 => if x7 < (x5.length : Int) then ((laws_fillerCue.f).bind fun bt924 => (if 0 ≤ x7 then (full_toCueS.l1 k x0 (x5.set (x7 : Int).toNat (⟨bt924.1, bt924.2.1, bt924.2.2.1, bt924.2.2.2⟩ : S80)) (wrap64 (x7 + 1))) else (none))) else (if 0 ≤ (x0.length : Int) then (if (x0.length : Int) ≤ (x5.length : Int) then (some x5) else (none)) else (none))
end
def full_toCueS.f (k : Nat) (l0 : List (S77)) (a1 : Bool) : Option ((List (S80))) := if a1 = true then (full_toCueS.j0 k l0 ((l0.length : Int) == 0)) else (full_toCueS.j0 k l0 false)
set_option maxHeartbeats 8000000 in
set_option maxRecDepth 100000 in
theorem full_toCueS.calls (k : Nat) (A0 : Option Addr) (c0 : Nat) (l0 : List (S77)) (a1 : Bool) (r : List (S80)) (w : World) (hr0 : Kd.C k77 w A0 l0.length l0) (hc0 : l0.length ≤ c0) (h : full_toCueS.f k l0 a1 = some r) :
  Calls Try.prog 29 #[.slice A0 l0.length c0, .bool a1] w fun e w' => ∃ v0_ : Value, e = .returned (v0_) ∧ Full k80 80 w' w.heap.size l0.length v0_ r ∧ Below w.heap.size w w' := by
 have hu77 := Try.underlying77; have hu80 := Try.underlying80; have HR0 := am_ hr0; have HC0 := am_ hc0; clear hr0 hc0; have HB := am_ (Below.refl w.heap.size w); have H : (if a1 = true then (full_toCueS.j0 k l0 ((l0.length : Int) == 0)) else (full_toCueS.j0 k l0 false)) = some r := h; clear h; have HC3 := am_ H; clear H
 go_enter Try.func29, Try.ntmps29
 go_upto_region 1 with (fail)
 go_cut [13] (fun v13 wc => ∃ (kq : Nat) (x13_2 : Bool), v13 = .bool x13_2 ∧ Aside0 (full_toCueS.j0 kq l0 x13_2 = some r) ∧ Aside0 (kq ≤ k) ∧ Aside0 (Below w.heap.size w wc))
 case first =>
  have H := HC3.out; clear HC3
  by_cases c4 : a1 = true
  ·subst c4
   rw [if_pos rfl] at H; have H' := am_ H; clear H
   go_wp2
   go_meet
   case rel => exact ⟨_, (((l0.length : Int) == 0)), Za, H', ⟨Zl⟩, ⟨Zd⟩⟩
  ·replace c4 := Bool.eq_false_iff.mpr c4
   subst c4; rw [if_neg (show ¬ (false = true) by decide)] at H; have H' := am_ H; clear H
   go_wp2
   go_meet
   case rel => exact ⟨_, (false), Za, H', ⟨Zl⟩, ⟨Zd⟩⟩
 case rest =>
  clear HC3
  try clear c2
  try clear p2
  try clear c4
  obtain ⟨kq, x13_2, rfl, HA, HJ2, HB⟩ := hcut
  cases kq with
  | zero => exact absurd HA.out (by simp [full_toCueS.j0])
  | succ kj2 =>
   have H := HA.out; clear HA; simp only [full_toCueS.j0] at H
   by_cases c5 : x13_2 = true
   ·subst c5
    rw [if_pos rfl] at H; obtain rfl := Option.some.inj H
    go_wp2
    go_ret
    exact ⟨_, Zj, fun h_ => absurd rfl h_, Zd⟩
   ·replace c5 := Bool.eq_false_iff.mpr c5
    subst c5; rw [if_neg (show ¬ (false = true) by decide)] at H; replace H := Option.bind_eq_some_iff.mp H; obtain ⟨t914, A60, H⟩ := H; have A6 := am_ A60; clear A60; obtain ⟨ji7, hji7⟩ : ∃ j_ : Int, (wrap64 ((l0.length : Int) + t914)) = j_ := ⟨_, rfl⟩
    replace H : (if 0 ≤ (ji7) then (if (ji7 : Int).toNat ≤ 7036874417766 then (full_toCueS.l0 kj2 l0 (List.replicate (ji7 : Int).toNat z80) 0) else (none)) else (none)) = some r := by first | (rw [hji7] at H; exact H) | (simp only [hji7] at H ⊢; exact H)
    (try rw [hji7] at A6)
    have hji7w : (IntKind.i64.wrap ((l0.length : Int) + t914)) = ji7 := (i64_w _).trans hji7
    by_cases c8 : 0 ≤ (ji7)
    ·rw [if_pos c8] at H
     have c8b0 := eq_true c8; have c8b1 := decide_eq_true c8; clear c8
     by_cases c9 : (ji7 : Int).toNat ≤ 7036874417766
     ·rw [if_pos c9] at H
      have c9b0 := eq_true c9; have c9b1 := decide_eq_true c9; clear c9; obtain ⟨y915, hy915⟩ : ∃ y_ : List (S80), y_ = (List.replicate (ji7 : Int).toNat z80) := ⟨_, rfl⟩
      (first | (rw [← hy915] at H; with_reducible replace H := bindZ H) | rw [← hy915] at H | skip)
      have Ny915 := am_ hy915; clear hy915; have H' := am_ H; clear H
      go_wp2_with (first | ((with_reducible refine gate_callee (f := 55) rfl ?_); refine gZ 18 Try.func55 #[.int .i64 (l0.length : Int)] ?_; (with_reducible refine (laws_roomBehind.calls (l0.length : Int) t914 _ A6.out).mono ?_); rintro e w' ⟨rfl, ⟨nd, rfl⟩⟩; refine ⟨_, rfl, ?_⟩) | ((with_reducible refine gate_dst (N := 20) rfl ?_); (try (refine gate_guard (by rfl) ?_; dsimp only)); refine Kd.R_make k80 _ 80 rfl (N := 20) rfl 33 _ _ rfl ji7 rfl rfl Try.underlying33 (.agg #[(.int .i64 0), (.int .i64 0), (.string ⟨#[]⟩), (.int .i64 0)]) 40 info80 rfl (by decide) (by omega) z80 (ok := fun _ => True) (okp := fun _ => True) (k80_mkM _ _ _ z80 ) (fun _ hk => hk) trivial (of_decide_eq_true Zn) (Nat.le_trans (Nat.mul_le_mul_right _ (of_decide_eq_true Zn : ji7.toNat ≤ 7036874417766)) (by omega)) (Below.refl _ _) (Nat.le_refl _) ?_; intro v916 w10 ho11 hb hg_ hnew_; clear hg_ hnew_; (first | rw [← Ny915.out] at ho11 | (simp only [Int.reduceToNat] at ho11; rw [← Ny915.out] at ho11)); replace HO917 := am_ (Kd.R_lower ho11 (below_size Zd)); replace HB := (bsZ Zd hb); clear hb ho11))
      go_loopg [6] kj2 (fun kq v6 w' => ∃ (x5_2 : List (S80)) (x6_2 : Int), v6 = .int .i64 x6_2 ∧ Aside0 (full_toCueS.l0 kq l0 x5_2 x6_2 = some r) ∧ Aside0 (kq ≤ kj2) ∧ Aside0 (Kd.R k80 80 w' w.heap.size (fun _ => True) v916 x5_2) ∧ Aside0 (Below w.heap.size w w'))
      case atStart => exact ⟨(y915), (0), Za, H', ⟨Nat.le_refl _⟩, ⟨(Zo HO917)⟩, ⟨Zd⟩⟩
      case round =>
       clear H'
       try clear c2
       try clear p2
       try clear c4
       try clear c5
       try clear p6
       try clear c8
       try clear c8b0
       try clear c8b1
       try clear c9
       try clear c9b0
       try clear c9b1
       try clear p2
       obtain ⟨x5_2, x6_2, rfl, HA, HK2, HO_5, HB⟩ := hrel
       cases gk with
       | zero => exact absurd HA.out (by simp [full_toCueS.l0])
       | succ k2 =>
        have H := HA.out; clear HA; simp only [full_toCueS.l0] at H
        by_cases c12 : x6_2 < (l0.length : Int)
        ·rw [if_pos c12] at H
         have c12b0 := decide_eq_true c12; clear c12
         by_cases c13 : 0 ≤ x6_2
         ·rw [if_pos c13] at H
          have c13b0 := decide_eq_true c13; clear c13; replace H := Option.bind_eq_some_iff.mp H; obtain ⟨⟨t919, t920, t921, t922⟩, A140, H⟩ := H
          dsimp only at H
          have A14 := am_ A140; clear A140
          by_cases c15 : x6_2 < (x5_2.length : Int)
          ·rw [if_pos c15] at H
           have c15b0 := decide_eq_true c15; clear c15; obtain ⟨y923, hy923⟩ : ∃ y_ : List (S80), y_ = (x5_2.set (x6_2 : Int).toNat (⟨t919, t920, t921, t922⟩ : S80)) := ⟨_, rfl⟩
           (first | (rw [← hy923] at H; with_reducible replace H := bindZ H) | rw [← hy923] at H | skip)
           have Ny923 := am_ hy923; clear hy923; have H' := am_ H; clear H; have p918 : 0 ≤ (x6_2 : Int) := of_decide_eq_true Zn; have q918 : x6_2 < (l0.length : Int) := of_decide_eq_true Zn; obtain ⟨ad918, e918, hx918_0, hx918_1, hx918_2, hx918_3⟩ := at_T77 HR0.out x6_2 p918 q918
           cases e918
           replace hx918_0 := cbH HB hx918_0; replace hx918_1 := cbH HB hx918_1; replace hx918_2 := cbH HB hx918_2; replace hx918_3 := cbH HB hx918_3; replace p918 := eq_true p918; replace q918 := eq_true q918
           go_wp2_with (first | ((with_reducible refine gate_callee (f := 60) rfl ?_); refine gZ 33 Try.func60 #[.agg #[.int .i64 ((rd_T77 l0 x6_2).f0), .int .i64 ((rd_T77 l0 x6_2).f1), .string ((rd_T77 l0 x6_2).f2), .int .i64 ((rd_T77 l0 x6_2).f3)]] ?_; (with_reducible refine (laws_toCue.calls ((rd_T77 l0 x6_2).f0) ((rd_T77 l0 x6_2).f1) ((rd_T77 l0 x6_2).f2) ((rd_T77 l0 x6_2).f3) t919 t920 t921 t922 _ A14.out).mono ?_); rintro e w17 ⟨rfl, hb⟩; refine ⟨_, rfl, ?_⟩; replace HO_5 := (hbZ HO_5 hb); replace HB := (bsZ Zd hb); clear hb; have p16 : 0 ≤ (x6_2 : Int) := of_decide_eq_true Zn; have q16 : (x6_2 : Int) < ((x5_2.length : Int) : Int) := of_decide_eq_true Zn; obtain ⟨go16, co16, eo16, gb16, gl16, cl16, HG16⟩ := Kd.R_form HO_5.out (by omega); (first | cases eo16 | (injection eo16 with ea_ en_ ec_; (first | subst ea_ | (injection ea_ with ea_; subst ea_)); subst ec_; clear en_)); have GB16 := am_ gb16; have GG16 := am_ HG16; clear gb16 gl16 HG16; obtain ⟨ce16, hcl16, hM16, hcc16, hfr16⟩ := Kd.R_elem HO_5.out z80 (x6_2 : Int) p16 q16; obtain rfl := k80_openM hM16; have hx16_0 : w17.cell? ⟨go16, (x6_2 : Int).toNat * 4, none⟩ = some (.int .i64 ((rd_T80 x5_2 x6_2).f0)) := hcc16 0 _ rfl; have hx16_1 : w17.cell? ⟨go16, (x6_2 : Int).toNat * 4 + 1, none⟩ = some (.int .i64 ((rd_T80 x5_2 x6_2).f1)) := hcc16 1 _ rfl; have hx16_2 : w17.cell? ⟨go16, (x6_2 : Int).toNat * 4 + 2, none⟩ = some (.string ((rd_T80 x5_2 x6_2).f2)) := hcc16 2 _ rfl; have hx16_3 : w17.cell? ⟨go16, (x6_2 : Int).toNat * 4 + 3, none⟩ = some (.int .i64 ((rd_T80 x5_2 x6_2).f3)) := hcc16 3 _ rfl; have hf16_0 : w17.frozen? ⟨go16, (x6_2 : Int).toNat * 4, none⟩ = false := hfr16 0; have hf16_1 := hfr16 1; have hf16_2 := hfr16 2; have hf16_3 := hfr16 3; clear hcl16 hcc16 hfr16 hM16; replace p16 := eq_true p16; replace q16 := eq_true q16; have HX18 := am_ (show Kd.R k80 80 w17 w.heap.size (fun _ => True) (.slice (some ⟨go16, 0, none⟩) x5_2.length co16) x5_2 from (Zo HO_5)); obtain ⟨ce18, hcl18, hM18, hcc18, hfr18⟩ := Kd.R_elem HX18.out z80 (x6_2 : Int) (of_decide_eq_true Zn) (by have h_ : (x6_2 : Int) < ((x5_2.length : Int) : Int) := of_decide_eq_true Zn; first | exact h_ | (have e_ := (Kd.R_reads' HO_5.out).1; omega) | simpa using h_); obtain rfl := k80_openM hM18; have HP18 := Kd.R_seg HX18.out (x6_2 : Int) (of_decide_eq_true Zn) (by have h_ : (x6_2 : Int) < ((x5_2.length : Int) : Int) := of_decide_eq_true Zn; first | exact h_ | (have e_ := (Kd.R_reads' HO_5.out).1; omega) | simpa using h_) (seg := [.int .i64 t919, .int .i64 t920, .string t921, .int .i64 t922]) (j := 0) hcl18 hcc18 (show 4 ≤ 4 from (by decide)) (x' := (⟨t919, t920, t921, t922⟩ : S80)) (k80_mkM _ _ _ (⟨t919, t920, t921, t922⟩ : S80) ) (fun _ hk => hk); have hx18_0 := hcc18 0 _ rfl; (try simp only [show (k80).sz = 4 from rfl, Nat.mul_one, Nat.add_zero] at hx18_0); have hf18_0 := hfr18 0; (try simp only [show (k80).sz = 4 from rfl, Nat.mul_one, Nat.add_zero] at hf18_0); have hx18_1 := hcc18 1 _ rfl; (try simp only [show (k80).sz = 4 from rfl, Nat.mul_one, Nat.add_zero] at hx18_1); have hf18_1 := hfr18 1; (try simp only [show (k80).sz = 4 from rfl, Nat.mul_one, Nat.add_zero] at hf18_1); have hx18_2 := hcc18 2 _ rfl; (try simp only [show (k80).sz = 4 from rfl, Nat.mul_one, Nat.add_zero] at hx18_2); have hf18_2 := hfr18 2; (try simp only [show (k80).sz = 4 from rfl, Nat.mul_one, Nat.add_zero] at hf18_2); have hx18_3 := hcc18 3 _ rfl; (try simp only [show (k80).sz = 4 from rfl, Nat.mul_one, Nat.add_zero] at hx18_3); have hf18_3 := hfr18 3; (try simp only [show (k80).sz = 4 from rfl, Nat.mul_one, Nat.add_zero] at hf18_3); clear hcl18 hcc18 hfr18 hM18) | ((with_reducible refine gate_store (t := 80) (p := 34) rfl ?_); refine store_event (t := 80) (p := 34) (v := ?vo_w19) (w1 := ((((w17.setCell ⟨go16, (x6_2 : Int).toNat * 4, none⟩ (.int .i64 t919)).setCell ⟨go16, (x6_2 : Int).toNat * 4 + 1, none⟩ (.int .i64 t920)).setCell ⟨go16, (x6_2 : Int).toNat * 4 + 2, none⟩ (.string t921)).setCell ⟨go16, (x6_2 : Int).toNat * 4 + 3, none⟩ (.int .i64 t922))) ?hg ?ho ?hn ?hr ?_; (case ho => rfl); (case hg => rfl); (case hn => rfl); (case hr => first | (go_simp; done) | (go_simp; rfl)); intro w19 hw; have hg : w17.grownBy w19 (some go16) := (by rw [hw]; exact HP18.2); have hp_ : Kd.R k80 80 w19 w.heap.size (fun _ => True) (.slice (some ⟨go16, 0, none⟩) x5_2.length co16) y923 := (by rw [hw, Ny923.out]; exact HP18.1); clear HP18; replace HO_5 := am_ (hp_); replace HB := am_ (((Zy GB16) : Below w.heap.size w w19)); clear hg hw hp_))
           go_roundg k2
           case measure => have := HJ2.out; have := HK2.out; omega
           case rel => exact ⟨(y923), (wrap64 (x6_2 + 1)), Za, H', ⟨by have := HJ2.out; have := HK2.out; omega⟩, ⟨(Zo HO_5)⟩, ⟨Zd⟩⟩
          ·rw [if_neg c15] at H
           exact absurd H (by simp)
         ·rw [if_neg c13] at H
          exact absurd H (by simp)
        ·rw [if_neg c12] at H
         have c12b0 := decide_eq_false c12; clear c12; have H' := am_ H; clear H
         go_wp2
         go_loopg [7] k2 (fun kq v7 w' => ∃ (x5_3 : List (S80)) (x7_3 : Int), v7 = .int .i64 x7_3 ∧ Aside0 (full_toCueS.l1 kq l0 x5_3 x7_3 = some r) ∧ Aside0 (kq ≤ k2) ∧ Aside0 (Kd.R k80 80 w' w.heap.size (fun _ => True) v916 x5_3) ∧ Aside0 (Below w.heap.size w w'))
         case atStart => exact ⟨(x5_2), ((l0.length : Int)), Za, H', ⟨Nat.le_refl _⟩, ⟨(Zo HO_5)⟩, ⟨Zd⟩⟩
         case round =>
          clear H'
          try clear c1
          try clear p1
          try clear q1
          try clear hx1
          try clear c2
          try clear p2
          try clear c4
          try clear c5
          try clear c6
          try clear p6
          try clear c8
          try clear c8b0
          try clear c8b1
          try clear c9
          try clear c9b0
          try clear c9b1
          try clear p9
          try clear q9
          try clear hx9
          try clear c12
          try clear c12b0
          try clear c13
          try clear c13b0
          try clear c15
          try clear c15b0
          try clear c16
          try clear p16
          try clear q16
          try clear hx16
          try clear hf16
          try clear c18
          try clear hx18
          try clear hf18
          try clear hx16_0
          try clear hx16_1
          try clear hx16_2
          try clear hx16_3
          try clear hx18_0
          try clear hx18_1
          try clear hx18_2
          try clear hx18_3
          try clear hx918_0
          try clear hx918_1
          try clear hx918_2
          try clear hx918_3
          try clear p16
          try clear p2
          try clear p6
          try clear p918
          try clear q16
          try clear q918
          obtain ⟨x5_3, x7_3, rfl, HA, HK3, HO_5, HB⟩ := hrel
          cases gk with
          | zero => exact absurd HA.out (by simp [full_toCueS.l1])
          | succ k3 =>
           have H := HA.out; clear HA; simp only [full_toCueS.l1] at H
           by_cases c20 : x7_3 < (x5_3.length : Int)
           ·rw [if_pos c20] at H
            have c20b0 := decide_eq_true c20; clear c20; replace H := Option.bind_eq_some_iff.mp H; obtain ⟨⟨t924, t925, t926, t927⟩, A210, H⟩ := H
            dsimp only at H
            have A21 := am_ A210; clear A210
            by_cases c22 : 0 ≤ x7_3
            ·rw [if_pos c22] at H
             have c22b0 := decide_eq_true c22; clear c22; obtain ⟨y928, hy928⟩ : ∃ y_ : List (S80), y_ = (x5_3.set (x7_3 : Int).toNat (⟨t924, t925, t926, t927⟩ : S80)) := ⟨_, rfl⟩
             (first | (rw [← hy928] at H; with_reducible replace H := bindZ H) | rw [← hy928] at H | skip)
             have Ny928 := am_ hy928; clear hy928; have H' := am_ H; clear H; obtain ⟨Ao24, co24, eo24⟩ := Kd.R_slice HO_5.out; subst eo24
             go_wp2_with (first | ((with_reducible refine gate_callee (f := 61) rfl ?_); refine gZ 45 Try.func61 #[] ?_; (with_reducible refine (laws_fillerCue.calls  t924 t925 t926 t927 _ A21.out).mono ?_); rintro e w25 ⟨rfl, hb⟩; refine ⟨_, rfl, ?_⟩; replace HO_5 := (hbZ HO_5 hb); replace HB := (bsZ Zd hb); clear hb; have p23 : 0 ≤ (x7_3 : Int) := of_decide_eq_true Zn; have q23 : (x7_3 : Int) < ((x5_3.length : Int) : Int) := of_decide_eq_true Zn; obtain ⟨go23, co23, eo23, gb23, gl23, cl23, HG23⟩ := Kd.R_form HO_5.out (by omega); (first | cases eo23 | (injection eo23 with ea_ en_ ec_; (first | subst ea_ | (injection ea_ with ea_; subst ea_)); subst ec_; clear en_)); have GB23 := am_ gb23; have GG23 := am_ HG23; clear gb23 gl23 HG23; obtain ⟨ce23, hcl23, hM23, hcc23, hfr23⟩ := Kd.R_elem HO_5.out z80 (x7_3 : Int) p23 q23; obtain rfl := k80_openM hM23; have hx23_0 : w25.cell? ⟨go23, (x7_3 : Int).toNat * 4, none⟩ = some (.int .i64 ((rd_T80 x5_3 x7_3).f0)) := hcc23 0 _ rfl; have hx23_1 : w25.cell? ⟨go23, (x7_3 : Int).toNat * 4 + 1, none⟩ = some (.int .i64 ((rd_T80 x5_3 x7_3).f1)) := hcc23 1 _ rfl; have hx23_2 : w25.cell? ⟨go23, (x7_3 : Int).toNat * 4 + 2, none⟩ = some (.string ((rd_T80 x5_3 x7_3).f2)) := hcc23 2 _ rfl; have hx23_3 : w25.cell? ⟨go23, (x7_3 : Int).toNat * 4 + 3, none⟩ = some (.int .i64 ((rd_T80 x5_3 x7_3).f3)) := hcc23 3 _ rfl; have hf23_0 : w25.frozen? ⟨go23, (x7_3 : Int).toNat * 4, none⟩ = false := hfr23 0; have hf23_1 := hfr23 1; have hf23_2 := hfr23 2; have hf23_3 := hfr23 3; clear hcl23 hcc23 hfr23 hM23; replace p23 := eq_true p23; replace q23 := eq_true q23; have HX26 := am_ (show Kd.R k80 80 w25 w.heap.size (fun _ => True) (.slice (some ⟨go23, 0, none⟩) x5_3.length co24) x5_3 from (Zo HO_5)); obtain ⟨ce26, hcl26, hM26, hcc26, hfr26⟩ := Kd.R_elem HX26.out z80 (x7_3 : Int) (of_decide_eq_true Zn) (by have h_ : (x7_3 : Int) < ((x5_3.length : Int) : Int) := of_decide_eq_true Zn; first | exact h_ | (have e_ := (Kd.R_reads' HO_5.out).1; omega) | simpa using h_); obtain rfl := k80_openM hM26; have HP26 := Kd.R_seg HX26.out (x7_3 : Int) (of_decide_eq_true Zn) (by have h_ : (x7_3 : Int) < ((x5_3.length : Int) : Int) := of_decide_eq_true Zn; first | exact h_ | (have e_ := (Kd.R_reads' HO_5.out).1; omega) | simpa using h_) (seg := [.int .i64 t924, .int .i64 t925, .string t926, .int .i64 t927]) (j := 0) hcl26 hcc26 (show 4 ≤ 4 from (by decide)) (x' := (⟨t924, t925, t926, t927⟩ : S80)) (k80_mkM _ _ _ (⟨t924, t925, t926, t927⟩ : S80) ) (fun _ hk => hk); have hx26_0 := hcc26 0 _ rfl; (try simp only [show (k80).sz = 4 from rfl, Nat.mul_one, Nat.add_zero] at hx26_0); have hf26_0 := hfr26 0; (try simp only [show (k80).sz = 4 from rfl, Nat.mul_one, Nat.add_zero] at hf26_0); have hx26_1 := hcc26 1 _ rfl; (try simp only [show (k80).sz = 4 from rfl, Nat.mul_one, Nat.add_zero] at hx26_1); have hf26_1 := hfr26 1; (try simp only [show (k80).sz = 4 from rfl, Nat.mul_one, Nat.add_zero] at hf26_1); have hx26_2 := hcc26 2 _ rfl; (try simp only [show (k80).sz = 4 from rfl, Nat.mul_one, Nat.add_zero] at hx26_2); have hf26_2 := hfr26 2; (try simp only [show (k80).sz = 4 from rfl, Nat.mul_one, Nat.add_zero] at hf26_2); have hx26_3 := hcc26 3 _ rfl; (try simp only [show (k80).sz = 4 from rfl, Nat.mul_one, Nat.add_zero] at hx26_3); have hf26_3 := hfr26 3; (try simp only [show (k80).sz = 4 from rfl, Nat.mul_one, Nat.add_zero] at hf26_3); clear hcl26 hcc26 hfr26 hM26) | ((with_reducible refine gate_store (t := 80) (p := 46) rfl ?_); refine store_event (t := 80) (p := 46) (v := ?vo_w27) (w1 := ((((w25.setCell ⟨go23, (x7_3 : Int).toNat * 4, none⟩ (.int .i64 t924)).setCell ⟨go23, (x7_3 : Int).toNat * 4 + 1, none⟩ (.int .i64 t925)).setCell ⟨go23, (x7_3 : Int).toNat * 4 + 2, none⟩ (.string t926)).setCell ⟨go23, (x7_3 : Int).toNat * 4 + 3, none⟩ (.int .i64 t927))) ?hg ?ho ?hn ?hr ?_; (case ho => rfl); (case hg => rfl); (case hn => rfl); (case hr => first | (go_simp; done) | (go_simp; rfl)); intro w27 hw; have hg : w25.grownBy w27 (some go23) := (by rw [hw]; exact HP26.2); have hp_ : Kd.R k80 80 w27 w.heap.size (fun _ => True) (.slice (some ⟨go23, 0, none⟩) x5_3.length co24) y928 := (by rw [hw, Ny928.out]; exact HP26.1); clear HP26; replace HO_5 := am_ (hp_); replace HB := am_ (((Zy GB23) : Below w.heap.size w w27)); clear hg hw hp_))
             go_roundg k3
             case measure => have := HJ2.out; have := HK2.out; have := HK3.out; omega
             case rel => exact ⟨(y928), (wrap64 (x7_3 + 1)), Za, H', ⟨Zp⟩, ⟨(Zo HO_5)⟩, ⟨Zd⟩⟩
            ·rw [if_neg c22] at H
             exact absurd H (by simp)
           ·rw [if_neg c20] at H
            have c20b0 := decide_eq_false c20; clear c20
            by_cases c28 : 0 ≤ (l0.length : Int)
            ·rw [if_pos c28] at H
             have c28b0 := eq_true c28; have c28b1 := decide_eq_true c28; clear c28
             by_cases c29 : (l0.length : Int) ≤ (x5_3.length : Int)
             ·rw [if_pos c29] at H
              have c29b0 := eq_true c29; have c29b1 := decide_eq_true c29; clear c29; have HE_ := am_ (Option.some.inj H); clear H; obtain ⟨Ao30, co30, eo30⟩ := Kd.R_slice HO_5.out; subst eo30; have q31 : ((l0.length : Int) : Int) ≤ ((x5_3.length : Int) : Int) := of_decide_eq_true Zn; obtain ⟨i031, hi031, _, hsz31, _⟩ := info_parts info80; have hcut31 := cut_to (P := Try.prog) 33 80 .i64 Try.underlying33 hi031 Ao30 x5_3.length co30 (l0.length : Int) (of_decide_eq_true Zn) q31 (Kd.R_reads' HO_5.out).2.1; have hz_ : ((l0.length : Int) : Int).toNat = l0.length := Int.toNat_natCast _; rw [hz_] at hcut31; clear hi031 hsz31 hz_; have HL_ := am_ (show l0.length ≤ x5_3.length by omega); replace q31 := eq_true q31
              go_wp2
              go_ret
              exact ⟨_, rfl, (fun _ => ⟨_, _, rfl, (by rw [← HE_.out]; exact HL_.out), (Zv HO_5)⟩), Zd⟩
             ·rw [if_neg c29] at H
              exact absurd H (by simp)
            ·rw [if_neg c28] at H
             exact absurd H (by simp)
     ·rw [if_neg c9] at H
      exact absurd H (by simp)
    ·rw [if_neg c8] at H
     exact absurd H (by simp)
 
def T_intactCueS : Bool × List (List Nat × List Nat) := (true, [([], []), ([0], [0]), ([], []), ([2], [2]), ([1, 3], [1, 3]), ([4], [4]), ([5], [5]), ([5], [5]), ([6, 7, 5], [5, 6, 7]), ([5], [5]), ([5], [5]), ([9, 10, 5], [5, 9, 10]), ([8, 11, 5, 5], [5, 8, 11]), ([5, 12], [5, 12]), ([13, 12, 0, 1, 2, 3, 4, 5, 6, 7, 8, 9, 10, 11, 12, 13], [13])])
def B_intactCueS : List Nat := [0, 1, 0, 4, 15, 31, 63, 63, 255, 63, 63, 1599, 4095, 8191, 16383]
theorem tab_intactCueS : rtab .any (opsOf Try.f36 2) = T_intactCueS := by kernel_rfl
theorem bits_intactCueS : waitsOk T_intactCueS.2 B_intactCueS = true := by kernel_rfl
set_option maxHeartbeats 8000000 in
set_option maxRecDepth 100000 in
theorem same_intactCueS (k n : Nat) (A0 : Option Addr) (c0 : Nat) (A1 : Option Addr) (c1 : Nat) (L : List S80) (t : Int) (w : World) (hr0 : Kd.C k80 w A0 L.length L) (hc0 : L.length ≤ c0) (hr1 : Kd.C k80 w A1 L.length L) (hc1 : L.length ≤ c1)
    (ht : laws_roomBehind.f (n : Int) = some t) (hj : wrap64 ((n : Int) + t) = (L.length : Int)) (he : laws_eqCueS.f k L L = some true) :
    Calls Try.prog 36 #[.slice A0 n c0, .slice A1 n c1] w fun e w' => e = .returned (.bool true) ∧ Below w.heap.size w w' := by
  have HR0 := am_ hr0; have HC0 := am_ hc0; clear hr0 hc0; have HR1 := am_ hr1; have HC1 := am_ hc1; clear hr1 hc1; have HB := am_ (Below.refl w.heap.size w); have A3 := am_ ht; have A10 := am_ he; clear ht he; obtain ⟨ji5, hji⟩ : ∃ j_ : Int, (L.length : Int) = j_ := ⟨_, rfl⟩; rw [hji] at hj; have hji5w : (IntKind.i64.wrap ((n : Int) + t)) = ji5 := (i64_w _).trans hj; have hji5 := hj; clear hj; obtain ⟨i012, hi012, _, hsz12, _⟩ := info_parts info80; have hcut12 := cut_cap (P := Try.prog) 33 80 .i64 Try.underlying33 hi012 A0 n c0 ji5 (by omega) (by have := HC0.out; omega); have hcut13 := cut_cap (P := Try.prog) 33 80 .i64 Try.underlying33 hi012 A1 n c1 ji5 (by omega) (by have := HC1.out; omega)
  have hL : ji5.toNat = L.length := by omega
  rw [hL] at hcut12 hcut13; clear hL hi012 hsz12 hji
  go_enter Try.func36, Try.ntmps36
  go_wp2_with (first | ((with_reducible refine gate_callee (f := 55) rfl ?_); refine gZ 10 Try.func55 #[.int .i64 (n : Int)] ?_; (with_reducible refine (laws_roomBehind.calls (n : Int) t _ A3.out).mono ?_); rintro e w' ⟨rfl, ⟨nd, rfl⟩⟩; refine ⟨_, rfl, ?_⟩))
  replace HB := am_ (below_drew1 (pw_below_drewN HB.out nd)); refine start_ (n := 15) (S := fun w' => True) (ds := []) (bT 15 0) Zi rfl rfl trivial (fun hHeld => ?_); refine with_tabW tab_intactCueS bits_intactCueS (fun HT_ HW_ => ?_); generalize (w.drewN nd).drew = w11 at HB hHeld ⊢; refine pure_ (i := 0) (N := some 12) (v := ?_) (a' := ?_) (bT 15 1) rfl rfl (any_of HT_.out Zi) (fun _ _ _ h => h) (Or.inl ⟨by rfl, ?_⟩) ?_ ?_; rotate_left
  · intro w'
    go_simp
    with_reducible rfl
  rotate_left
  · simp only [Act.put, List.setIfInBounds_toArray, List.set_cons_zero, List.set_cons_succ, i64_w, i32_w]
    rfl
  refine pure_ (i := 1) (N := some 13) (v := ?_) (a' := ?_) (bT 15 2) rfl rfl (any_of HT_.out Zi) (fun _ _ _ h => h) (Or.inl ⟨by rfl, ?_⟩) ?_ ?_; rotate_left
  · intro w'
    go_simp
    with_reducible rfl
  rotate_left
  · simp only [Act.put, List.setIfInBounds_toArray, List.set_cons_zero, List.set_cons_succ, i64_w, i32_w]
    rfl
  refine pure_ (i := 2) (N := some 14) (v := ?_) (a' := ?_) (bT 15 3) rfl rfl (any_of HT_.out Zi) (fun _ _ _ h => h) (Or.inl ⟨by rfl, ?_⟩) ?_ ?_; rotate_left
  · intro w'
    go_simp
    with_reducible rfl
  rotate_left
  · simp only [Act.put, List.setIfInBounds_toArray, List.set_cons_zero, List.set_cons_succ, i64_w, i32_w]
    rfl
  refine pure_ (i := 3) (N := some 15) (v := ?_) (a' := ?_) (bT 15 4) rfl rfl (any_of HT_.out Zi) (fun _ _ _ h => h) (Or.inl ⟨by rfl, ?_⟩) ?_ ?_; rotate_left
  · intro w'
    go_simp
    with_reducible rfl
  rotate_left
  · simp only [Act.put, List.setIfInBounds_toArray, List.set_cons_zero, List.set_cons_succ, i64_w, i32_w]
    rfl
  refine pure_ (i := 4) (N := some 16) (v := ?_) (a' := ?_) (bT 15 5) rfl rfl (any_of HT_.out Zi) (fun _ _ _ h => h) (Or.inl ⟨by rfl, ?_⟩) ?_ ?_; rotate_left
  · intro w'
    go_simp
    with_reducible rfl
  rotate_left
  · simp only [Act.put, List.setIfInBounds_toArray, List.set_cons_zero, List.set_cons_succ, i64_w, i32_w]
    rfl
  refine pure_ (i := 5) (N := some 17) (v := ?_) (a' := ?_) (bT 15 6) rfl rfl (any_of HT_.out Zi) (fun _ _ _ h => h) (Or.inl ⟨by rfl, ?_⟩) ?_ ?_; rotate_left
  · intro w'
    go_simp
    with_reducible rfl
  rotate_left
  · simp only [Act.put, List.setIfInBounds_toArray, List.set_cons_zero, List.set_cons_succ, i64_w, i32_w]
    rfl
  refine pure_ (i := 6) (N := some 18) (v := ?_) (a' := ?_) (bT 15 7) rfl rfl (any_of HT_.out Zi) (fun _ _ _ h => h) (Or.inl ⟨by rfl, ?_⟩) ?_ ?_; rotate_left
  · intro w'
    go_simp
    with_reducible rfl
  rotate_left
  · simp only [Act.put, List.setIfInBounds_toArray, List.set_cons_zero, List.set_cons_succ, i64_w, i32_w]
    rfl
  refine pure_ (i := 7) (N := some 19) (v := ?_) (a' := ?_) (bT 15 8) rfl rfl (any_of HT_.out Zi) (fun _ _ _ h => h) (Or.inl ⟨by rfl, ?_⟩) ?_ ?_; rotate_left
  · intro w'
    go_simp
    with_reducible rfl
  rotate_left
  · simp only [Act.put, List.setIfInBounds_toArray, List.set_cons_zero, List.set_cons_succ, i64_w, i32_w]
    rfl
  refine pure_ (i := 8) (N := some 20) (v := ?_) (a' := ?_) (bT 15 9) rfl rfl (any_of HT_.out Zi) (fun _ _ _ h => h) (Or.inl ⟨by rfl, ?_⟩) ?_ ?_; rotate_left
  · intro w'
    go_simp
    with_reducible rfl
  rotate_left
  · simp only [Act.put, List.setIfInBounds_toArray, List.set_cons_zero, List.set_cons_succ, i64_w, i32_w]
    rfl
  refine pure_ (i := 9) (N := some 21) (v := ?_) (a' := ?_) (bT 15 10) rfl rfl (any_of HT_.out Zi) (fun _ _ _ h => h) (Or.inl ⟨by rfl, ?_⟩) ?_ ?_; rotate_left
  · intro w'
    go_simp
    with_reducible rfl
  rotate_left
  · simp only [Act.put, List.setIfInBounds_toArray, List.set_cons_zero, List.set_cons_succ, i64_w, i32_w]
    rfl
  refine pure_ (i := 10) (N := some 22) (v := ?_) (a' := ?_) (bT 15 11) rfl rfl (any_of HT_.out Zi) (fun _ _ _ h => h) (Or.inl ⟨by rfl, ?_⟩) ?_ ?_; rotate_left
  · intro w'
    go_simp
    with_reducible rfl
  rotate_left
  · simp only [Act.put, List.setIfInBounds_toArray, List.set_cons_zero, List.set_cons_succ, i64_w, i32_w]
    rfl
  refine pure_ (i := 11) (N := some 23) (v := ?_) (a' := ?_) (bT 15 12) rfl rfl (any_of HT_.out Zi) (fun _ _ _ h => h) (Or.inl ⟨by rfl, ?_⟩) ?_ ?_; rotate_left
  · intro w'
    go_simp
    with_reducible rfl
  rotate_left
  · simp only [Act.put, List.setIfInBounds_toArray, List.set_cons_zero, List.set_cons_succ, i64_w, i32_w]
    rfl
  refine one_ (i := 12) (N := some 24) (bT 15 13) rfl rfl (one_of HT_.out Zi) (by decide) (fun K hK => ?_); refine goes_ Try.func68 Zi rfl #[.slice A0 L.length c0, .slice A1 L.length c1] (by rfl) rfl rfl (by (try simp only [List.map_toArray, List.map_cons, List.map_nil]); first | done | rfl) ?_
  with_reducible refine (laws_eqCueS.calls k _ _ L _ _ L true _ (Kd.C_below HR0.out HB.out) HC0.out (Kd.C_below HR1.out HB.out) HC1.out A10.out).mono ?_
  rintro e w14 ⟨rfl, hb⟩; refine ⟨_, rfl, ?_⟩; replace HB := (bsZ HB.out hb); clear hb; refine hK.out _ _ trivial (fun hHeld => ?_); clear hK K; refine normZ 24 ?_; refine pure_ (i := 13) (N := some 25) (v := ?_) (a' := ?_) (bT 15 14) rfl rfl (any_of HT_.out Zi) (fun _ _ _ h => h) (Or.inl ⟨by rfl, ?_⟩) ?_ ?_; rotate_left
  · intro w'
    go_simp
    with_reducible rfl
  rotate_left
  · simp only [Act.put, List.setIfInBounds_toArray, List.set_cons_zero, List.set_cons_succ, i64_w, i32_w]
    rfl
  refine pure_ (i := 14) (N := some 4) (v := ?_) (a' := ?_) (bT 15 15) rfl rfl (any_of HT_.out Zi) (fun _ _ _ h => h) (Or.inl ⟨by rfl, ?_⟩) ?_ ?_; rotate_left
  · intro w'
    go_simp
    with_reducible rfl
  rotate_left
  · simp only [Act.put, List.setIfInBounds_toArray, List.set_cons_zero, List.set_cons_succ, i64_w, i32_w]
    rfl
  refine done_ (done_of HT_.out Zi) ?_
  try go_wp2
  go_ret
  exact ⟨rfl, HB.out⟩
theorem one77 : Try.prog.cellsOf 2 = 1 := by kernel_rfl
theorem ones77 : Try.prog.cellsOf 9 = 1 := by kernel_rfl
theorem size77 : Try.prog.cellsOf 77 = 4 := by kernel_rfl
def Pr77 (x : S77) : Prop := I64 x.f0 ∧ I64 x.f1 ∧ x.f2.size ≤ maxLen ∧ I64 x.f3
theorem open_S77 {H : Type} {enc : TypeId × Value → H} {W : World} {base : Nat} {sp : Nat → Bool} {held : Bool} {fuel : Nat} {cs : List Value} {y : DataW H × List MemPlace} (h : DataW.trod enc Try.prog W base sp held fuel 77 cs = some y) (w : World) : ∃ a : S77, k77.K w a cs ∧ Pr77 a := by
  obtain ⟨xs, n, _, rfl, hl, hlen, hf⟩ := DataW.trod_struct Try.underlying77 h; rw [size77] at hl; obtain ⟨v0, e0, _, w0⟩ := DataW.trod_int Try.underlying2 ((hf 0 _ rfl).trans (List.getElem?_eq_getElem Zw)); have g0 : cs[0]? = some (.int .i64 v0) := one_cell (by have z : List.take (Try.prog.cellsOf 2) (List.drop 0 cs) = [.int .i64 v0] := e0; rw [one77] at z; exact z); obtain ⟨v1, e1, _, w1⟩ := DataW.trod_int Try.underlying2 ((hf 1 _ rfl).trans (List.getElem?_eq_getElem Zw)); have g1 : cs[1]? = some (.int .i64 v1) := one_cell (by have z : List.take (Try.prog.cellsOf 2) (List.drop 1 cs) = [.int .i64 v1] := e1; rw [one77] at z; exact z); obtain ⟨v2, e2, _, w2⟩ := DataW.trod_string Try.underlying9 ((hf 2 _ rfl).trans (List.getElem?_eq_getElem Zw)); have g2 : cs[2]? = some (.string v2) := one_cell (by have z : List.take (Try.prog.cellsOf 9) (List.drop 2 cs) = [.string v2] := e2; rw [ones77] at z; exact z); obtain ⟨v3, e3, _, w3⟩ := DataW.trod_int Try.underlying2 ((hf 3 _ rfl).trans (List.getElem?_eq_getElem Zw)); have g3 : cs[3]? = some (.int .i64 v3) := one_cell (by have z : List.take (Try.prog.cellsOf 2) (List.drop 3 cs) = [.int .i64 v3] := e3; rw [one77] at z; exact z)
  have hcs : cs = [.int .i64 v0, .int .i64 v1, .string v2, .int .i64 v3] := by
    apply List.ext_getElem?
    intro i
    match i with
    | 0 => exact g0
    | 1 => exact g1
    | 2 => exact g2
    | 3 => exact g3
    | i + 4 => rw [List.getElem?_eq_none (by omega)]; rfl
  subst hcs; exact ⟨⟨v0, v1, v2, v3⟩, k77_mk w _, I64_of w0, I64_of w1, w2, I64_of w3⟩
end Go.Proofs.Ytnifblnlpepehaa.F
