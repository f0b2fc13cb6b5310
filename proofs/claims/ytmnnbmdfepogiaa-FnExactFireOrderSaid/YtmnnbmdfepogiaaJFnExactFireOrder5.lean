import Derived.Test.YtmnnbmdfepogiaaJFnExactFireOrder4
import Derived.Below
import Derived.Deep.Draws
import Derived.Deep.AppendLies
import Derived.Maps.AppendAt
import Derived.OwnWalk
import Derived.Laws.BytesArg
import Derived.Laws.MakeOwn
import Derived.Laws.OwnMore
import Derived.Deep.OwnRows
import Derived.Tactics
import Derived.Lib.ConvBytes
import Derived.Laws.Slices
import Derived.WalkKit
import Derived.KernelRfl
import Derived.RowKit3
import Derived.Deep.LoopGhost
import Derived.Deep.QuietTactic
import Derived.BigQuiet
import Derived.WideLaws
import Derived.Deep.DeepCutAuto
import Derived.Deep.CutBlock
import Derived.Deep.RegionHeld3
import Derived.Laws.Rows
import Derived.Lib.AppendStr
import Derived.ArgAppend
import Derived.Laws.IdiomCopy
import Derived.RowKit
import Derived.OrdersHeld
import Derived.Laws.BitsLemmas
import Derived.Laws.StructEq
import Derived.Test.YtmnnbmdfepogiaaProg
import Derived.ChangeSlices
import Derived.OpenShut
import Derived.Laws.Cover1
import Derived.Test.YtmnnbmdfepogiaaRows
import Derived.Test.YtmnnbmdfepogiaaGcFnExactFireOrder
import Derived.ProofKit
import Derived.ShutString
import Derived.ChangeOld
import Derived.SizedLaws
namespace Go.Proofs.Ytmnnbmdfepogiaa.F
open Go.RowKit Go.Proofs.YtmnnbmdfepogiaaW.PrintWords Go.Proofs.YtmnnbmdfepogiaaW.PrintLast Go.Proofs.YtmnnbmdfepogiaaW.PrintMore
set_option linter.unusedVariables false
set_option linter.unusedSimpArgs false
structure Ok_FnExactFireOrder (k : Nat) (l0_0 : List S106) (l0_1 : List S99) (l0_2 : List S101) (L0_0 : List S104) (M0_0 : List S104) (t0_0 : Int) (L0_1 : List S61) (M0_1 : List S61) (t0_1 : Int) (L0_2 : List S58) (M0_2 : List S58) (t0_2 : Int) (q1 : List Int) (q2 : Int) (k1 : Int) (M0_0k : List (S104)) (M0_1k : List (S61)) (M0_2k : List (S58)) (m1 : Int) (q1k : List Int) : Prop where
 ne0_0 : L0_0 ≠ []
 tk0_0 : M0_0 = L0_0.take l0_0.length ∧ l0_0.length ≤ L0_0.length
 ln0_0 : M0_0.length = l0_0.length
 rm0_0 : laws_roomBehind.f (M0_0.length : Int) = some t0_0
 jn0_0 : wrap64 ((M0_0.length : Int) + t0_0) = (L0_0.length : Int)
 eq0_0 : laws_eqBarS.f k L0_0 L0_0 = some true
 ne0_1 : L0_1 ≠ []
 tk0_1 : M0_1 = L0_1.take l0_1.length ∧ l0_1.length ≤ L0_1.length
 ln0_1 : M0_1.length = l0_1.length
 rm0_1 : laws_roomBehind.f (M0_1.length : Int) = some t0_1
 jn0_1 : wrap64 ((M0_1.length : Int) + t0_1) = (L0_1.length : Int)
 eq0_1 : laws_eqArticleS.f k L0_1 L0_1 = some true
 ne0_2 : L0_2 ≠ []
 tk0_2 : M0_2 = L0_2.take l0_2.length ∧ l0_2.length ≤ L0_2.length
 ln0_2 : M0_2.length = l0_2.length
 rm0_2 : laws_roomBehind.f (M0_2.length : Int) = some t0_2
 jn0_2 : wrap64 ((M0_2.length : Int) + t0_2) = (L0_2.length : Int)
 eq0_2 : laws_eqCueS.f k L0_2 L0_2 = some true
 fu0 : full_toShow.f k l0_0 l0_1 l0_2 false = some (L0_0, L0_1, L0_2)
 to0 : laws_toShow.f k l0_0 l0_1 l0_2 true = some (M0_0, M0_1, M0_2)
 sp : spec_FireOrder.f k M0_0 M0_1 M0_2 = some (q1, q2)
 im : impl_FireOrder.f k M0_0 M0_1 M0_2 = some (q1, q2)
 er : laws_eqInt64S.f k q1 q1 = some true
 mk1 : laws_markShow.f k M0_0 M0_1 M0_2 101 = some (k1, M0_0k, M0_1k, M0_2k)
 mk10 : 0 ≤ k1
 mg : laws_markInt64S.f k q1 101 = some (m1, q1k)
 mg0 : 0 ≤ m1
 hd : laws_heldInt64S.f k q1k 101 = some m1
 hl : q1k.length = q1.length
def Law_FnExactFireOrder (k : Nat) (l0_0 : List S106) (l0_1 : List S99) (l0_2 : List S101) : Prop := ∃ s1 : Int, laws_szShow.f k l0_0 l0_1 l0_2 1000000 = some s1 ∧ (s1 < 0 ∨ (0 ≤ s1 ∧ ∃ (L0_0 : List S104) (M0_0 : List S104) (t0_0 : Int) (L0_1 : List S61) (M0_1 : List S61) (t0_1 : Int) (L0_2 : List S58) (M0_2 : List S58) (t0_2 : Int) (q1 : List Int) (q2 : Int) (k1 : Int) (M0_0k : List (S104)) (M0_1k : List (S61)) (M0_2k : List (S58)) (m1 : Int) (q1k : List Int), Ok_FnExactFireOrder k l0_0 l0_1 l0_2 L0_0 M0_0 t0_0 L0_1 M0_1 t0_1 L0_2 M0_2 t0_2 q1 q2 k1 M0_0k M0_1k M0_2k m1 q1k))
def Pure_FnExactFireOrder : Prop := ∀ (l0_0 : List S106) (l0_1 : List S99) (l0_2 : List S101), l0_0.length ≤ maxLen → (∀ x ∈ l0_0, Pr106 x) → l0_1.length ≤ maxLen → (∀ x ∈ l0_1, Pr99 x) → l0_2.length ≤ maxLen → (∀ x ∈ l0_2, Pr101 x) → ∃ k, Law_FnExactFireOrder k l0_0 l0_1 l0_2
def law_FnExactFireOrder.T : Bool × List (List Nat × List Nat) := (true, [([], []), ([], []), ([1], [1]), ([0, 2, 2], [0, 2]), ([3], [3])])
def law_FnExactFireOrder.B : List Nat := [0, 0, 2, 7, 15]
theorem law_FnExactFireOrder.tab : rtab .any (opsOf Try.f3 10) = law_FnExactFireOrder.T := by kernel_rfl
theorem law_FnExactFireOrder.bits : waitsOk law_FnExactFireOrder.T.2 law_FnExactFireOrder.B = true := by kernel_rfl
set_option maxHeartbeats 8000000 in
set_option maxRecDepth 100000 in
theorem law_FnExactFireOrder (k : Nat) (A0_0 : Option Addr) (c0_0 : Nat) (l0_0 : List S106) (A0_1 : Option Addr) (c0_1 : Nat) (l0_1 : List S99) (A0_2 : Option Addr) (c0_2 : Nat) (l0_2 : List S101) (w : World) (hr0_0 : Kd.C k106 w A0_0 l0_0.length l0_0) (hc0_0 : l0_0.length ≤ c0_0) (hr0_1 : Kd.C k99 w A0_1 l0_1.length l0_1) (hc0_1 : l0_1.length ≤ c0_1) (hr0_2 : Kd.C k101 w A0_2 l0_2.length l0_2) (hc0_2 : l0_2.length ≤ c0_2) (h : Law_FnExactFireOrder k l0_0 l0_1 l0_2) :
  Calls Try.prog 3 #[.agg #[.slice A0_0 l0_0.length c0_0, .slice A0_1 l0_1.length c0_1, .slice A0_2 l0_2.length c0_2]] w fun e w' => e = .returned (.bool true) ∧ Below w.heap.size w w' := by
 have HR0_0 := am_ hr0_0; have HC0_0 := am_ hc0_0; clear hr0_0 hc0_0; have HR0_1 := am_ hr0_1; have HC0_1 := am_ hc0_1; clear hr0_1 hc0_1; have HR0_2 := am_ hr0_2; have HC0_2 := am_ hc0_2; clear hr0_2 hc0_2; have HB := am_ (Below.refl w.heap.size w); obtain ⟨s1, hs_, h⟩ := h; have HS1 := am_ hs_; clear hs_
 rcases h with h | ⟨h', h⟩
 ·have f_ : decide (s1 < 0) = true := decide_eq_true h
  clear h
  go_enter Try.func3, Try.ntmps3
  go_wp2_with (first | ((with_reducible refine gate_dst (N := 1) rfl ?_); refine boxZ 1 #[.slice A0_0 l0_0.length c0_0, .slice A0_1 l0_1.length c0_1, .slice A0_2 l0_2.length c0_2] 26 ?_; intro g_0 hg w1 hbox hb; have nk_ := am_ hbox; have ne_ := am_ (Zc : w.heap.size ≤ g_0); have OB0 := am_ (Zaf : w.heap.size ≤ g_0); clear hbox hg; replace HB := (bsZ Zd hb); clear hb; have BK0 := nk_; have GE0 := ne_; clear nk_ ne_; obtain ⟨hcz1_0, hcz1_1, hcz1_2, hfz1_0, hfz1_1, hfz1_2⟩ := cz3 BK0) | ((with_reducible refine gate_callee (f := 7) rfl ?_); (try (refine gate_guard (by rfl) ?_; dsimp only)); refine gZ 16 Try.func7 #[.agg #[.slice A0_0 l0_0.length c0_0, .slice A0_1 l0_1.length c0_1, .slice A0_2 l0_2.length c0_2], .int .i64 1000000] ?_; (with_reducible refine (laws_szShow.calls k _ _ l0_0 _ _ l0_1 _ _ l0_2 1000000 s1 _ (Kd.C_below HR0_0.out Zd) HC0_0.out (Kd.C_below HR0_1.out Zd) HC0_1.out (Kd.C_below HR0_2.out Zd) HC0_2.out HS1.out).mono ?_); rintro e w1 ⟨rfl, hb⟩; refine ⟨_, rfl, ?_⟩; replace HB := (bsZ Zd hb); replace BK0 := am_ (blk_below (g := g_0) (b0Z BK0) hb); clear hb; obtain ⟨hcz2_0, hcz2_1, hcz2_2, hfz2_0, hfz2_1, hfz2_2⟩ := cz3 BK0))
  go_ret
  exact ⟨rfl, Zd⟩
 have fs1 : decide (s1 < 0) = false := decide_eq_false (by omega); clear h'; obtain ⟨L0_0, M0_0, t0_0, L0_1, M0_1, t0_1, L0_2, M0_2, t0_2, q1, q2, k1, M0_0k, M0_1k, M0_2k, m1, q1k, h⟩ := h; have HF := am_ h; clear h
 have f1q2 : (q2 != q2) = false := by simp
 have f2q2 : (q2 == q2) = true := by simp
 have fnk1 : decide (k1 < 0) = false := decide_eq_false (by have := HF.out.mk10; omega); have fnm1 : decide (m1 < 0) = false := decide_eq_false (by have := HF.out.mg0; omega)
 have f1m1 : (m1 != m1) = false := by simp
 have f2m1 : (m1 == m1) = true := by simp
 go_enter Try.func3, Try.ntmps3
 go_wp2_with (first | ((with_reducible refine gate_dst (N := 1) rfl ?_); refine boxZ 1 #[.slice A0_0 l0_0.length c0_0, .slice A0_1 l0_1.length c0_1, .slice A0_2 l0_2.length c0_2] 26 ?_; intro g_0 hg w1 hbox hb; have nk_ := am_ hbox; have ne_ := am_ (Zc : w.heap.size ≤ g_0); have OB0 := am_ (Zaf : w.heap.size ≤ g_0); clear hbox hg; replace HB := (bsZ Zd hb); clear hb; have BK0 := nk_; have GE0 := ne_; clear nk_ ne_; obtain ⟨hcz1_0, hcz1_1, hcz1_2, hfz1_0, hfz1_1, hfz1_2⟩ := cz3 BK0) | ((with_reducible refine gate_callee (f := 7) rfl ?_); (try (refine gate_guard (by rfl) ?_; dsimp only)); refine gZ 16 Try.func7 #[.agg #[.slice A0_0 l0_0.length c0_0, .slice A0_1 l0_1.length c0_1, .slice A0_2 l0_2.length c0_2], .int .i64 1000000] ?_; (with_reducible refine (laws_szShow.calls k _ _ l0_0 _ _ l0_1 _ _ l0_2 1000000 s1 _ (Kd.C_below HR0_0.out Zd) HC0_0.out (Kd.C_below HR0_1.out Zd) HC0_1.out (Kd.C_below HR0_2.out Zd) HC0_2.out HS1.out).mono ?_); rintro e w1 ⟨rfl, hb⟩; refine ⟨_, rfl, ?_⟩; replace HB := (bsZ Zd hb); replace BK0 := am_ (blk_below (g := g_0) (b0Z BK0) hb); clear hb; obtain ⟨hcz2_0, hcz2_1, hcz2_2, hfz2_0, hfz2_1, hfz2_2⟩ := cz3 BK0) | ((with_reducible refine gate_callee (f := 9) rfl ?_); (try (refine gate_guard (by rfl) ?_; dsimp only)); refine gZ 21 Try.func9 #[.agg #[.slice A0_0 l0_0.length c0_0, .slice A0_1 l0_1.length c0_1, .slice A0_2 l0_2.length c0_2], .bool false] ?_; (with_reducible refine (full_toShow.calls k _ _ l0_0 _ _ l0_1 _ _ l0_2 false L0_0 L0_1 L0_2 _ (Kd.C_below HR0_0.out Zd) HC0_0.out (Kd.C_below HR0_1.out Zd) HC0_1.out (Kd.C_below HR0_2.out Zd) HC0_2.out HF.out.fu0 HF.out.ne0_0 HF.out.ne0_1 HF.out.ne0_2).mono ?_); rintro e w1 ⟨a_1, b_1, a_2, b_2, a_3, b_3, he_, ho0, ho1, ho2, hb⟩; rw [← HF.out.ln0_0, ← HF.out.ln0_1, ← HF.out.ln0_2] at he_; subst he_; refine ⟨_, rfl, ?_⟩; obtain ⟨lo1, hi1, hx0_, hx1_, hx2_, ha_, hz_, _⟩ := Ob_mk3 (base := w.heap.size) ho0 ho1 ho2 hb (below_le Zd) (Nat.succ_le_of_lt (blk_lt (b0Z BK0))); have X1 := am_ hx0_; have X2 := am_ hx1_; have X3 := am_ hx2_; have OX1 := am_ (And.intro ha_ hz_); clear hx0_ hx1_ hx2_ ha_ hz_ ho0 ho1 ho2; replace HB := (bsZ Zd hb); replace BK0 := am_ (blk_below (g := g_0) (b0Z BK0) hb); clear hb; refine ci3 BK0 ?_; intros) | ((with_reducible refine gate_callee (f := 8) rfl ?_); (try (refine gate_guard (by rfl) ?_; dsimp only)); refine gZ 22 Try.func8 #[.agg #[.slice a_1 M0_0.length b_1, .slice a_2 M0_1.length b_2, .slice a_3 M0_2.length b_3]] ?_; (with_reducible refine (spec_FireOrder.calls k _ _ M0_0 _ _ M0_1 _ _ M0_2 q1 q2 _ (fullC (Zas X1) HF.out.tk0_0).1 (fullC X1.out HF.out.tk0_0).2.1 (fullC (Zas X2) HF.out.tk0_1).1 (fullC X2.out HF.out.tk0_1).2.1 (fullC (Zas X3) HF.out.tk0_2).1 (fullC X3.out HF.out.tk0_2).2.1 HF.out.sp).mono ?_); rintro e w1 ⟨v0_, rfl, ho0, hb⟩; refine ⟨_, rfl, ?_⟩; obtain ⟨lo4, hi4, hx_, ha_, hz_, _⟩ := Ob_mk (base := w.heap.size) ho0 hb (below_le Zd) (Ob_hi (Zas X1)); have X4 := am_ hx_; have OX4 := am_ (And.intro ha_ hz_); clear hx_ ha_ hz_ ho0; replace X1 := am_ (Ob_below (Zas X1) hb); replace X2 := am_ (Ob_below (Zas X2) hb); replace X3 := am_ (Ob_below (Zas X3) hb); replace HB := (bsZ Zd hb); replace BK0 := am_ (blk_below (g := g_0) (b0Z BK0) hb); clear hb; refine ci3 BK0 ?_; intros; obtain ⟨a_4, b_4, e_⟩ := Ob_slice X4.out; subst e_) | ((with_reducible refine gate_callee (f := 9) rfl ?_); (try (refine gate_guard (by rfl) ?_; dsimp only)); refine gZ 26 Try.func9 #[.agg #[.slice A0_0 l0_0.length c0_0, .slice A0_1 l0_1.length c0_1, .slice A0_2 l0_2.length c0_2], .bool false] ?_; (with_reducible refine (full_toShow.calls k _ _ l0_0 _ _ l0_1 _ _ l0_2 false L0_0 L0_1 L0_2 _ (Kd.C_below HR0_0.out Zd) HC0_0.out (Kd.C_below HR0_1.out Zd) HC0_1.out (Kd.C_below HR0_2.out Zd) HC0_2.out HF.out.fu0 HF.out.ne0_0 HF.out.ne0_1 HF.out.ne0_2).mono ?_); rintro e w1 ⟨a_5, b_5, a_6, b_6, a_7, b_7, he_, ho0, ho1, ho2, hb⟩; rw [← HF.out.ln0_0, ← HF.out.ln0_1, ← HF.out.ln0_2] at he_; subst he_; refine ⟨_, rfl, ?_⟩; obtain ⟨lo5, hi5, hx0_, hx1_, hx2_, ha_, hz_, _⟩ := Ob_mk3 (base := w.heap.size) ho0 ho1 ho2 hb (below_le Zd) (Ob_hi (Zas X4)); have X5 := am_ hx0_; have X6 := am_ hx1_; have X7 := am_ hx2_; have OX5 := am_ (And.intro ha_ hz_); clear hx0_ hx1_ hx2_ ha_ hz_ ho0 ho1 ho2; replace X1 := am_ (Ob_below (Zas X1) hb); replace X2 := am_ (Ob_below (Zas X2) hb); replace X3 := am_ (Ob_below (Zas X3) hb); replace X4 := am_ (Ob_below (Zas X4) hb); replace HB := (bsZ Zd hb); replace BK0 := am_ (blk_below (g := g_0) (b0Z BK0) hb); clear hb; refine ci3 BK0 ?_; intros) | ((with_reducible refine gate_dst (N := 6) rfl ?_); refine boxZ 6 #[.slice none 0 0, .slice none 0 0, .slice none 0 0] 35 ?_; intro g_91 hg w1 hbox hb; have nk_ := am_ hbox; have ne_ := am_ (Zc : w.heap.size ≤ g_91); have OB91 := am_ (by rw [hg]; exact (Ob_hi (Zas X5)) : hi5 ≤ g_91); clear hbox hg; replace X1 := am_ (Ob_below (Zas X1) hb); replace X2 := am_ (Ob_below (Zas X2) hb); replace X3 := am_ (Ob_below (Zas X3) hb); replace X4 := am_ (Ob_below (Zas X4) hb); replace X5 := am_ (Ob_below (Zas X5) hb); replace X6 := am_ (Ob_below (Zas X6) hb); replace X7 := am_ (Ob_below (Zas X7) hb); replace HB := (bsZ Zd hb); replace BK0 := am_ (blk_below (g := g_0) (b0Z BK0) hb); clear hb; refine ci3 BK0 ?_; intros; have BK91 := nk_; have GE91 := ne_; clear nk_ ne_; skip) | ((with_reducible refine gate_store (t := 35) (p := 6) rfl ?_); obtain ⟨hcz7_0, hcz7_1, hcz7_2, hfz7_0, hfz7_1, hfz7_2⟩ := cz3 BK91; refine store_event (t := 35) (p := 6) (v := ?vo7) (w1 := (((w1.setCell ⟨g_91, 0, none⟩ (.slice a_5 M0_0.length b_5)).setCell ⟨g_91, 1, none⟩ (.slice a_6 M0_1.length b_6)).setCell ⟨g_91, 2, none⟩ (.slice a_7 M0_2.length b_7))) ?hg ?ho ?hn ?hr ?_; (case ho => rfl); (case hg => rfl); (case hn => rfl); (case hr => first | (go_simp; done) | (go_simp; rfl)); intro w2 hw; clear hcz7_0 hfz7_0 hcz7_1 hfz7_1 hcz7_2 hfz7_2; have n0_ := am_ (Ob_set (g := g_91) (j := 2) (Ob_set (g := g_91) (j := 1) (Ob_set (g := g_91) (j := 0) (X1.out) Zat (.slice a_5 M0_0.length b_5)) Zat (.slice a_6 M0_1.length b_6)) Zat (.slice a_7 M0_2.length b_7)); rw [← hw] at n0_; have n1_ := am_ (Ob_set (g := g_91) (j := 2) (Ob_set (g := g_91) (j := 1) (Ob_set (g := g_91) (j := 0) (X2.out) Zat (.slice a_5 M0_0.length b_5)) Zat (.slice a_6 M0_1.length b_6)) Zat (.slice a_7 M0_2.length b_7)); rw [← hw] at n1_; have n2_ := am_ (Ob_set (g := g_91) (j := 2) (Ob_set (g := g_91) (j := 1) (Ob_set (g := g_91) (j := 0) (X3.out) Zat (.slice a_5 M0_0.length b_5)) Zat (.slice a_6 M0_1.length b_6)) Zat (.slice a_7 M0_2.length b_7)); rw [← hw] at n2_; have n3_ := am_ (Ob_set (g := g_91) (j := 2) (Ob_set (g := g_91) (j := 1) (Ob_set (g := g_91) (j := 0) (X4.out) Zat (.slice a_5 M0_0.length b_5)) Zat (.slice a_6 M0_1.length b_6)) Zat (.slice a_7 M0_2.length b_7)); rw [← hw] at n3_; have n4_ := am_ (Ob_set (g := g_91) (j := 2) (Ob_set (g := g_91) (j := 1) (Ob_set (g := g_91) (j := 0) (X5.out) Zat (.slice a_5 M0_0.length b_5)) Zat (.slice a_6 M0_1.length b_6)) Zat (.slice a_7 M0_2.length b_7)); rw [← hw] at n4_; have n5_ := am_ (Ob_set (g := g_91) (j := 2) (Ob_set (g := g_91) (j := 1) (Ob_set (g := g_91) (j := 0) (X6.out) Zat (.slice a_5 M0_0.length b_5)) Zat (.slice a_6 M0_1.length b_6)) Zat (.slice a_7 M0_2.length b_7)); rw [← hw] at n5_; have n6_ := am_ (Ob_set (g := g_91) (j := 2) (Ob_set (g := g_91) (j := 1) (Ob_set (g := g_91) (j := 0) (X7.out) Zat (.slice a_5 M0_0.length b_5)) Zat (.slice a_6 M0_1.length b_6)) Zat (.slice a_7 M0_2.length b_7)); rw [← hw] at n6_; have nb_ : Aside0 (Below w.heap.size w w2) := ⟨by rw [hw]; exact below_set (below_set (below_set (HB.out) GE91.out) GE91.out) GE91.out⟩; have nk0_ : Aside0 (w2.heap[g_0]? = some (.cells #[.slice A0_0 l0_0.length c0_0, .slice A0_1 l0_1.length c0_1, .slice A0_2 l0_2.length c0_2] 26 (0, 0))) := ⟨by rw [hw]; exact blk_far (blk_far (blk_far (BK0.out) (show g_0 ≠ g_91 from Zat) _) (show g_0 ≠ g_91 from Zat) _) (show g_0 ≠ g_91 from Zat) _⟩; have nk91_ : Aside0 (w2.heap[g_91]? = some (.cells #[.slice a_5 M0_0.length b_5, .slice a_6 M0_1.length b_6, .slice a_7 M0_2.length b_7] 35 (0, 0))) := ⟨by rw [hw]; exact blk_put (cs := #[.slice a_5 M0_0.length b_5, .slice a_6 M0_1.length b_6, .slice none 0 0]) (blk_put (cs := #[.slice a_5 M0_0.length b_5, .slice none 0 0, .slice none 0 0]) (blk_put (cs := #[.slice none 0 0, .slice none 0 0, .slice none 0 0]) (BK91.out) 0 _ rfl) 1 _ rfl) 2 _ rfl⟩; clear X1; clear X2; clear X3; clear X4; clear X5; clear X6; clear X7; clear HB; have X1 := n0_; clear n0_; have X2 := n1_; clear n1_; have X3 := n2_; clear n2_; have X4 := n3_; clear n3_; have X5 := n4_; clear n4_; have X6 := n5_; clear n5_; have X7 := n6_; clear n6_; have HB := nb_; clear nb_ hw; clear BK0; have BK0 := nk0_; clear nk0_; clear BK91; have BK91 := nk91_; clear nk91_; refine ci3 BK0 ?_; intros; refine ci3 BK91 ?_; intros) | ((with_reducible refine gate_callee (f := 10) rfl ?_); (try (refine gate_guard (by rfl) ?_; dsimp only)); refine gZ 29 Try.func10 #[.agg #[.slice a_5 M0_0.length b_5, .slice a_6 M0_1.length b_6, .slice a_7 M0_2.length b_7]] ?_; (with_reducible refine (impl_FireOrder.calls k _ _ M0_0 _ _ M0_1 _ _ M0_2 q1 q2 _ (fullC (Zas X5) HF.out.tk0_0).1 (fullC X5.out HF.out.tk0_0).2.1 (fullC (Zas X6) HF.out.tk0_1).1 (fullC X6.out HF.out.tk0_1).2.1 (fullC (Zas X7) HF.out.tk0_2).1 (fullC X7.out HF.out.tk0_2).2.1 HF.out.im).mono ?_); rintro e w1 ⟨v0_, rfl, ho0, hb⟩; refine ⟨_, rfl, ?_⟩; obtain ⟨lo8, hi8, hx_, ha_, hz_, _⟩ := Ob_mk (base := w.heap.size) ho0 hb (below_le Zd) (Nat.succ_le_of_lt (blk_lt (b0Z BK91))); have X8 := am_ hx_; have OX8 := am_ (And.intro ha_ hz_); clear hx_ ha_ hz_ ho0; replace X1 := am_ (Ob_below (Zas X1) hb); replace X2 := am_ (Ob_below (Zas X2) hb); replace X3 := am_ (Ob_below (Zas X3) hb); replace X4 := am_ (Ob_below (Zas X4) hb); replace X5 := am_ (Ob_below (Zas X5) hb); replace X6 := am_ (Ob_below (Zas X6) hb); replace X7 := am_ (Ob_below (Zas X7) hb); replace HB := (bsZ Zd hb); replace BK0 := am_ (blk_below (g := g_0) (b0Z BK0) hb); replace BK91 := am_ (blk_below (g := g_91) (b0Z BK91) hb); clear hb; refine ci3 BK0 ?_; intros; refine ci3 BK91 ?_; intros; obtain ⟨a_8, b_8, e_⟩ := Ob_slice X8.out; subst e_) | ((with_reducible refine gate_callee (f := 11) rfl ?_); (try (refine gate_guard (by rfl) ?_; dsimp only)); refine gZ 34 Try.func11 #[.slice a_8 q1.length b_8, .slice a_4 q1.length b_4] ?_; (with_reducible refine (laws_eqInt64S.calls k _ _ q1 _ _ q1 true _ (Ob_C (Zas X8)).2.2 (Ob_C X8.out).2.1 (Ob_C (Zas X4)).2.2 (Ob_C X4.out).2.1 HF.out.er).mono ?_); rintro e w' ⟨rfl, ⟨nd, rfl⟩⟩; refine ⟨_, rfl, ?_⟩))
 refine start_w (n := 5) (S := fun w' => w'.cell? ⟨g_91, 0, none⟩ = some (.slice a_5 M0_0.length b_5) ∧ w'.cell? ⟨g_91, 1, none⟩ = some (.slice a_6 M0_1.length b_6) ∧ w'.cell? ⟨g_91, 2, none⟩ = some (.slice a_7 M0_2.length b_7) ∧ w'.cell? ⟨g_0, 0, none⟩ = some (.slice A0_0 l0_0.length c0_0) ∧ w'.cell? ⟨g_0, 1, none⟩ = some (.slice A0_1 l0_1.length c0_1) ∧ w'.cell? ⟨g_0, 2, none⟩ = some (.slice A0_2 l0_2.length c0_2)) (ds := []) (bT 5 0) Zi rfl rfl (fun w1 hb => ?_); replace X1 := am_ (Ob_below (Zas X1) hb); replace X2 := am_ (Ob_below (Zas X2) hb); replace X3 := am_ (Ob_below (Zas X3) hb); replace X4 := am_ (Ob_below (Zas X4) hb); replace X5 := am_ (Ob_below (Zas X5) hb); replace X6 := am_ (Ob_below (Zas X6) hb); replace X7 := am_ (Ob_below (Zas X7) hb); replace X8 := am_ (Ob_below (Zas X8) hb); replace HB := (bsZ Zd hb); replace BK0 := am_ (blk_below (g := g_0) (b0Z BK0) hb); replace BK91 := am_ (blk_below (g := g_91) (b0Z BK91) hb); clear hb; refine ci3 BK0 ?_; intros; refine ci3 BK91 ?_; intros; refine ⟨⟨(blk_cell BK91.out 0).trans rfl, (blk_cell BK91.out 1).trans rfl, (blk_cell BK91.out 2).trans rfl, (blk_cell BK0.out 0).trans rfl, (blk_cell BK0.out 1).trans rfl, (blk_cell BK0.out 2).trans rfl⟩, fun hHeld => ?_⟩; refine with_tabW law_FnExactFireOrder.tab law_FnExactFireOrder.bits (fun HT_ HW_ => ?_); refine takeZ6 HT_ HW_ 0 (some 41) (bT 5 1) hHeld ?_; refine takeZ6 HT_ HW_ 1 (some 42) (bT 5 2) hHeld ?_; refine one_ (i := 2) (N := some 43) (bT 5 3) rfl rfl (one_of HT_.out Zi) (by decide) (fun K hK => ?_); refine goes_ Try.func9 Zi rfl #[.agg #[.slice A0_0 l0_0.length c0_0, .slice A0_1 l0_1.length c0_1, .slice A0_2 l0_2.length c0_2], .bool false] (by rfl) rfl rfl Zr ?_
 (with_reducible refine (full_toShow.calls k _ _ l0_0 _ _ l0_1 _ _ l0_2 false L0_0 L0_1 L0_2 _ (Kd.C_below HR0_0.out Zd) HC0_0.out (Kd.C_below HR0_1.out Zd) HC0_1.out (Kd.C_below HR0_2.out Zd) HC0_2.out HF.out.fu0 HF.out.ne0_0 HF.out.ne0_1 HF.out.ne0_2).mono ?_)
 rintro e w1 ⟨a_9, b_9, a_10, b_10, a_11, b_11, he_, ho0, ho1, ho2, hb⟩; rw [← HF.out.ln0_0, ← HF.out.ln0_1, ← HF.out.ln0_2] at he_; subst he_; refine ⟨_, rfl, ?_⟩; obtain ⟨lo9, hi9, hx0_, hx1_, hx2_, ha_, hz_, _⟩ := Ob_mk3 (base := w.heap.size) ho0 ho1 ho2 hb (below_le Zd) (Ob_hi (Zas X8)); have X9 := am_ hx0_; have X10 := am_ hx1_; have X11 := am_ hx2_; have OX9 := am_ (And.intro ha_ hz_); clear hx0_ hx1_ hx2_ ha_ hz_ ho0 ho1 ho2; replace X1 := am_ (Ob_below (Zas X1) hb); replace X2 := am_ (Ob_below (Zas X2) hb); replace X3 := am_ (Ob_below (Zas X3) hb); replace X4 := am_ (Ob_below (Zas X4) hb); replace X5 := am_ (Ob_below (Zas X5) hb); replace X6 := am_ (Ob_below (Zas X6) hb); replace X7 := am_ (Ob_below (Zas X7) hb); replace X8 := am_ (Ob_below (Zas X8) hb); replace HB := (bsZ Zd hb); replace BK0 := am_ (blk_below (g := g_0) (b0Z BK0) hb); replace BK91 := am_ (blk_below (g := g_91) (b0Z BK91) hb); clear hb; refine ci3 BK0 ?_; intros; refine ci3 BK91 ?_; intros; clear hHeld; refine hK.out _ _ (by exact ⟨(blk_cell BK91.out 0).trans rfl, (blk_cell BK91.out 1).trans rfl, (blk_cell BK91.out 2).trans rfl, (blk_cell BK0.out 0).trans rfl, (blk_cell BK0.out 1).trans rfl, (blk_cell BK0.out 2).trans rfl⟩) (fun hHeld => ?_); clear hK K; refine normZ 43 ?_; refine one_ (i := 3) (N := some 44) (bT 5 4) rfl rfl (one_of HT_.out Zi) (by decide) (fun K hK => ?_); refine goes_ Try.func12 Zi rfl #[.agg #[.slice a_5 M0_0.length b_5, .slice a_6 M0_1.length b_6, .slice a_7 M0_2.length b_7], .agg #[.slice a_9 M0_0.length b_9, .slice a_10 M0_1.length b_10, .slice a_11 M0_2.length b_11]] (by rfl) rfl rfl Zr ?_
 (with_reducible refine (same_intactShow k M0_0.length M0_1.length M0_2.length _ _ _ _ _ _ _ _ _ _ _ _ L0_0 L0_1 L0_2 t0_0 t0_1 t0_2 _ (fullC (Zas X5) HF.out.tk0_0).2.2.2 (fullC X5.out HF.out.tk0_0).2.2.1 (fullC (Zas X9) HF.out.tk0_0).2.2.2 (fullC X9.out HF.out.tk0_0).2.2.1 HF.out.rm0_0 HF.out.jn0_0 HF.out.eq0_0 (fullC (Zas X6) HF.out.tk0_1).2.2.2 (fullC X6.out HF.out.tk0_1).2.2.1 (fullC (Zas X10) HF.out.tk0_1).2.2.2 (fullC X10.out HF.out.tk0_1).2.2.1 HF.out.rm0_1 HF.out.jn0_1 HF.out.eq0_1 (fullC (Zas X7) HF.out.tk0_2).2.2.2 (fullC X7.out HF.out.tk0_2).2.2.1 (fullC (Zas X11) HF.out.tk0_2).2.2.2 (fullC X11.out HF.out.tk0_2).2.2.1 HF.out.rm0_2 HF.out.jn0_2 HF.out.eq0_2).mono ?_)
 rintro e w1 ⟨rfl, hb⟩; refine ⟨_, rfl, ?_⟩; replace X1 := am_ (Ob_below (Zas X1) hb); replace X2 := am_ (Ob_below (Zas X2) hb); replace X3 := am_ (Ob_below (Zas X3) hb); replace X4 := am_ (Ob_below (Zas X4) hb); replace X5 := am_ (Ob_below (Zas X5) hb); replace X6 := am_ (Ob_below (Zas X6) hb); replace X7 := am_ (Ob_below (Zas X7) hb); replace X8 := am_ (Ob_below (Zas X8) hb); replace X9 := am_ (Ob_below (Zas X9) hb); replace X10 := am_ (Ob_below (Zas X10) hb); replace X11 := am_ (Ob_below (Zas X11) hb); replace HB := (bsZ Zd hb); replace BK0 := am_ (blk_below (g := g_0) (b0Z BK0) hb); replace BK91 := am_ (blk_below (g := g_91) (b0Z BK91) hb); clear hb; refine ci3 BK0 ?_; intros; refine ci3 BK91 ?_; intros; clear hHeld; refine hK.out _ _ (by exact ⟨(blk_cell BK91.out 0).trans rfl, (blk_cell BK91.out 1).trans rfl, (blk_cell BK91.out 2).trans rfl, (blk_cell BK0.out 0).trans rfl, (blk_cell BK0.out 1).trans rfl, (blk_cell BK0.out 2).trans rfl⟩) (fun hHeld => ?_); clear hK K; refine normZ 44 ?_; refine pureZ HT_ 4 (some 45) (bT 5 5) ?_; refine done_ (done_of HT_.out Zi) ?_; clear hHeld HT_ HW_
 go_wp2_with (first | ((with_reducible refine gate_callee (f := 13) rfl ?_); (try (refine gate_guard (by rfl) ?_; dsimp only)); refine gZ 48 Try.func13 #[.agg #[.slice a_5 M0_0.length b_5, .slice a_6 M0_1.length b_6, .slice a_7 M0_2.length b_7], .int .i64 101] ?_; (with_reducible refine (laws_markShow.calls k _ _ M0_0 _ _ M0_1 _ _ M0_2 101 k1 M0_0k M0_1k M0_2k w _ Zd (Ob_R (lo := lo5) (hi := hi5) (fullT (Zas X5) HF.out.tk0_0)) (Ob_R (lo := lo5) (hi := hi5) (fullT (Zas X6) HF.out.tk0_1)) (Ob_R (lo := lo5) (hi := hi5) (fullT (Zas X7) HF.out.tk0_2)) HF.out.mk1).mono ?_); rintro e w1 ⟨rfl, hr0_, hr1_, hr2_, hB_, hk3_⟩; refine ⟨_, rfl, ?_⟩; have hk_ := Kept3 hk3_; clear hk3_; have n0_ := am_ (Ob_kept (Zas X1) hk_ Zau); have n1_ := am_ (Ob_kept (Zas X2) hk_ Zau); have n2_ := am_ (Ob_kept (Zas X3) hk_ Zau); have n3_ := am_ (Ob_kept (Zas X4) hk_ Zau); have n4_ := am_ (Ob_kept (Zas X8) hk_ Zau); have n5_ := am_ (Ob_kept (Zas X9) hk_ Zau); have n6_ := am_ (Ob_kept (Zas X10) hk_ Zau); have n7_ := am_ (Ob_kept (Zas X11) hk_ Zau); have nk0_ := am_ ((hk_.2 g_0 (blk_lt (g := g_0) (b0Z BK0)) Zau).trans (show _ = some (Obj.cells #[.slice A0_0 l0_0.length c0_0, .slice A0_1 l0_1.length c0_1, .slice A0_2 l0_2.length c0_2] 26 (0, 0)) from (b0Z BK0))); have nk91_ := am_ ((hk_.2 g_91 (blk_lt (g := g_91) (b0Z BK91)) Zau).trans (show _ = some (Obj.cells #[.slice a_5 M0_0.length b_5, .slice a_6 M0_1.length b_6, .slice a_7 M0_2.length b_7] 35 (0, 0)) from (b0Z BK91))); clear X1; clear X2; clear X3; clear X4; clear X5; clear X6; clear X7; clear X8; clear X9; clear X10; clear X11; clear HB; have X1 := n0_; clear n0_; have X2 := n1_; clear n1_; have X3 := n2_; clear n2_; have X4 := n3_; clear n3_; have X8 := n4_; clear n4_; have X9 := n5_; clear n5_; have X10 := n6_; clear n6_; have X11 := n7_; clear n7_; have HB := am_ hB_; clear hB_ hk_; clear BK0; have BK0 := nk0_; clear nk0_; refine ci3 BK0 ?_; intros; clear BK91; have BK91 := nk91_; clear nk91_; refine ci3 BK91 ?_; intros; clear hr0_ hr1_ hr2_) | ((with_reducible refine gate_callee (f := 11) rfl ?_); (try (refine gate_guard (by rfl) ?_; dsimp only)); refine gZ 54 Try.func11 #[.slice a_8 q1.length b_8, .slice a_4 q1.length b_4] ?_; (with_reducible refine (laws_eqInt64S.calls k _ _ q1 _ _ q1 true _ (Ob_C (Zas X8)).2.2 (Ob_C X8.out).2.1 (Ob_C (Zas X4)).2.2 (Ob_C X4.out).2.1 HF.out.er).mono ?_); rintro e w' ⟨rfl, ⟨nd, rfl⟩⟩; refine ⟨_, rfl, ?_⟩) | ((with_reducible refine gate_callee (f := 14) rfl ?_); (try (refine gate_guard (by rfl) ?_; dsimp only)); refine gZ 64 Try.func14 #[.slice a_8 q1.length b_8, .int .i64 101] ?_; (with_reducible refine (laws_markInt64S.calls k _ _ q1 101 m1 q1k w _ Zd (Ob_R (lo := lo8) (hi := hi8) (Zas X8)) HF.out.mg).mono ?_); rintro e w1 ⟨rfl, hr_, hB_, hk_⟩; refine ⟨_, rfl, ?_⟩; have n0_ := am_ (Ob_kept (Zas X1) hk_ Zau); have n1_ := am_ (Ob_kept (Zas X2) hk_ Zau); have n2_ := am_ (Ob_kept (Zas X3) hk_ Zau); have n3_ := am_ (Ob_kept (Zas X4) hk_ Zau); have n4_ := am_ (Ob_kept (Zas X9) hk_ Zau); have n5_ := am_ (Ob_kept (Zas X10) hk_ Zau); have n6_ := am_ (Ob_kept (Zas X11) hk_ Zau); have nk0_ := am_ ((hk_.2 g_0 (blk_lt (g := g_0) (b0Z BK0)) Zau).trans (show _ = some (Obj.cells #[.slice A0_0 l0_0.length c0_0, .slice A0_1 l0_1.length c0_1, .slice A0_2 l0_2.length c0_2] 26 (0, 0)) from (b0Z BK0))); have nk91_ := am_ ((hk_.2 g_91 (blk_lt (g := g_91) (b0Z BK91)) Zau).trans (show _ = some (Obj.cells #[.slice a_5 M0_0.length b_5, .slice a_6 M0_1.length b_6, .slice a_7 M0_2.length b_7] 35 (0, 0)) from (b0Z BK91))); have ng_ := am_ (show Ob _ _ _ w.heap.size _ _ _ _ from ⟨Kd.R_mono (Kd.R_bound hr_) (fun _ hz => ⟨hz.2.1, hz.2.2.1⟩), Nat.le_refl _, Nat.le_refl _⟩); clear X1; clear X2; clear X3; clear X4; clear X8; clear X9; clear X10; clear X11; clear HB; have X1 := n0_; clear n0_; have X2 := n1_; clear n1_; have X3 := n2_; clear n2_; have X4 := n3_; clear n3_; have X9 := n4_; clear n4_; have X10 := n5_; clear n5_; have X11 := n6_; clear n6_; have HB := am_ hB_; clear hB_ hk_; clear BK0; have BK0 := nk0_; clear nk0_; refine ci3 BK0 ?_; intros; clear BK91; have BK91 := nk91_; clear nk91_; refine ci3 BK91 ?_; intros; have X8 := ng_; clear ng_ hr_; skip) | ((with_reducible refine gate_callee (f := 15) rfl ?_); (try (refine gate_guard (by rfl) ?_; dsimp only)); refine gZ 67 Try.func15 #[.slice a_8 q1.length b_8, .int .i64 101] ?_; (with_reducible refine (calls_len HF.out.hl (laws_heldInt64S.calls k _ _ q1k 101 m1 _ (Ob_C (Zas X8)).2.2 (Ob_C X8.out).2.1 HF.out.hd)).mono ?_); rintro e w' ⟨rfl, ⟨nd, rfl⟩⟩; refine ⟨_, rfl, ?_⟩) | ((with_reducible refine gate_callee (f := 9) rfl ?_); (try (refine gate_guard (by rfl) ?_; dsimp only)); refine gZ 75 Try.func9 #[.agg #[.slice A0_0 l0_0.length c0_0, .slice A0_1 l0_1.length c0_1, .slice A0_2 l0_2.length c0_2], .bool true] ?_; (with_reducible refine (laws_toShow.calls k _ _ l0_0 _ _ l0_1 _ _ l0_2 true M0_0 M0_1 M0_2 _ (Kd.C_below HR0_0.out Zd) HC0_0.out (Kd.C_below HR0_1.out Zd) HC0_1.out (Kd.C_below HR0_2.out Zd) HC0_2.out HF.out.to0).mono ?_); rintro e w1 ⟨v0_, v1_, v2_, rfl, ho0, ho1, ho2, hb⟩; refine ⟨_, rfl, ?_⟩; obtain ⟨lo12, hi12, hx0_, hx1_, hx2_, ha_, hz_, _⟩ := Ob_mk3 (base := w.heap.size) ho0 ho1 ho2 hb (below_le Zd) (Ob_hi (Zas X9)); have X12 := am_ hx0_; have X13 := am_ hx1_; have X14 := am_ hx2_; have OX12 := am_ (And.intro ha_ hz_); clear hx0_ hx1_ hx2_ ha_ hz_ ho0 ho1 ho2; replace X4 := am_ (Ob_below (Zas X4) hb); replace X8 := am_ (Ob_below (Zas X8) hb); replace HB := (bsZ Zd hb); replace BK0 := am_ (blk_below (g := g_0) (b0Z BK0) hb); replace BK91 := am_ (blk_below (g := g_91) (b0Z BK91) hb); clear hb; refine ci3 BK0 ?_; intros; refine ci3 BK91 ?_; intros; obtain ⟨a_12, b_12, e_⟩ := Ob_slice X12.out; subst e_; obtain ⟨a_13, b_13, e_⟩ := Ob_slice X13.out; subst e_; obtain ⟨a_14, b_14, e_⟩ := Ob_slice X14.out; subst e_) | ((with_reducible refine gate_callee (f := 10) rfl ?_); (try (refine gate_guard (by rfl) ?_; dsimp only)); refine gZ 76 Try.func10 #[.agg #[.slice a_12 M0_0.length b_12, .slice a_13 M0_1.length b_13, .slice a_14 M0_2.length b_14]] ?_; (with_reducible refine (impl_FireOrder.calls k _ _ M0_0 _ _ M0_1 _ _ M0_2 q1 q2 _ (Ob_C (Zas X12)).2.2 (Ob_C X12.out).2.1 (Ob_C (Zas X13)).2.2 (Ob_C X13.out).2.1 (Ob_C (Zas X14)).2.2 (Ob_C X14.out).2.1 HF.out.im).mono ?_); rintro e w1 ⟨v0_, rfl, ho0, hb⟩; refine ⟨_, rfl, ?_⟩; obtain ⟨lo15, hi15, hx_, ha_, hz_, _⟩ := Ob_mk (base := w.heap.size) ho0 hb (below_le Zd) (Ob_hi (Zas X12)); have X15 := am_ hx_; have OX15 := am_ (And.intro ha_ hz_); clear hx_ ha_ hz_ ho0; replace X4 := am_ (Ob_below (Zas X4) hb); replace X8 := am_ (Ob_below (Zas X8) hb); replace HB := (bsZ Zd hb); replace BK0 := am_ (blk_below (g := g_0) (b0Z BK0) hb); replace BK91 := am_ (blk_below (g := g_91) (b0Z BK91) hb); clear hb; refine ci3 BK0 ?_; intros; refine ci3 BK91 ?_; intros; obtain ⟨a_15, b_15, e_⟩ := Ob_slice X15.out; subst e_) | ((with_reducible refine gate_callee (f := 11) rfl ?_); (try (refine gate_guard (by rfl) ?_; dsimp only)); refine gZ 81 Try.func11 #[.slice a_15 q1.length b_15, .slice a_4 q1.length b_4] ?_; (with_reducible refine (laws_eqInt64S.calls k _ _ q1 _ _ q1 true _ (Ob_C (Zas X15)).2.2 (Ob_C X15.out).2.1 (Ob_C (Zas X4)).2.2 (Ob_C X4.out).2.1 HF.out.er).mono ?_); rintro e w' ⟨rfl, ⟨nd, rfl⟩⟩; refine ⟨_, rfl, ?_⟩) | ((with_reducible refine gate_callee (f := 15) rfl ?_); (try (refine gate_guard (by rfl) ?_; dsimp only)); refine gZ 90 Try.func15 #[.slice a_8 q1.length b_8, .int .i64 101] ?_; (with_reducible refine (calls_len HF.out.hl (laws_heldInt64S.calls k _ _ q1k 101 m1 _ (Ob_C (Zas X8)).2.2 (Ob_C X8.out).2.1 HF.out.hd)).mono ?_); rintro e w' ⟨rfl, ⟨nd, rfl⟩⟩; refine ⟨_, rfl, ?_⟩))
 go_ret
 exact ⟨rfl, Zd⟩
def Evt (P : Nat → Prop) : Prop := ∃ K, ∀ k, K ≤ k → P k
theorem Evt.and {P Q : Nat → Prop} (h : Evt P) (h' : Evt Q) : Evt (fun k => P k ∧ Q k) := by
 obtain ⟨K, h⟩ := h; obtain ⟨K', h'⟩ := h'; exact ⟨K + K', fun k hk => ⟨h k (by omega), h' k (by omega)⟩⟩
theorem Evt.mono {P Q : Nat → Prop} (h : Evt P) (hq : ∀ k, P k → Q k) : Evt Q := by
 obtain ⟨K, h⟩ := h; exact ⟨K, fun k hk => hq k (h k hk)⟩
theorem Evt.of {P : Nat → Prop} (h : ∀ k, P k) : Evt P := ⟨0, fun k _ => h k⟩
theorem Evt.ex {P : Nat → Prop} (h : Evt P) : ∃ k, P k := by
 obtain ⟨K, h⟩ := h; exact ⟨K, h K (Nat.le_refl _)⟩
theorem Evt.succ {P : Nat → Prop} (h : Evt (fun k => P (k + 1))) : Evt P := by
 obtain ⟨K, h⟩ := h; refine ⟨K + 1, fun k hk => ?_⟩; obtain ⟨m, rfl⟩ : ∃ m, k = m + 1 := ⟨k - 1, by omega⟩; exact h m (by omega)
theorem w64 {n : Int} (h : -9223372036854775808 ≤ n ∧ n ≤ 9223372036854775807) : wrap64 n = n := by unfold wrap64; omega
theorem room_some (n : Nat) : ∃ t : Int, laws_roomBehind.f (n : Int) = some t ∧ 0 ≤ t ∧ t ≤ n + 1 ∧ (n = 0 → 1 ≤ t) := by
 unfold laws_roomBehind.f
 have h6 : Int.tmod (n : Int) 6 = (n : Int) % 6 := Int.tmod_eq_emod_of_nonneg (by omega); have h3 : Int.tmod (n : Int) 3 = (n : Int) % 3 := Int.tmod_eq_emod_of_nonneg (by omega); rw [h6, h3]
 by_cases a : (n : Int) % 6 = 5
 ·rw [if_pos a]
  exact ⟨0, rfl, by omega, by omega, by omega⟩
 ·rw [if_neg a]
  by_cases b : (n : Int) % 3 = 0
  ·rw [if_pos b]
   exact ⟨1, rfl, by omega, by omega, by omega⟩
  ·rw [if_neg b]
   exact ⟨n, rfl, by omega, by omega, by omega⟩
theorem getD_at {α : Type} (xs : List α) (z : α) (i : Nat) (h : i < xs.length) : xs.getD ((i : Int)).toNat z = xs[i] := by
 rw [Int.toNat_natCast, List.getD_eq_getElem?_getD, List.getElem?_eq_getElem h]; rfl
theorem take_set_ge {α : Type} (xs : List α) (n i : Nat) (v : α) (h : n ≤ i) : (xs.set i v).take n = xs.take n := by
 apply List.ext_getElem?
 intro j; simp only [List.getElem?_take, List.getElem?_set]
 by_cases hj : j < n
 ·rw [if_pos hj, if_pos hj, if_neg (by omega)]
 ·rw [if_neg hj, if_neg hj]
theorem take_set_snoc {α : Type} (xs : List α) (i : Nat) (v : α) (h : i < xs.length) : (xs.set i v).take (i + 1) = xs.take i ++ [v] := by
 rw [List.take_succ_eq_append_getElem (by simpa using h), take_set_ge _ _ _ _ (Nat.le_refl _), List.getElem_set_self]
def allF (p : Nat → Bool) : Nat → Nat → Bool
 | _, 0 => true
 | i, d + 1 => p i && allF p (i + 1) d
theorem allF_true {p : Nat → Bool} : ∀ (d i : Nat), allF p i d = true ↔ ∀ j, i ≤ j → j < i + d → p j = true
 | 0, i => by simp [allF]; intro j h1 h2; omega
 | d + 1, i => by
  unfold allF
  rw [Bool.and_eq_true, allF_true d (i + 1)]; constructor
  ·rintro ⟨h1, h2⟩ j h3 h4
   rcases Nat.eq_or_lt_of_le h3 with e | e
   ·exact e ▸ h1
   ·exact h2 j e (by omega)
  ·exact fun h => ⟨h i (Nat.le_refl _) (by omega), fun j h1 h2 => h j (by omega) (by omega)⟩
theorem all_loopF {f : Nat → Nat → Option Bool} {p : Nat → Bool} {e : Bool} (a n : Nat) (hs : ∀ k i, a ≤ i → i < n → f (k + 1) i = if p i = true then f k (i + 1) else some false) (he : ∀ k, f (k + 1) n = some e) :
  ∀ d k i, a ≤ i → n - i = d → i ≤ n → d < k → f k i = some (allF p i d && e) := by
 intro d
 induction d with
 | zero =>
  intro k i ha hd hi hk; obtain ⟨k, rfl⟩ : ∃ m, k = m + 1 := ⟨k - 1, by omega⟩
  have : i = n := by omega
  subst this; rw [he]
  rfl
 | succ d ih =>
  intro k i ha hd hi hk; obtain ⟨k, rfl⟩ : ∃ m, k = m + 1 := ⟨k - 1, by omega⟩; rw [hs k i ha (by omega)]
  unfold allF
  by_cases hp : p i = true
  ·rw [if_pos hp, ih k (i + 1) (by omega) (by omega) (by omega) (by omega), hp, Bool.true_and]
  ·rw [if_neg hp]
   replace hp := Bool.eq_false_iff.mpr hp; rw [hp, Bool.false_and, Bool.false_and]
theorem all_loop {f : Nat → Nat → Option Bool} {p : Nat → Bool} {e : Bool} (n : Nat) (hs : ∀ k i, i < n → f (k + 1) i = if p i = true then f k (i + 1) else some false) (he : ∀ k, f (k + 1) n = some e) :
  ∀ d k i, n - i = d → i ≤ n → d < k → f k i = some (allF p i d && e) := fun d k i => all_loopF 0 n (fun k i _ h => hs k i h) he d k i (Nat.zero_le _)
def foldF {σ : Type} (step : Nat → σ → σ) : Nat → Nat → σ → σ
 | _, 0, s => s
 | i, d + 1, s => foldF step (i + 1) d (step i s)
theorem foldF_snoc {σ : Type} (f : Nat → σ → σ) : ∀ (d i : Nat) (s : σ), foldF f i (d + 1) s = f (i + d) (foldF f i d s)
 | 0, i, s => rfl
 | d + 1, i, s => by
  have h := foldF_snoc f d (i + 1) (f i s); rw [show i + 1 + d = i + (d + 1) by omega] at h; exact h
theorem fold_loop {σ β : Type} {f : Nat → Nat → σ → Option β} {step : Nat → σ → σ} {I : Nat → σ → Prop} {e : σ → Option β} (n : Nat) (hs : ∀ k i s, i < n → I i s → f (k + 1) i s = f k (i + 1) (step i s)) (hI : ∀ i s, i < n → I i s → I (i + 1) (step i s)) (he : ∀ k s, I n s → f (k + 1) n s = e s) :
  ∀ d k i s, n - i = d → i ≤ n → I i s → d < k → f k i s = e (foldF step i d s) := by
 intro d
 induction d with
 | zero =>
  intro k i s hd hi h0 hk; obtain ⟨k, rfl⟩ : ∃ m, k = m + 1 := ⟨k - 1, by omega⟩
  have : i = n := by omega
  subst this; exact he k s h0
 | succ d ih =>
  intro k i s hd hi h0 hk; obtain ⟨k, rfl⟩ : ∃ m, k = m + 1 := ⟨k - 1, by omega⟩; rw [hs k i s (by omega) h0]; exact ih k (i + 1) _ (by omega) (by omega) (hI i s (by omega) h0) (by omega)
def inB (n lo hi : Int) : Bool := decide (lo ≤ n ∧ n ≤ hi)
theorem inB_true {n lo hi : Int} : inB n lo hi = true ↔ lo ≤ n ∧ n ≤ hi := by unfold inB; exact decide_eq_true_iff
theorem inB_false {n lo hi : Int} : inB n lo hi = false ↔ ¬ (lo ≤ n ∧ n ≤ hi) := by unfold inB; exact decide_eq_false_iff_not
theorem set_set {α : Type} (xs : List α) (i : Nat) (a b : α) : (xs.set i a).set i b = xs.set i b := by simp
theorem getD_set {α : Type} (xs : List α) (i : Nat) (v z : α) (h : i < xs.length) : (xs.set i v).getD i z = v := by
 rw [List.getD_eq_getElem?_getD, List.getElem?_set_self h]; rfl
theorem set_take_app {α : Type} (xs ys : List α) (i : Nat) (v : α) (hi : i < xs.length) : ((xs.set i v).take (i + 1)) ++ ys = xs.take i ++ (v :: ys) := by
 rw [take_set_snoc _ _ _ hi, List.append_assoc, List.singleton_append]
theorem getD_take {α : Type} (xs : List α) (z : α) (n i : Nat) (h : i < n) : (xs.take n).getD i z = xs.getD i z := by
 rw [List.getD_eq_getElem?_getD, List.getD_eq_getElem?_getD, List.getElem?_take, if_pos h]
theorem getD_app {α : Type} (xs ys : List α) (z : α) (i : Nat) (h : xs.length = i) : (xs ++ ys).getD i z = ys.getD 0 z := by
 rw [List.getD_eq_getElem?_getD, List.getD_eq_getElem?_getD, List.getElem?_append_right (by omega), h, Nat.sub_self]
def conv_BarS (x : S106) : S104 := ⟨x.f0, x.f1⟩
theorem full_BarS_l1 (d : Nat) : ∀ (k : Nat) (x0 : List S106) (x5 : List S104) (i : Nat), x5.length - i = d → x0.length ≤ i → i ≤ x5.length → x5.length ≤ 4000000 → d < k →
  full_toBarS.l1 k x0 x5 (i : Int) = some (x5.take i ++ List.replicate d (⟨(-7000000000000000101), (-7000000000000000101)⟩ : S104)) := by
 induction d with
 | zero =>
  intro k x0 x5 i hd h1 h2 h3 hk; obtain ⟨k, rfl⟩ : ∃ m, k = m + 1 := ⟨k - 1, by omega⟩; simp only [full_toBarS.l1]; rw [if_neg (by omega), if_pos (by omega), if_pos (by omega), List.take_of_length_le (by omega)]
  simp
 | succ d ih =>
  intro k x0 x5 i hd h1 h2 h3 hk; obtain ⟨k, rfl⟩ : ∃ m, k = m + 1 := ⟨k - 1, by omega⟩; have hr := ih k x0 (x5.set i (⟨(-7000000000000000101), (-7000000000000000101)⟩ : S104)) (i + 1) Zav (by omega) Zav Zav (by omega); rw [take_set_snoc _ _ _ (by omega), List.append_assoc, List.singleton_append, ← List.replicate_succ] at hr; rw [← hr]; simp only [full_toBarS.l1, laws_fillerBar.f, Option.bind_some]; rw [if_pos (by omega)]; rw [if_pos (by omega), w64 (by omega)]
  rfl
theorem full_BarS_l0 (d : Nat) : ∀ (k : Nat) (x0 : List S106) (x5 : List S104) (i : Nat), x0.length - i = d → i ≤ x0.length → x0.length ≤ x5.length → x5.length ≤ 4000000 → x5.take i = (x0.take i).map conv_BarS → d + x5.length + 1 < k →
  full_toBarS.l0 k x0 x5 (i : Int) = some (x0.map conv_BarS ++ List.replicate (x5.length - x0.length) (⟨(-7000000000000000101), (-7000000000000000101)⟩ : S104)) := by
 induction d with
 | zero =>
  intro k x0 x5 i hd h1 h2 h3 h4 hk; obtain ⟨k, rfl⟩ : ∃ m, k = m + 1 := ⟨k - 1, by omega⟩; simp only [full_toBarS.l0]; rw [if_neg (by omega), full_BarS_l1 (x5.length - x0.length) k x0 x5 x0.length rfl (Nat.le_refl _) h2 h3 (by omega)]
  have e : i = x0.length := by omega
  subst e; rw [h4, List.take_length]
 | succ d ih =>
  intro k x0 x5 i hd h1 h2 h3 h4 hk; obtain ⟨k, rfl⟩ : ∃ m, k = m + 1 := ⟨k - 1, by omega⟩
  have hi : i < x0.length := by omega
  have h5 : (x5.set i (conv_BarS x0[i])).take (i + 1) = (x0.take (i + 1)).map conv_BarS := by
   rw [take_set_snoc _ _ _ (by omega), h4, List.take_succ_eq_append_getElem hi, List.map_append]; rfl
  have hr := ih k x0 (x5.set i (conv_BarS x0[i])) (i + 1) (by omega) (by omega) Zav Zav h5 Zav; rw [List.length_set] at hr; rw [← hr]; simp only [full_toBarS.l0, laws_toBar.f, Option.bind_some]; rw [if_pos (by omega), if_pos (by omega)]; rw [if_pos (by omega), w64 (by omega), rd_T106, getD_at _ _ _ hi]
  rfl
theorem to_BarS_l1 (d : Nat) : ∀ (k : Nat) (x0 : List S106) (x5 : List S104) (i : Nat), x5.length - i = d → x0.length ≤ i → i ≤ x5.length → x5.length ≤ 4000000 → d < k →
  laws_toBarS.l1 k x0 x5 (i : Int) = some (x5.take x0.length) := by
 induction d with
 | zero =>
  intro k x0 x5 i hd h1 h2 h3 hk; obtain ⟨k, rfl⟩ : ∃ m, k = m + 1 := ⟨k - 1, by omega⟩; simp only [laws_toBarS.l1]; rw [if_neg (by omega), if_pos (by omega), if_pos (by omega), Int.toNat_natCast]
 | succ d ih =>
  intro k x0 x5 i hd h1 h2 h3 hk; obtain ⟨k, rfl⟩ : ∃ m, k = m + 1 := ⟨k - 1, by omega⟩; have hr := ih k x0 (x5.set i (⟨(-7000000000000000101), (-7000000000000000101)⟩ : S104)) (i + 1) Zav (by omega) Zav Zav (by omega); rw [take_set_ge _ _ _ _ h1] at hr; rw [← hr]; simp only [laws_toBarS.l1, laws_fillerBar.f, Option.bind_some]; rw [if_pos (by omega)]; rw [if_pos (by omega), w64 (by omega)]
  rfl
theorem to_BarS_l0 (d : Nat) : ∀ (k : Nat) (x0 : List S106) (x5 : List S104) (i : Nat), x0.length - i = d → i ≤ x0.length → x0.length ≤ x5.length → x5.length ≤ 4000000 → x5.take i = (x0.take i).map conv_BarS → d + x5.length + 1 < k →
  laws_toBarS.l0 k x0 x5 (i : Int) = some (x0.map conv_BarS) := by
 induction d with
 | zero =>
  intro k x0 x5 i hd h1 h2 h3 h4 hk; obtain ⟨k, rfl⟩ : ∃ m, k = m + 1 := ⟨k - 1, by omega⟩; simp only [laws_toBarS.l0]; rw [if_neg (by omega), to_BarS_l1 (x5.length - x0.length) k x0 x5 x0.length rfl (Nat.le_refl _) h2 h3 (by omega)]
  have e : i = x0.length := by omega
  subst e; rw [h4, List.take_length]
 | succ d ih =>
  intro k x0 x5 i hd h1 h2 h3 h4 hk; obtain ⟨k, rfl⟩ : ∃ m, k = m + 1 := ⟨k - 1, by omega⟩
  have hi : i < x0.length := by omega
  have h5 : (x5.set i (conv_BarS x0[i])).take (i + 1) = (x0.take (i + 1)).map conv_BarS := by
   rw [take_set_snoc _ _ _ (by omega), h4, List.take_succ_eq_append_getElem hi, List.map_append]; rfl
  have hr := ih k x0 (x5.set i (conv_BarS x0[i])) (i + 1) (by omega) (by omega) Zav Zav h5 Zav; rw [← hr]; simp only [laws_toBarS.l0, laws_toBar.f, Option.bind_some]; rw [if_pos (by omega), if_pos (by omega)]; rw [if_pos (by omega), w64 (by omega), rd_T106, getD_at _ _ _ hi]
  rfl
theorem to_BarS (l : List S106) (hl : l.length ≤ 1000000) : ∃ (L : List S104) (t : Int), L ≠ [] ∧ (l.map conv_BarS = L.take l.length ∧ l.length ≤ L.length) ∧ (l.map conv_BarS).length = l.length ∧ L.length ≤ 2000001 ∧
  laws_roomBehind.f ((l.map conv_BarS).length : Int) = some t ∧ wrap64 (((l.map conv_BarS).length : Int) + t) = (L.length : Int) ∧
  Evt (fun k => full_toBarS.f k l false = some L) ∧ Evt (fun k => laws_toBarS.f k l true = some (l.map conv_BarS)) := by
 obtain ⟨t, ht, h0, h1, h2⟩ := room_some l.length; have hw : wrap64 ((l.length : Int) + t) = (l.length : Int) + t := w64 (by omega)
 have hn : ((l.length : Int) + t).toNat = l.length + t.toNat := by omega
 have hm : (l.map conv_BarS).length = l.length := List.length_map _
 have hlen : (l.map conv_BarS ++ List.replicate (l.length + t.toNat - l.length) (⟨(-7000000000000000101), (-7000000000000000101)⟩ : S104)).length = l.length + t.toNat := by rw [List.length_append, List.length_replicate, hm]; omega
 refine ⟨l.map conv_BarS ++ List.replicate (l.length + t.toNat - l.length) (⟨(-7000000000000000101), (-7000000000000000101)⟩ : S104), t, ?_, ⟨?_, by omega⟩, hm, by omega, by rw [hm]; exact ht, by rw [hm, hw, hlen]; omega, ?_, ?_⟩
 ·intro e
  rw [e] at hlen
  simp at hlen
  have := h2 (by omega)
  omega
 ·rw [← hm, List.take_left]
 ·refine Evt.succ ⟨l.length + (l.length + t.toNat) + 2, fun k hk => ?_⟩
  show full_toBarS.f (k + 1) l false = _
  unfold full_toBarS.f
  rw [if_neg (by decide)]; simp only [full_toBarS.j0]; rw [if_neg (by decide), ht]; simp only [Option.bind_some]; rw [hw, if_pos (by omega), hn, if_pos (by omega)]; have z := full_BarS_l0 l.length k l (List.replicate (l.length + t.toNat) z104) 0 (by omega) (by omega) Zaw Zaw (by simp) Zaw; rw [List.length_replicate] at z; exact z
 ·refine Evt.succ ⟨l.length + (l.length + t.toNat) + 2, fun k hk => ?_⟩
  show laws_toBarS.f (k + 1) l true = _
  unfold laws_toBarS.f
  rw [if_pos rfl]; simp only [laws_toBarS.j0]
  by_cases e : l.length = 0
  ·have e2 : l = [] := List.length_eq_zero_iff.mp e
   subst e2
   rfl
  ·have e3 : ((l.length : Int) == 0) = false := by rw [beq_eq_false_iff_ne]; omega
   rw [e3, if_neg (by decide), ht]; simp only [Option.bind_some]; rw [hw, if_pos (by omega), hn, if_pos (by omega)]; exact to_BarS_l0 l.length k l (List.replicate (l.length + t.toNat) z104) 0 (by omega) (by omega) Zaw Zaw (by simp) Zaw
theorem eq_BarS_l0 (d : Nat) : ∀ (k : Nat) (xs : List S104) (i : Nat), xs.length - i = d → i ≤ xs.length → xs.length ≤ 4000000 → d < k → laws_eqBarS.l0 k xs xs (i : Int) = some true := by
 induction d with
 | zero =>
  intro k xs i hd h1 h2 hk; obtain ⟨k, rfl⟩ : ∃ m, k = m + 1 := ⟨k - 1, by omega⟩; simp only [laws_eqBarS.l0]; rw [if_neg (by omega)]
 | succ d ih =>
  intro k xs i hd h1 h2 hk; obtain ⟨k, rfl⟩ : ∃ m, k = m + 1 := ⟨k - 1, by omega⟩; have hr := ih k xs (i + 1) (by omega) (by omega) h2 (by omega); simp only [laws_eqBarS.l0, laws_eqBar.f, if_true, Option.bind_some]; rw [if_pos (by omega), if_pos (by omega), if_pos (by omega), w64 (by omega)]; exact hr
theorem eq_BarS (xs : List S104) (h : xs.length ≤ 4000000) : Evt (fun k => laws_eqBarS.f k xs xs = some true) := by
 refine ⟨xs.length + 1, fun k hk => ?_⟩; show laws_eqBarS.f k xs xs = _
 unfold laws_eqBarS.f
 rw [if_pos rfl]; exact eq_BarS_l0 xs.length k xs 0 (by omega) (by omega) h (by omega)
theorem sz_BarS (l : List S106) (a : Int) (h0 : 0 ≤ a) (h1 : a ≤ 1000000) (hl : l.length ≤ maxLen) :
  (l.length ≤ a ∧ laws_szBarS.f l a = some (a - l.length)) ∨ laws_szBarS.f l a = some (-1) := by
 unfold maxLen at hl
 unfold laws_szBarS.f
 rw [w64 (by omega)]
 by_cases h : a - (l.length : Int) < 0
 ·rw [if_pos h]
  exact .inr rfl
 ·rw [if_neg h]
  exact .inl ⟨by omega, rfl⟩
def seq_BarS : Nat → Int → List S104
 | 0, _ => []
 | d + 1, c => (⟨c, c + 1⟩ : S104) :: seq_BarS d (c + 2)
theorem mark_BarS_l0 (d : Nat) : ∀ (k : Nat) (xs : List S104) (c : Int) (i : Nat), xs.length - i = d → i ≤ xs.length → xs.length ≤ 4000000 → 0 ≤ c → c ≤ 1000000000 - 2 * (xs.length - i : Nat) → d < k →
  laws_markBarS.l0 k xs c (i : Int) = some (c + 2 * d, xs.take i ++ seq_BarS d c) := by
 induction d with
 | zero =>
  intro k xs c i hd h1 h2 h3 h4 hk; obtain ⟨k, rfl⟩ : ∃ m, k = m + 1 := ⟨k - 1, by omega⟩; simp only [laws_markBarS.l0, seq_BarS]; rw [if_neg (by omega), List.take_of_length_le (by omega), List.append_nil]
  congr 2; omega
 | succ d ih =>
  intro k xs c i hd h1 h2 h3 h4 hk; obtain ⟨k, rfl⟩ : ∃ m, k = m + 1 := ⟨k - 1, by omega⟩; have hr := ih k (xs.set i (⟨c, c + 1⟩ : S104)) (c + 2) (i + 1) Zav Zav Zav (by omega) Zav (by omega); rw [set_take_app _ _ _ _ (by omega)] at hr
  have e : c + 2 * ((d + 1 : Nat) : Int) = c + 2 + 2 * (d : Int) := by omega
  rw [e]; show _ = some (c + 2 + 2 * (d : Int), xs.take i ++ (⟨c, c + 1⟩ : S104) :: seq_BarS d (c + 2)); rw [← hr]; simp only [laws_markBarS.l0, Option.bind_some]; rw [if_pos (by omega), if_pos (by omega)]
  have w1 : wrap64 (c + 1) = c + 1 := by rw [w64 (by omega)]
  have w2 : wrap64 (c + 1 + 1) = c + 2 := by rw [w64 (by omega)]; omega
  rw [w1, w2, w64 (n := (i : Int) + 1) (by omega)]; simp only [Int.toNat_natCast]
  have rs : ∀ v : S104, rd_T104 (xs.set i v) (i : Int) = v := fun v => by unfold rd_T104; rw [Int.toNat_natCast, getD_set _ _ _ _ (by omega)]
  simp only [set_set, rs]
  rfl
theorem mark_BarS (xs : List S104) (c : Int) (hx : xs.length ≤ 4000000) (h0 : 0 ≤ c) (h1 : c ≤ 900000000) : Evt (fun k => laws_markBarS.f k xs c = some (c + 2 * (xs.length : Int), seq_BarS xs.length c)) := by
 refine ⟨xs.length + 1, fun k hk => ?_⟩; show laws_markBarS.f k xs c = _
 unfold laws_markBarS.f
 exact mark_BarS_l0 xs.length k xs c 0 (by omega) (by omega) hx h0 (by omega) (by omega)
theorem w64c0 (c : Int) (h0 : 0 ≤ c) (h1 : c ≤ 1000000000) : wrap64 (c + 1) = c + 1 := w64 (by omega)
theorem w64c (c j m : Int) (h0 : 0 ≤ c) (h1 : c ≤ 1000000000) (hj : 0 ≤ j ∧ j ≤ 100) (e : m = j + 1) : wrap64 (c + j + 1) = c + m := by
 subst e; rw [w64 (by omega), Int.add_assoc]
theorem digit_size (n : Int) : (strOfNums (([(wrap64 (48 + Int.tmod n 10)) % 256] : List Int))).size = 1 := by rfl
theorem mtext_l0 : ∀ (k : Nat) (c : Int) (out : ByteArray), 0 ≤ c → c < 10 ^ k → c ≤ 1000000000 → out.size + k ≤ 1000 → ∃ r, laws_markText.l0 (k + 1) c out = some r
 | 0, c, out, h0, h1, h9, h2 => by
  rw [Int.pow_zero] at h1; simp only [laws_markText.l0]; rw [if_neg (by omega), if_pos (by omega)]; exact ⟨_, rfl⟩
 | k + 1, c, out, h0, h1, h9, h2 => by
  by_cases e : c = 0
  ·subst e
   simp only [laws_markText.l0]; rw [if_neg (by omega), if_pos (by omega)]; exact ⟨_, rfl⟩
  ·have hd : Int.tdiv c 10 = c / 10 := Int.tdiv_eq_ediv_of_nonneg h0
   rw [Int.pow_succ] at h1
   have h3 : c / 10 < 10 ^ k := by omega
   obtain ⟨r, hr⟩ := mtext_l0 k (c / 10) (strOfNums (([(wrap64 (48 + Int.tmod c 10)) % 256] : List Int)) ++ out) (by omega) h3 (by omega) (by rw [ByteArray.size_append, digit_size]; omega); refine ⟨r, ?_⟩; rw [← hr]; show laws_markText.l0 (k + 1 + 1) c out = _; rw [laws_markText.l0]; rw [if_pos (by omega), Option.bind_some, digit_size, if_pos (by omega), hd, w64 (n := c / 10) (by omega)]
def mtext (c : Int) : ByteArray := (laws_markText.f 40 c).getD ⟨#[]⟩
theorem mtext_eq (c : Int) (h0 : 0 ≤ c) (h1 : c ≤ 1000000000) (k : Nat) (hk : 40 ≤ k) : laws_markText.f k c = some (mtext c) := by
 have h : ∃ r, laws_markText.f 40 c = some r := by
  unfold laws_markText.f
  by_cases e : c ≤ 0
  ·rw [if_pos e]; exact ⟨_, rfl⟩
  ·rw [if_neg e]
   exact mtext_l0 39 c _ h0 (Int.lt_of_le_of_lt h1 (by decide)) h1 (by decide)
 obtain ⟨r, hr⟩ := h
 have e : mtext c = r := by unfold mtext; rw [hr]; rfl
 rw [e]; obtain ⟨d, rfl⟩ : ∃ d, k = 40 + d := ⟨k - 40, by omega⟩; clear hk
 induction d with
 | zero => exact hr
 | succ d ih => exact laws_markText.mono c (40 + d) r ih
def conv_ArticleS (x : S99) : S61 := ⟨x.f0, x.f1, x.f2, x.f3, x.f4, x.f5, x.f6, x.f7, x.f8⟩
theorem full_ArticleS_l1 (d : Nat) : ∀ (k : Nat) (x0 : List S99) (x5 : List S61) (i : Nat), x5.length - i = d → x0.length ≤ i → i ≤ x5.length → x5.length ≤ 4000000 → d < k →
  full_toArticleS.l1 k x0 x5 (i : Int) = some (x5.take i ++ List.replicate d (⟨(⟨#[126, 115, 112, 97, 114, 101, 126]⟩ : ByteArray), (-7000000000000000101), (-7000000000000000101), (-7000000000000000101), (-7000000000000000101), (-7000000000000000101), (-7000000000000000101), (-7000000000000000101), (-7000000000000000101)⟩ : S61)) := by
 induction d with
 | zero =>
  intro k x0 x5 i hd h1 h2 h3 hk; obtain ⟨k, rfl⟩ : ∃ m, k = m + 1 := ⟨k - 1, by omega⟩; simp only [full_toArticleS.l1]; rw [if_neg (by omega), if_pos (by omega), if_pos (by omega), List.take_of_length_le (by omega)]
  simp
 | succ d ih =>
  intro k x0 x5 i hd h1 h2 h3 hk; obtain ⟨k, rfl⟩ : ∃ m, k = m + 1 := ⟨k - 1, by omega⟩; have hr := ih k x0 (x5.set i (⟨(⟨#[126, 115, 112, 97, 114, 101, 126]⟩ : ByteArray), (-7000000000000000101), (-7000000000000000101), (-7000000000000000101), (-7000000000000000101), (-7000000000000000101), (-7000000000000000101), (-7000000000000000101), (-7000000000000000101)⟩ : S61)) (i + 1) Zav (by omega) Zav Zav (by omega); rw [take_set_snoc _ _ _ (by omega), List.append_assoc, List.singleton_append, ← List.replicate_succ] at hr; rw [← hr]; simp only [full_toArticleS.l1, laws_fillerArticle.f, Option.bind_some]; rw [if_pos (by omega)]; rw [if_pos (by omega), w64 (by omega)]
  rfl
theorem full_ArticleS_l0 (d : Nat) : ∀ (k : Nat) (x0 : List S99) (x5 : List S61) (i : Nat), x0.length - i = d → i ≤ x0.length → x0.length ≤ x5.length → x5.length ≤ 4000000 → x5.take i = (x0.take i).map conv_ArticleS → d + x5.length + 1 < k →
  full_toArticleS.l0 k x0 x5 (i : Int) = some (x0.map conv_ArticleS ++ List.replicate (x5.length - x0.length) (⟨(⟨#[126, 115, 112, 97, 114, 101, 126]⟩ : ByteArray), (-7000000000000000101), (-7000000000000000101), (-7000000000000000101), (-7000000000000000101), (-7000000000000000101), (-7000000000000000101), (-7000000000000000101), (-7000000000000000101)⟩ : S61)) := by
 induction d with
 | zero =>
  intro k x0 x5 i hd h1 h2 h3 h4 hk; obtain ⟨k, rfl⟩ : ∃ m, k = m + 1 := ⟨k - 1, by omega⟩; simp only [full_toArticleS.l0]; rw [if_neg (by omega), full_ArticleS_l1 (x5.length - x0.length) k x0 x5 x0.length rfl (Nat.le_refl _) h2 h3 (by omega)]
  have e : i = x0.length := by omega
  subst e; rw [h4, List.take_length]
 | succ d ih =>
  intro k x0 x5 i hd h1 h2 h3 h4 hk; obtain ⟨k, rfl⟩ : ∃ m, k = m + 1 := ⟨k - 1, by omega⟩
  have hi : i < x0.length := by omega
  have h5 : (x5.set i (conv_ArticleS x0[i])).take (i + 1) = (x0.take (i + 1)).map conv_ArticleS := by
   rw [take_set_snoc _ _ _ (by omega), h4, List.take_succ_eq_append_getElem hi, List.map_append]; rfl
  have hr := ih k x0 (x5.set i (conv_ArticleS x0[i])) (i + 1) (by omega) (by omega) Zav Zav h5 Zav; rw [List.length_set] at hr; rw [← hr]; simp only [full_toArticleS.l0, laws_toArticle.f, Option.bind_some]; rw [if_pos (by omega), if_pos (by omega)]; rw [if_pos (by omega), w64 (by omega), rd_T99, getD_at _ _ _ hi]
  rfl
theorem to_ArticleS_l1 (d : Nat) : ∀ (k : Nat) (x0 : List S99) (x5 : List S61) (i : Nat), x5.length - i = d → x0.length ≤ i → i ≤ x5.length → x5.length ≤ 4000000 → d < k →
  laws_toArticleS.l1 k x0 x5 (i : Int) = some (x5.take x0.length) := by
 induction d with
 | zero =>
  intro k x0 x5 i hd h1 h2 h3 hk; obtain ⟨k, rfl⟩ : ∃ m, k = m + 1 := ⟨k - 1, by omega⟩; simp only [laws_toArticleS.l1]; rw [if_neg (by omega), if_pos (by omega), if_pos (by omega), Int.toNat_natCast]
 | succ d ih =>
  intro k x0 x5 i hd h1 h2 h3 hk; obtain ⟨k, rfl⟩ : ∃ m, k = m + 1 := ⟨k - 1, by omega⟩; have hr := ih k x0 (x5.set i (⟨(⟨#[126, 115, 112, 97, 114, 101, 126]⟩ : ByteArray), (-7000000000000000101), (-7000000000000000101), (-7000000000000000101), (-7000000000000000101), (-7000000000000000101), (-7000000000000000101), (-7000000000000000101), (-7000000000000000101)⟩ : S61)) (i + 1) Zav (by omega) Zav Zav (by omega); rw [take_set_ge _ _ _ _ h1] at hr; rw [← hr]; simp only [laws_toArticleS.l1, laws_fillerArticle.f, Option.bind_some]; rw [if_pos (by omega)]; rw [if_pos (by omega), w64 (by omega)]
  rfl
theorem to_ArticleS_l0 (d : Nat) : ∀ (k : Nat) (x0 : List S99) (x5 : List S61) (i : Nat), x0.length - i = d → i ≤ x0.length → x0.length ≤ x5.length → x5.length ≤ 4000000 → x5.take i = (x0.take i).map conv_ArticleS → d + x5.length + 1 < k →
  laws_toArticleS.l0 k x0 x5 (i : Int) = some (x0.map conv_ArticleS) := by
 induction d with
 | zero =>
  intro k x0 x5 i hd h1 h2 h3 h4 hk; obtain ⟨k, rfl⟩ : ∃ m, k = m + 1 := ⟨k - 1, by omega⟩; simp only [laws_toArticleS.l0]; rw [if_neg (by omega), to_ArticleS_l1 (x5.length - x0.length) k x0 x5 x0.length rfl (Nat.le_refl _) h2 h3 (by omega)]
  have e : i = x0.length := by omega
  subst e; rw [h4, List.take_length]
 | succ d ih =>
  intro k x0 x5 i hd h1 h2 h3 h4 hk; obtain ⟨k, rfl⟩ : ∃ m, k = m + 1 := ⟨k - 1, by omega⟩
  have hi : i < x0.length := by omega
  have h5 : (x5.set i (conv_ArticleS x0[i])).take (i + 1) = (x0.take (i + 1)).map conv_ArticleS := by
   rw [take_set_snoc _ _ _ (by omega), h4, List.take_succ_eq_append_getElem hi, List.map_append]; rfl
  have hr := ih k x0 (x5.set i (conv_ArticleS x0[i])) (i + 1) (by omega) (by omega) Zav Zav h5 Zav; rw [← hr]; simp only [laws_toArticleS.l0, laws_toArticle.f, Option.bind_some]; rw [if_pos (by omega), if_pos (by omega)]; rw [if_pos (by omega), w64 (by omega), rd_T99, getD_at _ _ _ hi]
  rfl
theorem to_ArticleS (l : List S99) (hl : l.length ≤ 1000000) : ∃ (L : List S61) (t : Int), L ≠ [] ∧ (l.map conv_ArticleS = L.take l.length ∧ l.length ≤ L.length) ∧ (l.map conv_ArticleS).length = l.length ∧ L.length ≤ 2000001 ∧
  laws_roomBehind.f ((l.map conv_ArticleS).length : Int) = some t ∧ wrap64 (((l.map conv_ArticleS).length : Int) + t) = (L.length : Int) ∧
  Evt (fun k => full_toArticleS.f k l false = some L) ∧ Evt (fun k => laws_toArticleS.f k l true = some (l.map conv_ArticleS)) := by
 obtain ⟨t, ht, h0, h1, h2⟩ := room_some l.length; have hw : wrap64 ((l.length : Int) + t) = (l.length : Int) + t := w64 (by omega)
 have hn : ((l.length : Int) + t).toNat = l.length + t.toNat := by omega
 have hm : (l.map conv_ArticleS).length = l.length := List.length_map _
 have hlen : (l.map conv_ArticleS ++ List.replicate (l.length + t.toNat - l.length) (⟨(⟨#[126, 115, 112, 97, 114, 101, 126]⟩ : ByteArray), (-7000000000000000101), (-7000000000000000101), (-7000000000000000101), (-7000000000000000101), (-7000000000000000101), (-7000000000000000101), (-7000000000000000101), (-7000000000000000101)⟩ : S61)).length = l.length + t.toNat := by rw [List.length_append, List.length_replicate, hm]; omega
 refine ⟨l.map conv_ArticleS ++ List.replicate (l.length + t.toNat - l.length) (⟨(⟨#[126, 115, 112, 97, 114, 101, 126]⟩ : ByteArray), (-7000000000000000101), (-7000000000000000101), (-7000000000000000101), (-7000000000000000101), (-7000000000000000101), (-7000000000000000101), (-7000000000000000101), (-7000000000000000101)⟩ : S61), t, ?_, ⟨?_, by omega⟩, hm, by omega, by rw [hm]; exact ht, by rw [hm, hw, hlen]; omega, ?_, ?_⟩
 ·intro e
  rw [e] at hlen
  simp at hlen
  have := h2 (by omega)
  omega
 ·rw [← hm, List.take_left]
 ·refine Evt.succ ⟨l.length + (l.length + t.toNat) + 2, fun k hk => ?_⟩
  show full_toArticleS.f (k + 1) l false = _
  unfold full_toArticleS.f
  rw [if_neg (by decide)]; simp only [full_toArticleS.j0]; rw [if_neg (by decide), ht]; simp only [Option.bind_some]; rw [hw, if_pos (by omega), hn, if_pos (by omega)]; have z := full_ArticleS_l0 l.length k l (List.replicate (l.length + t.toNat) z61) 0 (by omega) (by omega) Zaw Zaw (by simp) Zaw; rw [List.length_replicate] at z; exact z
 ·refine Evt.succ ⟨l.length + (l.length + t.toNat) + 2, fun k hk => ?_⟩
  show laws_toArticleS.f (k + 1) l true = _
  unfold laws_toArticleS.f
  rw [if_pos rfl]; simp only [laws_toArticleS.j0]
  by_cases e : l.length = 0
  ·have e2 : l = [] := List.length_eq_zero_iff.mp e
   subst e2
   rfl
  ·have e3 : ((l.length : Int) == 0) = false := by rw [beq_eq_false_iff_ne]; omega
   rw [e3, if_neg (by decide), ht]; simp only [Option.bind_some]; rw [hw, if_pos (by omega), hn, if_pos (by omega)]; exact to_ArticleS_l0 l.length k l (List.replicate (l.length + t.toNat) z61) 0 (by omega) (by omega) Zaw Zaw (by simp) Zaw
theorem eq_ArticleS_l0 (d : Nat) : ∀ (k : Nat) (xs : List S61) (i : Nat), xs.length - i = d → i ≤ xs.length → xs.length ≤ 4000000 → d < k → laws_eqArticleS.l0 k xs xs (i : Int) = some true := by
 induction d with
 | zero =>
  intro k xs i hd h1 h2 hk; obtain ⟨k, rfl⟩ : ∃ m, k = m + 1 := ⟨k - 1, by omega⟩; simp only [laws_eqArticleS.l0]; rw [if_neg (by omega)]
 | succ d ih =>
  intro k xs i hd h1 h2 hk; obtain ⟨k, rfl⟩ : ∃ m, k = m + 1 := ⟨k - 1, by omega⟩; have hr := ih k xs (i + 1) (by omega) (by omega) h2 (by omega); simp only [laws_eqArticleS.l0, laws_eqArticle.f, if_true, Option.bind_some]; rw [if_pos (by omega), if_pos (by omega), if_pos (by omega), w64 (by omega)]; exact hr
theorem eq_ArticleS (xs : List S61) (h : xs.length ≤ 4000000) : Evt (fun k => laws_eqArticleS.f k xs xs = some true) := by
 refine ⟨xs.length + 1, fun k hk => ?_⟩; show laws_eqArticleS.f k xs xs = _
 unfold laws_eqArticleS.f
 rw [if_pos rfl]; exact eq_ArticleS_l0 xs.length k xs 0 (by omega) (by omega) h (by omega)
theorem sz_ArticleS_l0 (d : Nat) : ∀ (k : Nat) (l : List S99) (a : Int) (i : Nat), l.length - i = d → i ≤ l.length → l.length ≤ 1000000 → 0 ≤ a → a ≤ 1000000 → (∀ x ∈ l, x.f0.size ≤ maxLen) → d < k →
  ∃ s, laws_szArticleS.l0 k l a (i : Int) = some s ∧ (∀ m, k ≤ m → laws_szArticleS.l0 m l a (i : Int) = some s) ∧ (s < 0 ∨ (0 ≤ s ∧ s ≤ a ∧ ∀ j, i ≤ j → (h : j < l.length) → (l[j]).f0.size ≤ 1000000)) := by
 induction d with
 | zero =>
  intro k l a i hd h1 h2 h3 h4 hp hk
  have e : ∀ m, k ≤ m → laws_szArticleS.l0 m l a (i : Int) = some a := fun m hm => by
   obtain ⟨m, rfl⟩ : ∃ q, m = q + 1 := ⟨m - 1, by omega⟩; simp only [laws_szArticleS.l0]; rw [if_neg (by omega)]
  exact ⟨a, e k (Nat.le_refl _), e, .inr ⟨h3, Int.le_refl _, fun j h5 h6 => absurd h6 (by omega)⟩⟩
 | succ d ih =>
  intro k l a i hd h1 h2 h3 h4 hp hk
  have hi : i < l.length := by omega
  have hs := hp l[i] (List.getElem_mem hi); have hm : maxLen = 9223372036854775807 := rfl
  have er : rd_T99 l (i : Int) = l[i] := by unfold rd_T99; exact getD_at _ _ _ hi
  by_cases c : a - ((l[i]).f0.size : Int) < 0
  ·have e : ∀ m, k ≤ m → laws_szArticleS.l0 m l a (i : Int) = some (-1) := fun m hm => by
    obtain ⟨m, rfl⟩ : ∃ q, m = q + 1 := ⟨m - 1, by omega⟩; simp only [laws_szArticleS.l0, laws_szArticle.f]; rw [if_pos (by omega), if_pos (by omega), er, w64 (n := a - ((l[i]).f0.size : Int)) (by omega), if_pos c]
    rfl
   exact ⟨-1, e k (Nat.le_refl _), e, .inl (by omega)⟩
  ·obtain ⟨s, _, e2, e3⟩ := ih (k - 1) l (a - ((l[i]).f0.size : Int)) (i + 1) (by omega) (by omega) h2 (by omega) (by omega) hp (by omega)
   have e : ∀ m, k ≤ m → laws_szArticleS.l0 m l a (i : Int) = some s := fun m hm => by
    obtain ⟨m, rfl⟩ : ∃ q, m = q + 1 := ⟨m - 1, by omega⟩; simp only [laws_szArticleS.l0, laws_szArticle.f]; rw [if_pos (by omega), if_pos (by omega), er, w64 (n := a - ((l[i]).f0.size : Int)) (by omega), if_neg c, Option.bind_some, if_neg c, w64 (n := (i : Int) + 1) (by omega)]; exact e2 m (by omega)
   refine ⟨s, e k (Nat.le_refl _), e, ?_⟩
   rcases e3 with e3 | ⟨e3, e4, e5⟩
   ·exact .inl e3
   ·refine .inr ⟨e3, by omega, fun j h5 h6 => ?_⟩
    by_cases q : j = i
    ·subst q; omega
    ·exact e5 j (by omega) h6
theorem sz_ArticleS (l : List S99) (a : Int) (h0 : 0 ≤ a) (h1 : a ≤ 1000000) (hl : l.length ≤ maxLen) (hp : ∀ x ∈ l, x.f0.size ≤ maxLen) :
  ∃ s, Evt (fun k => laws_szArticleS.f k l a = some s) ∧ (s < 0 ∨ (0 ≤ s ∧ s ≤ a ∧ l.length ≤ 1000000 ∧ ∀ x ∈ l, x.f0.size ≤ 1000000)) := by
 have hm : maxLen = 9223372036854775807 := rfl
 by_cases h : a - (l.length : Int) < 0
 ·refine ⟨-1, Evt.of fun k => ?_, .inl (by omega)⟩
  unfold laws_szArticleS.f
  rw [w64 (by omega), if_pos h]
 ·obtain ⟨s, _, e2, e3⟩ := sz_ArticleS_l0 l.length (l.length + 1) l (a - (l.length : Int)) 0 (by omega) (by omega) (by omega) (by omega) (by omega) hp (by omega)
  refine ⟨s, ⟨l.length + 1, fun k hk => ?_⟩, ?_⟩
  ·show laws_szArticleS.f k l a = _
   unfold laws_szArticleS.f
   rw [w64 (by omega), if_neg h]; exact e2 k hk
  ·rcases e3 with e3 | ⟨e3, e4, e5⟩
   ·exact .inl e3
   ·refine .inr ⟨e3, by omega, by omega, fun x hx => ?_⟩
    obtain ⟨j, hj, rfl⟩ := List.getElem_of_mem hx; exact e5 j (by omega) hj
def seq_ArticleS : Nat → Int → List S61
 | 0, _ => []
 | d + 1, c => (⟨mtext (c), c + 1, c + 2, c + 3, c + 4, c + 5, c + 6, c + 7, c + 8⟩ : S61) :: seq_ArticleS d (c + 9)
theorem mark_ArticleS_l0 (d : Nat) : ∀ (k : Nat) (xs : List S61) (c : Int) (i : Nat), xs.length - i = d → i ≤ xs.length → xs.length ≤ 4000000 → 0 ≤ c → c ≤ 1000000000 - 9 * (xs.length - i : Nat) → d + 40 < k →
  laws_markArticleS.l0 k xs c (i : Int) = some (c + 9 * d, xs.take i ++ seq_ArticleS d c) := by
 induction d with
 | zero =>
  intro k xs c i hd h1 h2 h3 h4 hk; obtain ⟨k, rfl⟩ : ∃ m, k = m + 1 := ⟨k - 1, by omega⟩; simp only [laws_markArticleS.l0, seq_ArticleS]; rw [if_neg (by omega), List.take_of_length_le (by omega), List.append_nil]
  congr 2; omega
 | succ d ih =>
  intro k xs c i hd h1 h2 h3 h4 hk; obtain ⟨k, rfl⟩ : ∃ m, k = m + 1 := ⟨k - 1, by omega⟩; have hr := ih k (xs.set i (⟨mtext (c), c + 1, c + 2, c + 3, c + 4, c + 5, c + 6, c + 7, c + 8⟩ : S61)) (c + 9) (i + 1) Zav Zav Zav (by omega) Zav (by omega); rw [set_take_app _ _ _ _ (by omega)] at hr
  have e : c + 9 * ((d + 1 : Nat) : Int) = c + 9 + 9 * (d : Int) := by omega
  rw [e]; show _ = some (c + 9 + 9 * (d : Int), xs.take i ++ (⟨mtext (c), c + 1, c + 2, c + 3, c + 4, c + 5, c + 6, c + 7, c + 8⟩ : S61) :: seq_ArticleS d (c + 9)); rw [← hr]
  have hc0 : 0 ≤ c := by omega
  have hc1 : c ≤ 1000000000 := by omega
  have mt : laws_markText.f k (c) = some (mtext (c)) := mtext_eq _ (by omega) (by omega) k (by omega)
  have g2 : (0 : Int) ≤ (i : Int) := by omega
  have wi : ∀ _ : Unit, wrap64 ((i : Int) + 1) = (i : Int) + 1 := fun _ => w64 (by omega)
  have ei : ((i + 1 : Nat) : Int) = (i : Int) + 1 := by omega
  have g1 : (i : Int) < (xs.length : Int) := by omega
  have rs : ∀ v : S61, rd_T61 (xs.set i v) (i : Int) = v := fun v => by unfold rd_T61; rw [Int.toNat_natCast, getD_set _ _ _ _ (by omega)]
  have w1 : wrap64 (c + 1) = c + 1 := w64c0 c hc0 hc1; have w2 : wrap64 (c + 1 + 1) = c + 2 := w64c c 1 2 hc0 hc1 (by decide) rfl; have w3 : wrap64 (c + 2 + 1) = c + 3 := w64c c 2 3 hc0 hc1 (by decide) rfl; have w4 : wrap64 (c + 3 + 1) = c + 4 := w64c c 3 4 hc0 hc1 (by decide) rfl; have w5 : wrap64 (c + 4 + 1) = c + 5 := w64c c 4 5 hc0 hc1 (by decide) rfl; have w6 : wrap64 (c + 5 + 1) = c + 6 := w64c c 5 6 hc0 hc1 (by decide) rfl; have w7 : wrap64 (c + 6 + 1) = c + 7 := w64c c 6 7 hc0 hc1 (by decide) rfl; have w8 : wrap64 (c + 7 + 1) = c + 8 := w64c c 7 8 hc0 hc1 (by decide) rfl; have w9 : wrap64 (c + 8 + 1) = c + 9 := w64c c 8 9 hc0 hc1 (by decide) rfl; simp only [laws_markArticleS.l0, Option.bind_some, if_pos g1, if_pos g2, w1, w2, w3, w4, w5, w6, w7, w8, w9, mt, wi (), Int.toNat_natCast, set_set, rs, ei]
theorem mark_ArticleS (xs : List S61) (c : Int) (hx : xs.length ≤ 4000000) (h0 : 0 ≤ c) (h1 : c ≤ 900000000) : Evt (fun k => laws_markArticleS.f k xs c = some (c + 9 * (xs.length : Int), seq_ArticleS xs.length c)) := by
 refine ⟨xs.length + 41, fun k hk => ?_⟩; show laws_markArticleS.f k xs c = _
 unfold laws_markArticleS.f
 exact mark_ArticleS_l0 xs.length k xs c 0 (by omega) (by omega) hx h0 (by omega) (by omega)
def conv_CueS (x : S101) : S58 := ⟨x.f0, x.f1, x.f2, x.f3⟩
theorem full_CueS_l1 (d : Nat) : ∀ (k : Nat) (x0 : List S101) (x5 : List S58) (i : Nat), x5.length - i = d → x0.length ≤ i → i ≤ x5.length → x5.length ≤ 4000000 → d < k →
  full_toCueS.l1 k x0 x5 (i : Int) = some (x5.take i ++ List.replicate d (⟨(-7000000000000000101), (-7000000000000000101), (⟨#[126, 115, 112, 97, 114, 101, 126]⟩ : ByteArray), (-7000000000000000101)⟩ : S58)) := by
 induction d with
 | zero =>
  intro k x0 x5 i hd h1 h2 h3 hk; obtain ⟨k, rfl⟩ : ∃ m, k = m + 1 := ⟨k - 1, by omega⟩; simp only [full_toCueS.l1]; rw [if_neg (by omega), if_pos (by omega), if_pos (by omega), List.take_of_length_le (by omega)]
  simp
 | succ d ih =>
  intro k x0 x5 i hd h1 h2 h3 hk; obtain ⟨k, rfl⟩ : ∃ m, k = m + 1 := ⟨k - 1, by omega⟩; have hr := ih k x0 (x5.set i (⟨(-7000000000000000101), (-7000000000000000101), (⟨#[126, 115, 112, 97, 114, 101, 126]⟩ : ByteArray), (-7000000000000000101)⟩ : S58)) (i + 1) Zav (by omega) Zav Zav (by omega); rw [take_set_snoc _ _ _ (by omega), List.append_assoc, List.singleton_append, ← List.replicate_succ] at hr; rw [← hr]; simp only [full_toCueS.l1, laws_fillerCue.f, Option.bind_some]; rw [if_pos (by omega)]; rw [if_pos (by omega), w64 (by omega)]
  rfl
theorem full_CueS_l0 (d : Nat) : ∀ (k : Nat) (x0 : List S101) (x5 : List S58) (i : Nat), x0.length - i = d → i ≤ x0.length → x0.length ≤ x5.length → x5.length ≤ 4000000 → x5.take i = (x0.take i).map conv_CueS → d + x5.length + 1 < k →
  full_toCueS.l0 k x0 x5 (i : Int) = some (x0.map conv_CueS ++ List.replicate (x5.length - x0.length) (⟨(-7000000000000000101), (-7000000000000000101), (⟨#[126, 115, 112, 97, 114, 101, 126]⟩ : ByteArray), (-7000000000000000101)⟩ : S58)) := by
 induction d with
 | zero =>
  intro k x0 x5 i hd h1 h2 h3 h4 hk; obtain ⟨k, rfl⟩ : ∃ m, k = m + 1 := ⟨k - 1, by omega⟩; simp only [full_toCueS.l0]; rw [if_neg (by omega), full_CueS_l1 (x5.length - x0.length) k x0 x5 x0.length rfl (Nat.le_refl _) h2 h3 (by omega)]
  have e : i = x0.length := by omega
  subst e; rw [h4, List.take_length]
 | succ d ih =>
  intro k x0 x5 i hd h1 h2 h3 h4 hk; obtain ⟨k, rfl⟩ : ∃ m, k = m + 1 := ⟨k - 1, by omega⟩
  have hi : i < x0.length := by omega
  have h5 : (x5.set i (conv_CueS x0[i])).take (i + 1) = (x0.take (i + 1)).map conv_CueS := by
   rw [take_set_snoc _ _ _ (by omega), h4, List.take_succ_eq_append_getElem hi, List.map_append]; rfl
  have hr := ih k x0 (x5.set i (conv_CueS x0[i])) (i + 1) (by omega) (by omega) Zav Zav h5 Zav; rw [List.length_set] at hr; rw [← hr]; simp only [full_toCueS.l0, laws_toCue.f, Option.bind_some]; rw [if_pos (by omega), if_pos (by omega)]; rw [if_pos (by omega), w64 (by omega), rd_T101, getD_at _ _ _ hi]
  rfl
theorem to_CueS_l1 (d : Nat) : ∀ (k : Nat) (x0 : List S101) (x5 : List S58) (i : Nat), x5.length - i = d → x0.length ≤ i → i ≤ x5.length → x5.length ≤ 4000000 → d < k →
  laws_toCueS.l1 k x0 x5 (i : Int) = some (x5.take x0.length) := by
 induction d with
 | zero =>
  intro k x0 x5 i hd h1 h2 h3 hk; obtain ⟨k, rfl⟩ : ∃ m, k = m + 1 := ⟨k - 1, by omega⟩; simp only [laws_toCueS.l1]; rw [if_neg (by omega), if_pos (by omega), if_pos (by omega), Int.toNat_natCast]
 | succ d ih =>
  intro k x0 x5 i hd h1 h2 h3 hk; obtain ⟨k, rfl⟩ : ∃ m, k = m + 1 := ⟨k - 1, by omega⟩; have hr := ih k x0 (x5.set i (⟨(-7000000000000000101), (-7000000000000000101), (⟨#[126, 115, 112, 97, 114, 101, 126]⟩ : ByteArray), (-7000000000000000101)⟩ : S58)) (i + 1) Zav (by omega) Zav Zav (by omega); rw [take_set_ge _ _ _ _ h1] at hr; rw [← hr]; simp only [laws_toCueS.l1, laws_fillerCue.f, Option.bind_some]; rw [if_pos (by omega)]; rw [if_pos (by omega), w64 (by omega)]
  rfl
theorem to_CueS_l0 (d : Nat) : ∀ (k : Nat) (x0 : List S101) (x5 : List S58) (i : Nat), x0.length - i = d → i ≤ x0.length → x0.length ≤ x5.length → x5.length ≤ 4000000 → x5.take i = (x0.take i).map conv_CueS → d + x5.length + 1 < k →
  laws_toCueS.l0 k x0 x5 (i : Int) = some (x0.map conv_CueS) := by
 induction d with
 | zero =>
  intro k x0 x5 i hd h1 h2 h3 h4 hk; obtain ⟨k, rfl⟩ : ∃ m, k = m + 1 := ⟨k - 1, by omega⟩; simp only [laws_toCueS.l0]; rw [if_neg (by omega), to_CueS_l1 (x5.length - x0.length) k x0 x5 x0.length rfl (Nat.le_refl _) h2 h3 (by omega)]
  have e : i = x0.length := by omega
  subst e; rw [h4, List.take_length]
 | succ d ih =>
  intro k x0 x5 i hd h1 h2 h3 h4 hk; obtain ⟨k, rfl⟩ : ∃ m, k = m + 1 := ⟨k - 1, by omega⟩
  have hi : i < x0.length := by omega
  have h5 : (x5.set i (conv_CueS x0[i])).take (i + 1) = (x0.take (i + 1)).map conv_CueS := by
   rw [take_set_snoc _ _ _ (by omega), h4, List.take_succ_eq_append_getElem hi, List.map_append]; rfl
  have hr := ih k x0 (x5.set i (conv_CueS x0[i])) (i + 1) (by omega) (by omega) Zav Zav h5 Zav; rw [← hr]; simp only [laws_toCueS.l0, laws_toCue.f, Option.bind_some]; rw [if_pos (by omega), if_pos (by omega)]; rw [if_pos (by omega), w64 (by omega), rd_T101, getD_at _ _ _ hi]
  rfl
theorem to_CueS (l : List S101) (hl : l.length ≤ 1000000) : ∃ (L : List S58) (t : Int), L ≠ [] ∧ (l.map conv_CueS = L.take l.length ∧ l.length ≤ L.length) ∧ (l.map conv_CueS).length = l.length ∧ L.length ≤ 2000001 ∧
  laws_roomBehind.f ((l.map conv_CueS).length : Int) = some t ∧ wrap64 (((l.map conv_CueS).length : Int) + t) = (L.length : Int) ∧
  Evt (fun k => full_toCueS.f k l false = some L) ∧ Evt (fun k => laws_toCueS.f k l true = some (l.map conv_CueS)) := by
 obtain ⟨t, ht, h0, h1, h2⟩ := room_some l.length; have hw : wrap64 ((l.length : Int) + t) = (l.length : Int) + t := w64 (by omega)
 have hn : ((l.length : Int) + t).toNat = l.length + t.toNat := by omega
 have hm : (l.map conv_CueS).length = l.length := List.length_map _
 have hlen : (l.map conv_CueS ++ List.replicate (l.length + t.toNat - l.length) (⟨(-7000000000000000101), (-7000000000000000101), (⟨#[126, 115, 112, 97, 114, 101, 126]⟩ : ByteArray), (-7000000000000000101)⟩ : S58)).length = l.length + t.toNat := by rw [List.length_append, List.length_replicate, hm]; omega
 refine ⟨l.map conv_CueS ++ List.replicate (l.length + t.toNat - l.length) (⟨(-7000000000000000101), (-7000000000000000101), (⟨#[126, 115, 112, 97, 114, 101, 126]⟩ : ByteArray), (-7000000000000000101)⟩ : S58), t, ?_, ⟨?_, by omega⟩, hm, by omega, by rw [hm]; exact ht, by rw [hm, hw, hlen]; omega, ?_, ?_⟩
 ·intro e
  rw [e] at hlen
  simp at hlen
  have := h2 (by omega)
  omega
 ·rw [← hm, List.take_left]
 ·refine Evt.succ ⟨l.length + (l.length + t.toNat) + 2, fun k hk => ?_⟩
  show full_toCueS.f (k + 1) l false = _
  unfold full_toCueS.f
  rw [if_neg (by decide)]; simp only [full_toCueS.j0]; rw [if_neg (by decide), ht]; simp only [Option.bind_some]; rw [hw, if_pos (by omega), hn, if_pos (by omega)]; have z := full_CueS_l0 l.length k l (List.replicate (l.length + t.toNat) z58) 0 (by omega) (by omega) Zaw Zaw (by simp) Zaw; rw [List.length_replicate] at z; exact z
 ·refine Evt.succ ⟨l.length + (l.length + t.toNat) + 2, fun k hk => ?_⟩
  show laws_toCueS.f (k + 1) l true = _
  unfold laws_toCueS.f
  rw [if_pos rfl]; simp only [laws_toCueS.j0]
  by_cases e : l.length = 0
  ·have e2 : l = [] := List.length_eq_zero_iff.mp e
   subst e2
   rfl
  ·have e3 : ((l.length : Int) == 0) = false := by rw [beq_eq_false_iff_ne]; omega
   rw [e3, if_neg (by decide), ht]; simp only [Option.bind_some]; rw [hw, if_pos (by omega), hn, if_pos (by omega)]; exact to_CueS_l0 l.length k l (List.replicate (l.length + t.toNat) z58) 0 (by omega) (by omega) Zaw Zaw (by simp) Zaw
theorem eq_CueS_l0 (d : Nat) : ∀ (k : Nat) (xs : List S58) (i : Nat), xs.length - i = d → i ≤ xs.length → xs.length ≤ 4000000 → d < k → laws_eqCueS.l0 k xs xs (i : Int) = some true := by
 induction d with
 | zero =>
  intro k xs i hd h1 h2 hk; obtain ⟨k, rfl⟩ : ∃ m, k = m + 1 := ⟨k - 1, by omega⟩; simp only [laws_eqCueS.l0]; rw [if_neg (by omega)]
 | succ d ih =>
  intro k xs i hd h1 h2 hk; obtain ⟨k, rfl⟩ : ∃ m, k = m + 1 := ⟨k - 1, by omega⟩; have hr := ih k xs (i + 1) (by omega) (by omega) h2 (by omega); simp only [laws_eqCueS.l0, laws_eqCue.f, if_true, Option.bind_some]; rw [if_pos (by omega), if_pos (by omega), if_pos (by omega), w64 (by omega)]; exact hr
theorem eq_CueS (xs : List S58) (h : xs.length ≤ 4000000) : Evt (fun k => laws_eqCueS.f k xs xs = some true) := by
 refine ⟨xs.length + 1, fun k hk => ?_⟩; show laws_eqCueS.f k xs xs = _
 unfold laws_eqCueS.f
 rw [if_pos rfl]; exact eq_CueS_l0 xs.length k xs 0 (by omega) (by omega) h (by omega)
theorem sz_CueS_l0 (d : Nat) : ∀ (k : Nat) (l : List S101) (a : Int) (i : Nat), l.length - i = d → i ≤ l.length → l.length ≤ 1000000 → 0 ≤ a → a ≤ 1000000 → (∀ x ∈ l, x.f2.size ≤ maxLen) → d < k →
  ∃ s, laws_szCueS.l0 k l a (i : Int) = some s ∧ (∀ m, k ≤ m → laws_szCueS.l0 m l a (i : Int) = some s) ∧ (s < 0 ∨ (0 ≤ s ∧ s ≤ a ∧ ∀ j, i ≤ j → (h : j < l.length) → (l[j]).f2.size ≤ 1000000)) := by
 induction d with
 | zero =>
  intro k l a i hd h1 h2 h3 h4 hp hk
  have e : ∀ m, k ≤ m → laws_szCueS.l0 m l a (i : Int) = some a := fun m hm => by
   obtain ⟨m, rfl⟩ : ∃ q, m = q + 1 := ⟨m - 1, by omega⟩; simp only [laws_szCueS.l0]; rw [if_neg (by omega)]
  exact ⟨a, e k (Nat.le_refl _), e, .inr ⟨h3, Int.le_refl _, fun j h5 h6 => absurd h6 (by omega)⟩⟩
 | succ d ih =>
  intro k l a i hd h1 h2 h3 h4 hp hk
  have hi : i < l.length := by omega
  have hs := hp l[i] (List.getElem_mem hi); have hm : maxLen = 9223372036854775807 := rfl
  have er : rd_T101 l (i : Int) = l[i] := by unfold rd_T101; exact getD_at _ _ _ hi
  by_cases c : a - ((l[i]).f2.size : Int) < 0
  ·have e : ∀ m, k ≤ m → laws_szCueS.l0 m l a (i : Int) = some (-1) := fun m hm => by
    obtain ⟨m, rfl⟩ : ∃ q, m = q + 1 := ⟨m - 1, by omega⟩; simp only [laws_szCueS.l0, laws_szCue.f]; rw [if_pos (by omega), if_pos (by omega), er, w64 (n := a - ((l[i]).f2.size : Int)) (by omega), if_pos c]
    rfl
   exact ⟨-1, e k (Nat.le_refl _), e, .inl (by omega)⟩
  ·obtain ⟨s, _, e2, e3⟩ := ih (k - 1) l (a - ((l[i]).f2.size : Int)) (i + 1) (by omega) (by omega) h2 (by omega) (by omega) hp (by omega)
   have e : ∀ m, k ≤ m → laws_szCueS.l0 m l a (i : Int) = some s := fun m hm => by
    obtain ⟨m, rfl⟩ : ∃ q, m = q + 1 := ⟨m - 1, by omega⟩; simp only [laws_szCueS.l0, laws_szCue.f]; rw [if_pos (by omega), if_pos (by omega), er, w64 (n := a - ((l[i]).f2.size : Int)) (by omega), if_neg c, Option.bind_some, if_neg c, w64 (n := (i : Int) + 1) (by omega)]; exact e2 m (by omega)
   refine ⟨s, e k (Nat.le_refl _), e, ?_⟩
   rcases e3 with e3 | ⟨e3, e4, e5⟩
   ·exact .inl e3
   ·refine .inr ⟨e3, by omega, fun j h5 h6 => ?_⟩
    by_cases q : j = i
    ·subst q; omega
    ·exact e5 j (by omega) h6
theorem sz_CueS (l : List S101) (a : Int) (h0 : 0 ≤ a) (h1 : a ≤ 1000000) (hl : l.length ≤ maxLen) (hp : ∀ x ∈ l, x.f2.size ≤ maxLen) :
  ∃ s, Evt (fun k => laws_szCueS.f k l a = some s) ∧ (s < 0 ∨ (0 ≤ s ∧ s ≤ a ∧ l.length ≤ 1000000 ∧ ∀ x ∈ l, x.f2.size ≤ 1000000)) := by
 have hm : maxLen = 9223372036854775807 := rfl
 by_cases h : a - (l.length : Int) < 0
 ·refine ⟨-1, Evt.of fun k => ?_, .inl (by omega)⟩
  unfold laws_szCueS.f
  rw [w64 (by omega), if_pos h]
 ·obtain ⟨s, _, e2, e3⟩ := sz_CueS_l0 l.length (l.length + 1) l (a - (l.length : Int)) 0 (by omega) (by omega) (by omega) (by omega) (by omega) hp (by omega)
  refine ⟨s, ⟨l.length + 1, fun k hk => ?_⟩, ?_⟩
  ·show laws_szCueS.f k l a = _
   unfold laws_szCueS.f
   rw [w64 (by omega), if_neg h]; exact e2 k hk
  ·rcases e3 with e3 | ⟨e3, e4, e5⟩
   ·exact .inl e3
   ·refine .inr ⟨e3, by omega, by omega, fun x hx => ?_⟩
    obtain ⟨j, hj, rfl⟩ := List.getElem_of_mem hx; exact e5 j (by omega) hj
def seq_CueS : Nat → Int → List S58
 | 0, _ => []
 | d + 1, c => (⟨c, c + 1, mtext (c + 2), c + 3⟩ : S58) :: seq_CueS d (c + 4)
theorem mark_CueS_l0 (d : Nat) : ∀ (k : Nat) (xs : List S58) (c : Int) (i : Nat), xs.length - i = d → i ≤ xs.length → xs.length ≤ 4000000 → 0 ≤ c → c ≤ 1000000000 - 4 * (xs.length - i : Nat) → d + 40 < k →
  laws_markCueS.l0 k xs c (i : Int) = some (c + 4 * d, xs.take i ++ seq_CueS d c) := by
 induction d with
 | zero =>
  intro k xs c i hd h1 h2 h3 h4 hk; obtain ⟨k, rfl⟩ : ∃ m, k = m + 1 := ⟨k - 1, by omega⟩; simp only [laws_markCueS.l0, seq_CueS]; rw [if_neg (by omega), List.take_of_length_le (by omega), List.append_nil]
  congr 2; omega
 | succ d ih =>
  intro k xs c i hd h1 h2 h3 h4 hk; obtain ⟨k, rfl⟩ : ∃ m, k = m + 1 := ⟨k - 1, by omega⟩; have hr := ih k (xs.set i (⟨c, c + 1, mtext (c + 2), c + 3⟩ : S58)) (c + 4) (i + 1) Zav Zav Zav (by omega) Zav (by omega); rw [set_take_app _ _ _ _ (by omega)] at hr
  have e : c + 4 * ((d + 1 : Nat) : Int) = c + 4 + 4 * (d : Int) := by omega
  rw [e]; show _ = some (c + 4 + 4 * (d : Int), xs.take i ++ (⟨c, c + 1, mtext (c + 2), c + 3⟩ : S58) :: seq_CueS d (c + 4)); rw [← hr]
  have hc0 : 0 ≤ c := by omega
  have hc1 : c ≤ 1000000000 := by omega
  have mt : laws_markText.f k (c + 2) = some (mtext (c + 2)) := mtext_eq _ (by omega) (by omega) k (by omega)
  have g2 : (0 : Int) ≤ (i : Int) := by omega
  have wi : ∀ _ : Unit, wrap64 ((i : Int) + 1) = (i : Int) + 1 := fun _ => w64 (by omega)
  have ei : ((i + 1 : Nat) : Int) = (i : Int) + 1 := by omega
  have g1 : (i : Int) < (xs.length : Int) := by omega
  have rs : ∀ v : S58, rd_T58 (xs.set i v) (i : Int) = v := fun v => by unfold rd_T58; rw [Int.toNat_natCast, getD_set _ _ _ _ (by omega)]
  have w1 : wrap64 (c + 1) = c + 1 := w64c0 c hc0 hc1; have w2 : wrap64 (c + 1 + 1) = c + 2 := w64c c 1 2 hc0 hc1 (by decide) rfl; have w3 : wrap64 (c + 2 + 1) = c + 3 := w64c c 2 3 hc0 hc1 (by decide) rfl; have w4 : wrap64 (c + 3 + 1) = c + 4 := w64c c 3 4 hc0 hc1 (by decide) rfl; simp only [laws_markCueS.l0, Option.bind_some, if_pos g1, if_pos g2, w1, w2, w3, w4, mt, wi (), Int.toNat_natCast, set_set, rs, ei]
theorem mark_CueS (xs : List S58) (c : Int) (hx : xs.length ≤ 4000000) (h0 : 0 ≤ c) (h1 : c ≤ 900000000) : Evt (fun k => laws_markCueS.f k xs c = some (c + 4 * (xs.length : Int), seq_CueS xs.length c)) := by
 refine ⟨xs.length + 41, fun k hk => ?_⟩; show laws_markCueS.f k xs c = _
 unfold laws_markCueS.f
 exact mark_CueS_l0 xs.length k xs c 0 (by omega) (by omega) hx h0 (by omega) (by omega)
theorem eq_Int64S_l0 (d : Nat) : ∀ (k : Nat) (xs : List Int) (i : Nat), xs.length - i = d → i ≤ xs.length → xs.length ≤ 4000000 → d < k → laws_eqInt64S.l0 k xs xs (i : Int) = some true := by
 induction d with
 | zero =>
  intro k xs i hd h1 h2 hk; obtain ⟨k, rfl⟩ : ∃ m, k = m + 1 := ⟨k - 1, by omega⟩; simp only [laws_eqInt64S.l0]; rw [if_neg (by omega)]
 | succ d ih =>
  intro k xs i hd h1 h2 hk; obtain ⟨k, rfl⟩ : ∃ m, k = m + 1 := ⟨k - 1, by omega⟩; have hr := ih k xs (i + 1) (by omega) (by omega) h2 (by omega); simp only [laws_eqInt64S.l0, if_true]; rw [if_pos (by omega), if_pos (by omega), if_pos (by omega), w64 (by omega)]; exact hr
theorem eq_Int64S (xs : List Int) (h : xs.length ≤ 4000000) : Evt (fun k => laws_eqInt64S.f k xs xs = some true) := by
 refine ⟨xs.length + 1, fun k hk => ?_⟩; show laws_eqInt64S.f k xs xs = _
 unfold laws_eqInt64S.f
 rw [if_pos rfl]; exact eq_Int64S_l0 xs.length k xs 0 (by omega) (by omega) h (by omega)
def seq_Int64S : Nat → Int → List Int
 | 0, _ => []
 | d + 1, c => c :: seq_Int64S d (c + 1)
theorem seq_Int64S_len : ∀ (d : Nat) (c : Int), (seq_Int64S d c).length = d
 | 0, _ => rfl
 | d + 1, c => by unfold seq_Int64S; rw [List.length_cons, seq_Int64S_len d]
theorem mark_Int64S_l0 (d : Nat) : ∀ (k : Nat) (xs : List Int) (c : Int) (i : Nat), xs.length - i = d → i ≤ xs.length → xs.length ≤ 4000000 → 0 ≤ c → c ≤ 1000000000 - 1 * (xs.length - i : Nat) → d < k →
  laws_markInt64S.l0 k xs c (i : Int) = some (c + 1 * d, xs.take i ++ seq_Int64S d c) := by
 induction d with
 | zero =>
  intro k xs c i hd h1 h2 h3 h4 hk; obtain ⟨k, rfl⟩ : ∃ m, k = m + 1 := ⟨k - 1, by omega⟩; simp only [laws_markInt64S.l0, seq_Int64S]; rw [if_neg (by omega), List.take_of_length_le (by omega), List.append_nil]
  congr 2; omega
 | succ d ih =>
  intro k xs c i hd h1 h2 h3 h4 hk; obtain ⟨k, rfl⟩ : ∃ m, k = m + 1 := ⟨k - 1, by omega⟩; have hr := ih k (xs.set i c) (c + 1) (i + 1) Zav Zav Zav (by omega) Zav (by omega); rw [set_take_app _ _ _ _ (by omega)] at hr
  have e : c + 1 * ((d + 1 : Nat) : Int) = c + 1 + 1 * (d : Int) := by omega
  rw [e]; show _ = some (c + 1 + 1 * (d : Int), xs.take i ++ c :: seq_Int64S d (c + 1)); rw [← hr]; simp only [laws_markInt64S.l0, Option.bind_some]; rw [if_pos (by omega), if_pos (by omega)]
  have w1 : wrap64 (c + 1) = c + 1 := by rw [w64 (by omega)]
  rw [w1, w64 (n := (i : Int) + 1) (by omega)]; rw [Int.toNat_natCast]
  rfl
theorem mark_Int64S (xs : List Int) (c : Int) (hx : xs.length ≤ 4000000) (h0 : 0 ≤ c) (h1 : c ≤ 900000000) : Evt (fun k => laws_markInt64S.f k xs c = some (c + 1 * (xs.length : Int), seq_Int64S xs.length c)) := by
 refine ⟨xs.length + 1, fun k hk => ?_⟩; show laws_markInt64S.f k xs c = _
 unfold laws_markInt64S.f
 exact mark_Int64S_l0 xs.length k xs c 0 (by omega) (by omega) hx h0 (by omega) (by omega)
theorem held_Int64S_l0 (d : Nat) : ∀ (k : Nat) (pre : List Int) (c : Int) (i : Nat), pre.length = i → pre.length + d ≤ 4000000 → 0 ≤ c → c ≤ 1000000000 - 1 * d → d < k →
  laws_heldInt64S.l0 k (pre ++ seq_Int64S d c) c (i : Int) = some (c + 1 * d) := by
 induction d with
 | zero =>
  intro k pre c i hd h1 h2 h3 hk; obtain ⟨k, rfl⟩ : ∃ m, k = m + 1 := ⟨k - 1, by omega⟩; simp only [laws_heldInt64S.l0, seq_Int64S, List.append_nil]; rw [if_neg (by omega)]
  congr 1; omega
 | succ d ih =>
  intro k pre c i hd h1 h2 h3 hk; obtain ⟨k, rfl⟩ : ∃ m, k = m + 1 := ⟨k - 1, by omega⟩; have hr := ih k (pre ++ [c]) (c + 1) (i + 1) (by rw [List.length_append, List.length_singleton]; omega) (by rw [List.length_append, List.length_singleton]; omega) (by omega) (by omega) (by omega); rw [List.append_assoc, List.singleton_append] at hr
  have e : c + 1 * ((d + 1 : Nat) : Int) = c + 1 + 1 * (d : Int) := by omega
  have hlen : (pre ++ c :: seq_Int64S d (c + 1)).length = pre.length + (d + 1) := by rw [List.length_append, List.length_cons, seq_Int64S_len]
  have hrd : rd (pre ++ c :: seq_Int64S d (c + 1)) (i : Int) = c := by
   unfold rd
   rw [Int.toNat_natCast, getD_app _ _ _ _ hd]
   rfl
  rw [e, ← hr]; show laws_heldInt64S.l0 (k + 1) (pre ++ c :: seq_Int64S d (c + 1)) c (i : Int) = _; simp only [laws_heldInt64S.l0, hrd]; rw [if_pos (by omega), if_pos (by omega)]
  have w1 : wrap64 (c + 1) = c + 1 := by rw [w64 (by omega)]
  rw [w1, w64 (n := (i : Int) + 1) (by omega)]; simp only [if_true]
  rfl
theorem held_Int64S (n : Nat) (c : Int) (hx : n ≤ 4000000) (h0 : 0 ≤ c) (h1 : c ≤ 900000000) : Evt (fun k => laws_heldInt64S.f k (seq_Int64S n c) c = some (c + 1 * (n : Int))) := by
 refine ⟨n + 1, fun k hk => ?_⟩; show laws_heldInt64S.f k (seq_Int64S n c) c = _
 unfold laws_heldInt64S.f
 exact held_Int64S_l0 n k [] c 0 rfl (by simp; omega) h0 (by omega) (by omega)
theorem sz_Show (l0 : List S106) (l1 : List S99) (l2 : List S101) (n0 : l0.length ≤ maxLen) (n1 : l1.length ≤ maxLen) (p1 : ∀ x ∈ l1, x.f0.size ≤ maxLen) (n2 : l2.length ≤ maxLen) (p2 : ∀ x ∈ l2, x.f2.size ≤ maxLen) :
  ∃ s, Evt (fun k => laws_szShow.f k l0 l1 l2 1000000 = some s) ∧ (s < 0 ∨ (0 ≤ s ∧ s ≤ 1000000 ∧ l0.length ≤ 1000000 ∧ (l1.length ≤ 1000000 ∧ ∀ x ∈ l1, x.f0.size ≤ 1000000) ∧ l2.length ≤ 1000000 ∧ ∀ x ∈ l2, x.f2.size ≤ 1000000)) := by
 rcases sz_BarS l0 1000000 (by omega) (by omega) n0 with ⟨z0, e0⟩ | e0
 rotate_left
 ·refine ⟨-1, Evt.of fun k => ?_, .inl (by omega)⟩
  unfold laws_szShow.f
  rw [e0]; rfl
 ·obtain ⟨s1, e1, h1⟩ := sz_ArticleS l1 (1000000 - (l0.length : Int)) (by omega) (by omega) n1 p1
  rcases h1 with h1 | ⟨h1, h2, h3, h4⟩
  ·refine ⟨-1, e1.mono fun k hk => ?_, .inl (by omega)⟩
   unfold laws_szShow.f
   rw [e0]; simp only [Option.bind_some]; rw [if_neg (by omega), hk]; simp only [Option.bind_some]; rw [if_pos h1]
  ·obtain ⟨s2, e2, g1⟩ := sz_CueS l2 s1 h1 (by omega) n2 p2
   rcases g1 with g1 | ⟨g1, g2, g3, g4⟩
   ·refine ⟨-1, (e1.and e2).mono fun k hk => ?_, .inl (by omega)⟩
    unfold laws_szShow.f
    rw [e0]; simp only [Option.bind_some]; rw [if_neg (by omega), hk.1]; simp only [Option.bind_some]; rw [if_neg (by omega), hk.2]; simp only [Option.bind_some]; rw [if_pos g1]
   ·refine ⟨s2, (e1.and e2).mono fun k hk => ?_, .inr ⟨g1, by omega, by omega, ⟨h3, h4⟩, g3, g4⟩⟩
    unfold laws_szShow.f
    rw [e0]; simp only [Option.bind_some]; rw [if_neg (by omega), hk.1]; simp only [Option.bind_some]; rw [if_neg (by omega), hk.2]; simp only [Option.bind_some]; rw [if_neg (by omega)]
theorem full_Show {l0 : List S106} {l1 : List S99} {l2 : List S101} {L0 : List S104} {L1 : List S61} {L2 : List S58} (h0 : Evt (fun k => full_toBarS.f k l0 false = some L0)) (h1 : Evt (fun k => full_toArticleS.f k l1 false = some L1)) (h2 : Evt (fun k => full_toCueS.f k l2 false = some L2)) : Evt (fun k => full_toShow.f k l0 l1 l2 false = some (L0, L1, L2)) :=
 (h0.and (h1.and h2)).mono fun k h => by
  unfold full_toShow.f
  rw [h.1, h.2.1, h.2.2]; rfl
theorem bare_Show {l0 : List S106} {l1 : List S99} {l2 : List S101} {L0 : List S104} {L1 : List S61} {L2 : List S58} (h0 : Evt (fun k => laws_toBarS.f k l0 true = some L0)) (h1 : Evt (fun k => laws_toArticleS.f k l1 true = some L1)) (h2 : Evt (fun k => laws_toCueS.f k l2 true = some L2)) : Evt (fun k => laws_toShow.f k l0 l1 l2 true = some (L0, L1, L2)) :=
 (h0.and (h1.and h2)).mono fun k h => by
  unfold laws_toShow.f
  rw [h.1, h.2.1, h.2.2]; rfl
theorem mark_Show (A : List S104) (B : List S61) (C : List S58) (c : Int) (hA : A.length ≤ 1000010) (hB : B.length ≤ 1000010) (hC : C.length ≤ 1000010) (h0 : 0 ≤ c) (h1 : c ≤ 1000) : Evt (fun k => laws_markShow.f k A B C c = some (c + 2 * (A.length : Int) + 9 * (B.length : Int) + 4 * (C.length : Int), seq_BarS A.length c, seq_ArticleS B.length (c + 2 * (A.length : Int)), seq_CueS C.length (c + 2 * (A.length : Int) + 9 * (B.length : Int)))) :=
 ((mark_BarS A c (by omega) h0 (by omega)).and ((mark_ArticleS B (c + 2 * (A.length : Int)) (by omega) (by omega) (by omega)).and (mark_CueS C (c + 2 * (A.length : Int) + 9 * (B.length : Int)) (by omega) (by omega) (by omega)))).mono fun k h => by
  unfold laws_markShow.f
  rw [h.1]; simp only [Option.bind_some]; rw [h.2.1]; simp only [Option.bind_some]; rw [h.2.2]; rfl
theorem In_eq (n lo hi : Int) : spec_l01In.f n lo hi = some (inB n lo hi) := by
 unfold spec_l01In.f inB
 by_cases h : n ≥ lo
 ·rw [if_pos h]; congr 1; simp; omega
 ·rw [if_neg h]; congr 1; simp; omega
theorem Wi_eq (n lo hi : Int) : impl_within.f n lo hi = some (inB n lo hi) := by
 unfold impl_within.f inB
 by_cases h : lo ≤ n
 ·rw [if_pos h]; congr 1; simp; omega
 ·rw [if_neg h]; congr 1; simp; omega
theorem rd_nat (xs : List Int) (i : Nat) : rd xs (i : Int) = xs.getD i 0 := by unfold rd; rw [Int.toNat_natCast]
def word (s : ByteArray) : Bool := allF (fun j => inB (bt s (j : Int)) 97 122) 0 s.size && inB (s.size : Int) 1 16
theorem spec_word (s : ByteArray) (hs : s.size ≤ 9223372036854775807) (k : Nat) (hk : s.size < k) : spec_IsWord.f k s = some (word s) := by
 refine all_loop (f := fun k i => spec_IsWord.l0 k s (i : Int)) s.size (fun k i hi => ?_) (fun k => ?_) s.size k 0 (by omega) (by omega) (by omega)
 ·show spec_IsWord.l0 (k + 1) s i = _
  simp only [spec_IsWord.l0]; rw [if_pos (by omega), if_pos (by omega), w64 (n := (i : Int) + 1) (by omega)]
  by_cases c1 : bt s (i : Int) < 97
  ·rw [if_pos c1, inB_false.2 (by omega), if_neg (by decide)]
  ·rw [if_neg c1]
   by_cases c2 : bt s (i : Int) > 122
   ·rw [if_pos c2, inB_false.2 (by omega), if_neg (by decide)]
   ·rw [if_neg c2, inB_true.2 (by omega), if_pos rfl]; rfl
 ·show spec_IsWord.l0 (k + 1) s _ = _
  simp only [spec_IsWord.l0]; rw [if_neg (by omega), In_eq]; rfl
theorem impl_word (s : ByteArray) (hs : s.size ≤ 9223372036854775807) (k : Nat) (hk : s.size + 1 < k) : impl_IsWord.f k s = some (word s) := by
 obtain ⟨k, rfl⟩ : ∃ m, k = m + 1 := ⟨k - 1, by omega⟩
 unfold impl_IsWord.f word
 simp only [impl_IsWord.j0]
 by_cases h1 : (s.size : Int) < 1
 ·rw [if_pos h1, if_pos trivial, inB_false.2 (by omega), Bool.and_false]
 ·rw [if_neg h1]
  by_cases h2 : (s.size : Int) > 16
  ·rw [if_pos (decide_eq_true h2), inB_false.2 (by omega), Bool.and_false]
  ·rw [if_neg (by simpa using h2), inB_true.2 (by omega)]
   refine all_loop (f := fun k i => impl_IsWord.l0 k s (i : Int)) s.size (fun k i hi => ?_) (fun k => ?_) s.size k 0 (by omega) (by omega) (by omega)
   ·show impl_IsWord.l0 (k + 1) s i = _
    simp only [impl_IsWord.l0]; rw [if_pos (by omega), if_pos (by omega), w64 (n := (i : Int) + 1) (by omega)]
    by_cases c1 : bt s (i : Int) < 97
    ·rw [if_pos c1, inB_false.2 (by omega), if_neg (by decide)]
    ·rw [if_neg c1]
     by_cases c2 : bt s (i : Int) > 122
     ·rw [if_pos c2, inB_false.2 (by omega), if_neg (by decide)]
     ·rw [if_neg c2, inB_true.2 (by omega), if_pos rfl]; rfl
   ·show impl_IsWord.l0 (k + 1) s _ = _
    simp only [impl_IsWord.l0]; rw [if_neg (by omega)]
def art (a : S61) : Bool := word a.f0 && (inB a.f1 0 3 && (inB a.f2 20 300 && (inB a.f3 0 10000 && (inB a.f4 0 a.f3 && (inB a.f5 1 50 && (inB a.f6 0 10000 && (inB a.f7 1 100000 && inB a.f8 0 3)))))))
theorem spec_art (a : S61) (hs : a.f0.size ≤ 9223372036854775807) (k : Nat) (hk : a.f0.size < k) : spec_IsArticle.f k a.f0 a.f1 a.f2 a.f3 a.f4 a.f5 a.f6 a.f7 a.f8 = some (art a) := by
 unfold spec_IsArticle.f art
 rw [spec_word a.f0 hs k hk]; simp only [In_eq, Option.bind_some]
 cases word a.f0 <;> cases inB a.f1 0 3 <;> cases inB a.f2 20 300 <;> cases inB a.f3 0 10000 <;> cases inB a.f4 0 a.f3 <;> cases inB a.f5 1 50 <;> cases inB a.f6 0 10000 <;> cases inB a.f7 1 100000 <;> rfl
theorem impl_art (a : S61) (hs : a.f0.size ≤ 9223372036854775807) (k : Nat) (hk : a.f0.size + 1 < k) : impl_IsArticle.f k a.f0 a.f1 a.f2 a.f3 a.f4 a.f5 a.f6 a.f7 a.f8 = some (art a) := by
 unfold impl_IsArticle.f art
 rw [impl_word a.f0 hs k hk]; simp only [Wi_eq, Option.bind_some]
 cases word a.f0 <;> cases inB a.f1 0 3 <;> cases inB a.f2 20 300 <;> cases inB a.f3 0 10000 <;> cases inB a.f4 0 a.f3 <;> cases inB a.f5 1 50 <;> cases inB a.f6 0 10000 <;> cases inB a.f7 1 100000 <;> rfl
def ar_at (xs : List S61) (i : Nat) : S61 := xs.getD i z61
theorem rd_art (xs : List S61) (i : Nat) : rd_T61 xs (i : Int) = ar_at xs i := by unfold rd_T61 ar_at; rw [Int.toNat_natCast]
def artAt (xs : List S61) (i : Nat) : Bool := art (ar_at xs i) && (decide (i = 0) || Op.bytesLess (ar_at xs (i - 1)).f0.toList (ar_at xs i).f0.toList)
def areArts (xs : List S61) : Bool := allF (artAt xs) 0 xs.length && decide ((xs.length : Int) ≤ 12)
def Small (B : Nat) (xs : List S61) : Prop := B ≤ 9223372036854775807 ∧ ∀ x ∈ xs, x.f0.size ≤ B
theorem small_at {B : Nat} {xs : List S61} (h : Small B xs) (i : Nat) (hi : i < xs.length) : (ar_at xs i).f0.size ≤ B := by
 unfold ar_at
 rw [List.getD_eq_getElem?_getD, List.getElem?_eq_getElem hi]; exact h.2 _ (List.getElem_mem hi)
theorem spec_arts (B : Nat) (xs : List S61) (hx : xs.length ≤ 9223372036854775807) (hB : Small B xs) (k : Nat) (hk : xs.length + B < k) : spec_AreArticles.f k xs = some (areArts xs) := by
 have loop : ∀ d k i, xs.length - i = d → i ≤ xs.length → d + B < k → spec_AreArticles.l0 k xs (i : Int) = some (allF (artAt xs) i d && decide ((xs.length : Int) ≤ 12)) := by
  intro d
  induction d with
  | zero =>
   intro k i hd hi hk; obtain ⟨k, rfl⟩ : ∃ m, k = m + 1 := ⟨k - 1, by omega⟩; simp only [spec_AreArticles.l0]; rw [if_neg (by omega)]
   rfl
  | succ d ih =>
   intro k i hd hi hk; obtain ⟨k, rfl⟩ : ∃ m, k = m + 1 := ⟨k - 1, by omega⟩; have hb := small_at hB i (by omega); have hB1 := hB.1; have nx := ih k (i + 1) (by omega) (by omega) (by omega); simp only [spec_AreArticles.l0]; rw [if_pos (by omega), if_pos (by omega), rd_art, spec_art _ (by omega) k (by omega), w64 (n := (i : Int) + 1) (by omega)]; simp only [Option.bind_some]
   unfold allF artAt
   cases ha : art (ar_at xs i) with
   | false => rfl
   | true =>
    rw [if_pos rfl, Bool.true_and]
    by_cases i0 : i = 0
    ·subst i0
     rw [if_neg (by omega), decide_eq_true rfl, Bool.true_or, Bool.true_and]; exact nx
    ·rw [if_pos (by omega), w64 (n := (i : Int) - 1) (by omega), if_pos (by omega), if_pos (by omega), show (i : Int) - 1 = ((i - 1 : Nat) : Int) by omega, rd_art, decide_eq_false i0, Bool.false_or]
     cases hl : Op.bytesLess (ar_at xs (i - 1)).f0.toList (ar_at xs i).f0.toList with
     | false => rfl
     | true => rw [if_pos rfl, Bool.true_and]; exact nx
 unfold spec_AreArticles.f
 exact loop xs.length k 0 (by omega) (by omega) hk
theorem impl_arts (B : Nat) (xs : List S61) (hx : xs.length ≤ 9223372036854775807) (hB : Small B xs) (k : Nat) (hk : xs.length + B + 1 < k) : impl_AreArticles.f k xs = some (areArts xs) := by
 have loop : ∀ d k i, xs.length - i = d → i ≤ xs.length → d + B + 1 < k → impl_AreArticles.l0 k xs xs (xs.length : Int) (i : Int) = some (allF (artAt xs) i d && true) := by
  intro d
  induction d with
  | zero =>
   intro k i hd hi hk; obtain ⟨k, rfl⟩ : ∃ m, k = m + 1 := ⟨k - 1, by omega⟩; simp only [impl_AreArticles.l0]; rw [if_neg (by omega)]
   rfl
  | succ d ih =>
   intro k i hd hi hk; obtain ⟨k, rfl⟩ : ∃ m, k = m + 1 := ⟨k - 1, by omega⟩; have hb := small_at hB i (by omega); have hB1 := hB.1; have nx := ih k (i + 1) (by omega) (by omega) (by omega); simp only [impl_AreArticles.l0]; rw [if_pos (by omega), if_pos (by omega), if_pos (by omega), rd_art, impl_art _ (by omega) k (by omega), w64 (n := (i : Int) + 1) (by omega)]; simp only [Option.bind_some]
   unfold allF artAt
   cases ha : art (ar_at xs i) with
   | false => rfl
   | true =>
    rw [if_pos rfl, Bool.true_and]
    by_cases i0 : i = 0
    ·subst i0
     rw [if_neg (by omega), decide_eq_true rfl, Bool.true_or, Bool.true_and]; exact nx
    ·rw [if_pos (by omega), w64 (n := (i : Int) - 1) (by omega), if_pos (by omega), if_pos (by omega), show (i : Int) - 1 = ((i - 1 : Nat) : Int) by omega, rd_art, decide_eq_false i0, Bool.false_or]
     cases hl : Op.bytesLess (ar_at xs (i - 1)).f0.toList (ar_at xs i).f0.toList with
     | false => rfl
     | true => rw [if_pos rfl, Bool.true_and]; exact nx
 unfold impl_AreArticles.f areArts
 by_cases c : (xs.length : Int) > 12
 ·rw [if_pos c, decide_eq_false (by omega), Bool.and_false]
 ·rw [if_neg c, decide_eq_true (by omega)]
  exact loop xs.length k 0 (by omega) (by omega) hk
def findF (xs : List S61) (s : ByteArray) : Nat → Nat → Int
 | _, 0 => -1
 | i, d + 1 => if (ar_at xs i).f0.toList = s.toList then (i : Int) else findF xs s (i + 1) d
def find (xs : List S61) (s : ByteArray) : Int := findF xs s 0 xs.length
theorem find_go (xs : List S61) (hx : xs.length ≤ 9223372036854775807) (s : ByteArray) : ∀ d k i, xs.length - i = d → i ≤ xs.length → d < k → spec_l03Find.l0 k xs s (i : Int) = some (findF xs s i d) ∧ impl_articleOf.l0 k s xs (xs.length : Int) (i : Int) = some (findF xs s i d) := by
 intro d
 induction d with
 | zero =>
  intro k i hd hi hk; obtain ⟨k, rfl⟩ : ∃ m, k = m + 1 := ⟨k - 1, by omega⟩; simp only [spec_l03Find.l0, impl_articleOf.l0]; rw [if_neg (by omega), if_neg (by omega)]; exact ⟨rfl, rfl⟩
 | succ d ih =>
  intro k i hd hi hk; obtain ⟨k, rfl⟩ : ∃ m, k = m + 1 := ⟨k - 1, by omega⟩; obtain ⟨a, b⟩ := ih k (i + 1) (by omega) (by omega) (by omega); have w : wrap64 ((i : Int) + 1) = ((i + 1 : Nat) : Int) := w64 (by omega)
  have g1 : (i : Int) < (xs.length : Int) := by clear w; omega
  have g2 : 0 ≤ (i : Int) := by clear w; omega
  simp only [spec_l03Find.l0, impl_articleOf.l0, if_pos g1, if_pos g2, rd_art, w]
  unfold findF
  by_cases c : (ar_at xs i).f0.toList = s.toList
  ·rw [if_pos c, if_pos c, if_pos c]; exact ⟨rfl, rfl⟩
  ·rw [if_neg c, if_neg c, if_neg c]; exact ⟨a, b⟩
theorem spec_find (xs : List S61) (hx : xs.length ≤ 9223372036854775807) (s : ByteArray) (k : Nat) (hk : xs.length < k) : spec_l03Find.f k xs s = some (find xs s) := (find_go xs hx s xs.length k 0 (by omega) (by omega) hk).1
theorem impl_find (xs : List S61) (hx : xs.length ≤ 9223372036854775807) (s : ByteArray) (k : Nat) (hk : xs.length < k) : impl_articleOf.f k xs s = some (find xs s) := (find_go xs hx s xs.length k 0 (by omega) (by omega) hk).2
theorem findF_range (xs : List S61) (s : ByteArray) : ∀ d i, findF xs s i d = -1 ∨ ((i : Int) ≤ findF xs s i d ∧ findF xs s i d < (i : Int) + d)
 | 0, _ => .inl rfl
 | d + 1, i => by
  unfold findF
  by_cases c : (ar_at xs i).f0.toList = s.toList
  ·rw [if_pos c]; exact .inr ⟨Int.le_refl _, by omega⟩
  ·rw [if_neg c]
   rcases findF_range xs s d (i + 1) with h | h
   ·exact .inl h
   ·exact .inr ⟨by omega, by omega⟩
theorem find_range (xs : List S61) (s : ByteArray) : find xs s = -1 ∨ (0 ≤ find xs s ∧ find xs s < (xs.length : Int)) := by
 have := findF_range xs s xs.length 0
 unfold find
 omega
def bt_at (xs : List S104) (i : Nat) : Int := (xs.getD i z104).f0
def ln_at (xs : List S104) (i : Nat) : Int := (xs.getD i z104).f1
def barAt (xs : List S104) (i : Nat) : Bool := inB (bt_at xs i) 1 16 && inB (ln_at xs i) 100 5000
def isScore (xs : List S104) : Bool := allF (barAt xs) 0 xs.length && inB (xs.length : Int) 1 20
theorem rd_bar (xs : List S104) (i : Nat) : rd_T104 xs (i : Int) = xs.getD i z104 := by unfold rd_T104; rw [Int.toNat_natCast]
theorem spec_score (xs : List S104) (hx : xs.length ≤ 9223372036854775807) (k : Nat) (hk : xs.length < k) : spec_IsScore.f k xs = some (isScore xs) := by
 refine all_loop (f := fun k i => spec_IsScore.l0 k xs (i : Int)) xs.length (fun k i hi => ?_) (fun k => ?_) xs.length k 0 (by omega) (by omega) (by omega)
 ·show spec_IsScore.l0 (k + 1) xs i = _
  simp only [spec_IsScore.l0, In_eq, Option.bind_some]; rw [if_pos (by omega), if_pos (by omega), w64 (by omega), rd_bar]
  unfold barAt bt_at ln_at
  cases inB (xs.getD i z104).f0 1 16 <;> cases inB (xs.getD i z104).f1 100 5000 <;> rfl
 ·show spec_IsScore.l0 (k + 1) xs _ = _
  simp only [spec_IsScore.l0, In_eq, Option.bind_some]; rw [if_neg (by omega)]
theorem impl_score (xs : List S104) (hx : xs.length ≤ 9223372036854775807) (k : Nat) (hk : xs.length + 1 < k) : impl_IsScore.f k xs = some (isScore xs) := by
 obtain ⟨k, rfl⟩ : ∃ m, k = m + 1 := ⟨k - 1, by omega⟩
 unfold impl_IsScore.f isScore
 simp only [impl_IsScore.j0]
 by_cases h1 : (xs.length : Int) < 1
 ·rw [if_pos h1, if_pos trivial, inB_false.2 (by omega), Bool.and_false]
 ·rw [if_neg h1]
  by_cases h2 : (xs.length : Int) > 20
  ·rw [if_pos (decide_eq_true h2), inB_false.2 (by omega), Bool.and_false]
  ·rw [if_neg (by simpa using h2), inB_true.2 (by omega)]
   refine all_loop (f := fun k i => impl_IsScore.l0 k xs (xs.length : Int) (i : Int)) xs.length (fun k i hi => ?_) (fun k => ?_) xs.length k 0 (by omega) (by omega) (by omega)
   ·show impl_IsScore.l0 (k + 1) xs (xs.length : Int) i = _
    simp only [impl_IsScore.l0, Wi_eq, Option.bind_some]; rw [if_pos (by omega), if_pos (by omega), if_pos (by omega), w64 (by omega), rd_bar]
    unfold barAt bt_at ln_at
    cases inB (xs.getD i z104).f0 1 16 <;> cases inB (xs.getD i z104).f1 100 5000 <;> rfl
   ·show impl_IsScore.l0 (k + 1) xs (xs.length : Int) _ = _
    simp only [impl_IsScore.l0]; rw [if_neg (by omega)]
theorem isScore_true {xs : List S104} (h : isScore xs = true) : 1 ≤ xs.length ∧ xs.length ≤ 20 ∧ ∀ i, i < xs.length → 1 ≤ bt_at xs i ∧ bt_at xs i ≤ 16 ∧ 100 ≤ ln_at xs i ∧ ln_at xs i ≤ 5000 := by
 unfold isScore at h
 rw [Bool.and_eq_true, allF_true, inB_true] at h; refine ⟨by omega, by omega, fun i hi => ?_⟩; have := h.1 i (by omega) (by omega)
 unfold barAt at this
 rw [Bool.and_eq_true, inB_true, inB_true] at this
 omega
def tm (xs : List S104) (i : Nat) : Int := foldF (fun j s => s + bt_at xs j * ln_at xs j) 0 i 0
theorem tm_succ (xs : List S104) (i : Nat) : tm xs (i + 1) = tm xs i + bt_at xs i * ln_at xs i := by
 unfold tm
 rw [foldF_snoc, Nat.zero_add]
theorem prod_le {a b : Int} (h : 1 ≤ a ∧ a ≤ 16 ∧ 100 ≤ b ∧ b ≤ 5000) : 100 ≤ a * b ∧ a * b ≤ 80000 := by
 have h1 : 1 * b ≤ a * b := Int.mul_le_mul_of_nonneg_right h.1 (by omega); have h2 : a * b ≤ 16 * b := Int.mul_le_mul_of_nonneg_right h.2.1 (by omega)
 omega
theorem tm_le {xs : List S104} (h : isScore xs = true) : ∀ i, i ≤ xs.length → 0 ≤ tm xs i ∧ tm xs i ≤ 80000 * i
 | 0, _ => by unfold tm foldF; omega
 | i + 1, hi => by
  have h1 := tm_le h i (by omega); have h2 := prod_le ((isScore_true h).2.2 i (by omega)); rw [tm_succ]
  omega
theorem spec_time {xs : List S104} (h : isScore xs = true) (bar : Nat) (hb : bar < xs.length) (beat : Int) (h0 : 0 ≤ beat ∧ beat ≤ 16) (k : Nat) (hk : bar < k) : spec_l07Time.f k xs (bar : Int) beat = some (tm xs bar + beat * ln_at xs bar) := by
 have hs := isScore_true h; have hl := hs.2.2 bar hb
 have hb2 : 0 ≤ beat * ln_at xs bar ∧ beat * ln_at xs bar ≤ 80000 := by
  have h1 : 0 * ln_at xs bar ≤ beat * ln_at xs bar := Int.mul_le_mul_of_nonneg_right h0.1 (by omega); have h2 : beat * ln_at xs bar ≤ 16 * ln_at xs bar := Int.mul_le_mul_of_nonneg_right h0.2 (by omega)
  omega
 refine fold_loop (f := fun k i s => spec_l07Time.l0 k xs (bar : Int) beat s (i : Int)) (step := fun j s => s + bt_at xs j * ln_at xs j) (I := fun i s => s = tm xs i) (e := fun s => some (s + beat * ln_at xs bar)) bar (fun k i s hi hI => ?_) (fun i s hi hI => ?_) (fun k s hI => ?_) bar k 0 0 (by omega) (by omega) rfl hk
 ·have h1 := tm_le h i (by omega)
  have h2 := prod_le (hs.2.2 i (by omega)); show spec_l07Time.l0 (k + 1) xs (bar : Int) beat s (i : Int) = spec_l07Time.l0 k xs (bar : Int) beat (s + bt_at xs i * ln_at xs i) ((i + 1 : Nat) : Int); simp only [spec_l07Time.l0]; rw [if_pos (by omega), if_pos (by omega), if_pos (by omega), rd_bar]; show spec_l07Time.l0 k xs (bar : Int) beat (wrap64 (s + wrap64 (bt_at xs i * ln_at xs i))) (wrap64 ((i : Int) + 1)) = _; rw [w64 (n := bt_at xs i * ln_at xs i) (by omega), w64 (n := s + _) (by omega), w64 (by omega)]
  rfl
 ·show s + bt_at xs i * ln_at xs i = tm xs (i + 1)
  rw [tm_succ, hI]
 ·have h1 := tm_le h bar (by omega)
  show spec_l07Time.l0 (k + 1) xs (bar : Int) beat s (bar : Int) = some (s + beat * ln_at xs bar); simp only [spec_l07Time.l0]; rw [if_neg (by omega), if_pos (by omega), if_pos (by omega), rd_bar]; show some (wrap64 (s + wrap64 (beat * ln_at xs bar))) = _; rw [w64 (n := beat * ln_at xs bar) (by omega), w64 (by omega)]
theorem impl_time {xs : List S104} (h : isScore xs = true) (bar : Nat) (beat : Int) (hb : bar < xs.length ∨ (bar = xs.length ∧ beat = 0)) (h0 : 0 ≤ beat ∧ beat ≤ 16) (k : Nat) (hk : bar < k) : impl_beatTime.f k xs (bar : Int) beat = some (tm xs bar + beat * ln_at xs bar) := by
 have hs := isScore_true h
 have hlen : (xs.take bar).length = bar := by rw [List.length_take]; omega
 unfold impl_beatTime.f
 rw [if_pos (by omega), if_pos (by omega), Int.toNat_natCast]; simp only [Option.bind_some]; rw [hlen]; refine fold_loop (f := fun k i s => impl_beatTime.l0 k xs (bar : Int) beat s (xs.take bar) (bar : Int) (i : Int)) (step := fun j s => s + bt_at xs j * ln_at xs j) (I := fun i s => s = tm xs i) (e := fun s => some (s + beat * ln_at xs bar)) bar (fun k i s hi hI => ?_) (fun i s hi hI => ?_) (fun k s hI => ?_) bar k 0 0 (by omega) (by omega) rfl hk
 ·have h1 := tm_le h i (by omega)
  have h2 := prod_le (hs.2.2 i (by omega)); show impl_beatTime.l0 (k + 1) xs (bar : Int) beat s (xs.take bar) (bar : Int) (i : Int) = impl_beatTime.l0 k xs (bar : Int) beat (s + bt_at xs i * ln_at xs i) (xs.take bar) (bar : Int) ((i + 1 : Nat) : Int); simp only [impl_beatTime.l0]; rw [if_pos (by omega), if_pos (by omega), if_pos (by rw [hlen]; omega), rd_bar, getD_take _ _ _ _ hi]; show impl_beatTime.l0 k xs (bar : Int) beat (wrap64 (s + wrap64 (bt_at xs i * ln_at xs i))) (xs.take bar) (bar : Int) (wrap64 ((i : Int) + 1)) = _; rw [w64 (n := bt_at xs i * ln_at xs i) (by omega), w64 (n := s + _) (by omega), w64 (by omega)]
  rfl
 ·show s + bt_at xs i * ln_at xs i = tm xs (i + 1)
  rw [tm_succ, hI]
 ·have h1 := tm_le h bar (by omega)
  show impl_beatTime.l0 (k + 1) xs (bar : Int) beat s (xs.take bar) (bar : Int) (bar : Int) = some (s + beat * ln_at xs bar); simp only [impl_beatTime.l0]; rw [if_neg (by omega)]
  by_cases hp : beat > 0
  ·have hlt : bar < xs.length := by omega
   have hl := hs.2.2 bar hlt
   have hb2 : 0 ≤ beat * ln_at xs bar ∧ beat * ln_at xs bar ≤ 80000 := by
    have h1 : 0 * ln_at xs bar ≤ beat * ln_at xs bar := Int.mul_le_mul_of_nonneg_right h0.1 (by omega); have h2 : beat * ln_at xs bar ≤ 16 * ln_at xs bar := Int.mul_le_mul_of_nonneg_right h0.2 (by omega)
    omega
   rw [if_pos hp, if_pos (by omega), if_pos (by omega), rd_bar]; show some (wrap64 (s + wrap64 (beat * ln_at xs bar))) = _; rw [w64 (n := beat * ln_at xs bar) (by omega), w64 (by omega)]
  ·have e : beat = 0 := by omega
   rw [if_neg hp, e, Int.zero_mul, Int.add_zero]
theorem index_eq (a n : Int) : impl_isIndex.f a n = some (inB a 0 (wrap64 (n - 1))) := by
 unfold impl_isIndex.f
 simp only [Wi_eq, Option.bind_some]
def hasBeat (xs : List S104) (bar beat : Int) : Bool := inB bar 0 ((xs.length : Int) - 1) && inB beat 0 (bt_at xs bar.toNat - 1)
theorem hasBeat_true {xs : List S104} {bar beat : Int} (h : hasBeat xs bar beat = true) : ∃ b : Nat, bar = b ∧ b < xs.length ∧ 0 ≤ beat ∧ beat ≤ bt_at xs b - 1 := by
 unfold hasBeat at h
 rw [Bool.and_eq_true, inB_true, inB_true] at h; exact ⟨bar.toNat, by omega, by omega, h.2⟩
theorem spec_has {xs : List S104} (h : isScore xs = true) (bar beat : Int) : spec_l07Has.f xs bar beat = some (hasBeat xs bar beat) := by
 have hs := isScore_true h
 unfold spec_l07Has.f hasBeat
 rw [w64 (n := (xs.length : Int) - 1) (by omega), In_eq]; simp only [Option.bind_some]
 cases g : inB bar 0 ((xs.length : Int) - 1) with
 | false => rfl
 | true =>
  rw [inB_true] at g; obtain ⟨b, rfl⟩ : ∃ n : Nat, bar = n := ⟨bar.toNat, by omega⟩; have hb := hs.2.2 b (by omega); rw [if_pos rfl, if_pos (by omega), if_pos (by omega), rd_bar]; show ((spec_l01In.f beat 0 (wrap64 (bt_at xs b - 1))).bind fun t => some t) = _; rw [w64 (by omega), In_eq]; rfl
theorem impl_has {xs : List S104} (h : isScore xs = true) (bar beat : Int) : impl_isBeat.f xs bar beat = some (hasBeat xs bar beat) := by
 have hs := isScore_true h
 unfold impl_isBeat.f hasBeat
 rw [index_eq, w64 (n := (xs.length : Int) - 1) (by omega)]; simp only [Option.bind_some]
 cases g : inB bar 0 ((xs.length : Int) - 1) with
 | false => rfl
 | true =>
  rw [inB_true] at g; obtain ⟨b, rfl⟩ : ∃ n : Nat, bar = n := ⟨bar.toNat, by omega⟩; have hb := hs.2.2 b (by omega); rw [if_pos rfl, if_pos (by omega), if_pos (by omega), rd_bar]; show ((impl_within.f beat 0 (wrap64 (bt_at xs b - 1))).bind fun t => some t) = _; rw [w64 (by omega), Wi_eq]; rfl
def cu_at (C : List S58) (i : Nat) : S58 := C.getD i z58
theorem rd_cue (C : List S58) (i : Nat) : rd_T58 C (i : Int) = cu_at C i := by unfold rd_T58 cu_at; rw [Int.toNat_natCast]
def arOf (B : List S61) (c : S58) : S61 := ar_at B (find B c.f2).toNat
def ftime (A : List S104) (B : List S61) (c : S58) : Int := tm A c.f0.toNat + c.f1 * ln_at A c.f0.toNat - (arOf B c).f3
theorem areArts_true {xs : List S61} (h : areArts xs = true) : xs.length ≤ 12 ∧ ∀ i, i < xs.length → art (ar_at xs i) = true := by
 unfold areArts at h
 rw [Bool.and_eq_true, allF_true, decide_eq_true_iff] at h; refine ⟨by omega, fun i hi => ?_⟩; have := h.1 i (by omega) (by omega)
 unfold artAt at this
 rw [Bool.and_eq_true] at this; exact this.1
theorem art_true {a : S61} (h : art a = true) : (0 ≤ a.f1 ∧ a.f1 ≤ 3) ∧ (20 ≤ a.f2 ∧ a.f2 ≤ 300) ∧ (0 ≤ a.f3 ∧ a.f3 ≤ 10000) ∧ (0 ≤ a.f4 ∧ a.f4 ≤ a.f3) ∧ (1 ≤ a.f5 ∧ a.f5 ≤ 50) ∧ (0 ≤ a.f6 ∧ a.f6 ≤ 10000) ∧ (1 ≤ a.f7 ∧ a.f7 ≤ 100000) ∧ 0 ≤ a.f8 ∧ a.f8 ≤ 3 := by
 unfold art at h
 simp only [Bool.and_eq_true, inB_true] at h; exact h.2
theorem arOf_ok {B : List S61} (hB : areArts B = true) {c : S58} (hc : 0 ≤ find B c.f2) : art (arOf B c) = true ∧ find B c.f2 < (B.length : Int) := by
 rcases find_range B c.f2 with h | h
 ·omega
 ·exact ⟨(areArts_true hB).2 _ (by omega), h.2⟩
theorem time_range {A : List S104} (hA : isScore A = true) {b : Nat} (hb : b < A.length) {e : Int} (he : 0 ≤ e ∧ e ≤ bt_at A b - 1) : 0 ≤ tm A b + e * ln_at A b ∧ tm A b + e * ln_at A b ≤ 2000000 := by
 have hs := isScore_true hA; have hl := hs.2.2 b hb; have ht := tm_le hA b (by omega); have h1 : 0 ≤ e * ln_at A b := Int.mul_nonneg he.1 (by omega); have h2 : e * ln_at A b ≤ 16 * ln_at A b := Int.mul_le_mul_of_nonneg_right (by omega) (by omega)
 omega
theorem spec_ftime {A : List S104} (hA : isScore A = true) {B : List S61} (hB : areArts B = true) (C : List S58) {c : S58} (hc : 0 ≤ find B c.f2) (hb : hasBeat A c.f0 c.f1 = true) (k : Nat) (hk : 100 ≤ k) : spec_l08Time.f k A B C c.f0 c.f1 c.f2 c.f3 = some (ftime A B c) := by
 obtain ⟨b, e, h1, h2, h3⟩ := hasBeat_true hb; have hs := isScore_true hA; have hl := hs.2.2 b h1; have hf := arOf_ok hB hc; have hr := time_range hA h1 ⟨h2, h3⟩; have ha := art_true hf.1; have hB12 := (areArts_true hB).1
 have ft : ftime A B c = tm A b + c.f1 * ln_at A b - (arOf B c).f3 := by unfold ftime; rw [e, Int.toNat_natCast]
 unfold spec_l08Time.f
 rw [e, spec_time hA b h1 c.f1 (by omega) k (by omega)]; simp only [Option.bind_some]; rw [spec_find B (by omega) c.f2 k (by omega)]; simp only [Option.bind_some]; rw [if_pos hc, if_pos hf.2, ft]
 have er : rd_T61 B (find B c.f2) = arOf B c := by
  have := rd_art B (find B c.f2).toNat; rw [show ((find B c.f2).toNat : Int) = find B c.f2 by omega] at this; exact this
 rw [er, w64 (by omega)]
theorem impl_ftime {A : List S104} (hA : isScore A = true) {B : List S61} (hB : areArts B = true) (C : List S58) (c : S58) (k : Nat) (hk : 100 ≤ k) : impl_firedAt.f k A B C c.f0 c.f1 c.f2 c.f3 = some (if 0 ≤ find B c.f2 ∧ hasBeat A c.f0 c.f1 = true then mx (-1) (ftime A B c) else -1) := by
 have hs := isScore_true hA; have hB12 := (areArts_true hB).1
 unfold impl_firedAt.f
 rw [impl_find B (by omega) c.f2 k (by omega)]; simp only [Option.bind_some]
 by_cases hc : 0 ≤ find B c.f2
 ·rw [if_neg (by omega), impl_has hA]
  simp only [Option.bind_some]
  by_cases hb : hasBeat A c.f0 c.f1 = true
  ·obtain ⟨b, e, h1, h2, h3⟩ := hasBeat_true hb
   have hl := hs.2.2 b h1; have hf := arOf_ok hB hc; have hr := time_range hA h1 ⟨h2, h3⟩; have ha := art_true hf.1
   have ft : ftime A B c = tm A b + c.f1 * ln_at A b - (arOf B c).f3 := by unfold ftime; rw [e, Int.toNat_natCast]
   have er : rd_T61 B (find B c.f2) = arOf B c := by
    have := rd_art B (find B c.f2).toNat; rw [show ((find B c.f2).toNat : Int) = find B c.f2 by omega] at this; exact this
   rw [if_pos hb, if_pos (show 0 ≤ find B c.f2 ∧ hasBeat A c.f0 c.f1 = true from ⟨hc, hb⟩), e, impl_time hA b c.f1 (.inl h1) (by omega) k (by omega)]; simp only [Option.bind_some]; rw [if_pos hc, if_pos hf.2, er, ft, w64 (by omega)]
  ·rw [if_neg hb, if_neg (show ¬ (0 ≤ find B c.f2 ∧ hasBeat A c.f0 c.f1 = true) from fun x => hb x.2)]
 ·rw [if_pos (by omega), if_neg (show ¬ (0 ≤ find B c.f2 ∧ hasBeat A c.f0 c.f1 = true) from fun x => hc x.1)]
def cueOk (A : List S104) (B : List S61) (c : S58) : Bool := hasBeat A c.f0 c.f1 && (decide (0 ≤ find B c.f2) && (inB c.f3 0 11 && decide (0 ≤ ftime A B c)))
def isShow (A : List S104) (B : List S61) (C : List S58) : Bool := isScore A && (areArts B && (decide ((C.length : Int) ≤ 20) && allF (fun i => cueOk A B (cu_at C i)) 0 C.length))
theorem cueOk_true {A : List S104} {B : List S61} {c : S58} (h : cueOk A B c = true) : hasBeat A c.f0 c.f1 = true ∧ 0 ≤ find B c.f2 ∧ (0 ≤ c.f3 ∧ c.f3 ≤ 11) ∧ 0 ≤ ftime A B c := by
 unfold cueOk at h
 simpa only [Bool.and_eq_true, inB_true, decide_eq_true_iff] using h
theorem isShow_true {A : List S104} {B : List S61} {C : List S58} (h : isShow A B C = true) : isScore A = true ∧ areArts B = true ∧ C.length ≤ 20 ∧ ∀ i, i < C.length → cueOk A B (cu_at C i) = true := by
 unfold isShow at h
 rw [Bool.and_eq_true, Bool.and_eq_true, Bool.and_eq_true, allF_true, decide_eq_true_iff] at h; exact ⟨h.1, h.2.1, by omega, fun i hi => h.2.2.2 i (by omega) (by omega)⟩
theorem spec_show (n : Nat) (A : List S104) (B : List S61) (C : List S58) (hA : A.length ≤ 9223372036854775807) (hB : B.length ≤ 9223372036854775807) (hC : C.length ≤ 9223372036854775807) (hS : Small n B) (k : Nat) (hk : A.length + B.length + C.length + n + 200 ≤ k) : spec_IsShow.f k A B C = some (isShow A B C) := by
 obtain ⟨k, rfl⟩ : ∃ m, k = m + 1 := ⟨k - 1, by omega⟩
 unfold spec_IsShow.f isShow
 rw [spec_score A (by omega) (k + 1) (by omega)]; simp only [Option.bind_some]
 cases a : isScore A with
 | false => rfl
 | true =>
  rw [if_pos rfl, spec_arts n B (by omega) hS (k + 1) (by omega)]; simp only [Option.bind_some]
  cases b : areArts B with
  | false => rfl
  | true =>
   rw [if_pos rfl]
   by_cases c : (C.length : Int) > 20
   ·rw [decide_eq_true c, decide_eq_false (by omega)]; rfl
   ·rw [decide_eq_false c, decide_eq_true (by omega)]
    simp only [spec_IsShow.j0, Bool.false_eq_true, if_false, Bool.true_and]; have hB12 := (areArts_true b).1
    have loop : ∀ d k i, C.length - i = d → i ≤ C.length → d + 110 ≤ k → spec_IsShow.l0 k (i : Int) A B C = some (allF (fun i => cueOk A B (cu_at C i)) i d) := by
     intro d
     induction d with
     | zero =>
      intro k i hd hi hk; obtain ⟨k, rfl⟩ : ∃ m, k = m + 1 := ⟨k - 1, by omega⟩; simp only [spec_IsShow.l0]; rw [if_neg (by omega)]
      rfl
     | succ d ih =>
      intro k i hd hi hk; obtain ⟨k, rfl⟩ : ∃ m, k = m + 1 := ⟨k - 1, by omega⟩; have nx := ih k (i + 1) (by omega) (by omega) (by omega); simp only [spec_IsShow.l0]; rw [if_pos (by omega), if_pos (by omega), rd_cue, spec_has a, spec_find B (by omega) _ k (by omega), In_eq, w64 (n := (i : Int) + 1) (by omega)]; simp only [Option.bind_some]
      unfold allF cueOk
      cases hb : hasBeat A (cu_at C i).f0 (cu_at C i).f1 with
      | false => rfl
      | true =>
       rw [if_pos rfl, Bool.true_and]
       by_cases hf : 0 ≤ find B (cu_at C i).f2
       ·rw [if_neg (by omega), decide_eq_true hf, Bool.true_and]
        cases hr : inB (cu_at C i).f3 0 11 with
        | false => rfl
        | true =>
         rw [if_pos rfl, Bool.true_and, spec_ftime a b C hf hb k (by omega)]; simp only [Option.bind_some]
         by_cases ht : ftime A B (cu_at C i) < 0
         ·rw [if_pos ht, decide_eq_false (by omega)]; rfl
         ·rw [if_neg ht, decide_eq_true (by omega), Bool.true_and]
          exact nx
       ·rw [if_pos (by omega), decide_eq_false hf]; rfl
    exact loop C.length k 0 (by omega) (by omega) (by omega)
theorem impl_show (n : Nat) (A : List S104) (B : List S61) (C : List S58) (hA : A.length ≤ 9223372036854775807) (hB : B.length ≤ 9223372036854775807) (hC : C.length ≤ 9223372036854775807) (hS : Small n B) (k : Nat) (hk : A.length + B.length + C.length + n + 200 ≤ k) : impl_IsShow.f k A B C = some (isShow A B C) := by
 obtain ⟨k, rfl⟩ : ∃ m, k = m + 1 := ⟨k - 1, by omega⟩
 unfold impl_IsShow.f isShow
 rw [impl_score A (by omega) (k + 1) (by omega)]; simp only [Option.bind_some]
 cases a : isScore A with
 | false => rfl
 | true =>
  rw [if_pos rfl, impl_arts n B (by omega) hS (k + 1) (by omega)]; simp only [Option.bind_some]
  cases b : areArts B with
  | false => rfl
  | true =>
   rw [if_pos rfl]
   by_cases c : (C.length : Int) > 20
   ·rw [decide_eq_true c, decide_eq_false (by omega)]; rfl
   ·rw [decide_eq_false c, decide_eq_true (by omega)]
    simp only [impl_IsShow.j0, Bool.false_eq_true, if_false, Bool.true_and]; have hB12 := (areArts_true b).1
    have loop : ∀ d k i, C.length - i = d → i ≤ C.length → d + 110 ≤ k → impl_IsShow.l0 k C (C.length : Int) (i : Int) A B C = some (allF (fun i => cueOk A B (cu_at C i)) i d) := by
     intro d
     induction d with
     | zero =>
      intro k i hd hi hk; obtain ⟨k, rfl⟩ : ∃ m, k = m + 1 := ⟨k - 1, by omega⟩; simp only [impl_IsShow.l0]; rw [if_neg (by omega)]
      rfl
     | succ d ih =>
      intro k i hd hi hk; obtain ⟨k, rfl⟩ : ∃ m, k = m + 1 := ⟨k - 1, by omega⟩; have nx := ih k (i + 1) (by omega) (by omega) (by omega); simp only [impl_IsShow.l0]; rw [if_pos (by omega), if_pos (by omega), if_pos (by omega), rd_cue, Wi_eq, impl_ftime a b C _ k (by omega), w64 (n := (i : Int) + 1) (by omega)]; simp only [Option.bind_some]
      unfold allF cueOk
      cases hr : inB (cu_at C i).f3 0 11 with
      | false =>
       rw [if_neg (by decide)]
       simp
      | true =>
       rw [if_pos rfl]
       cases hb : hasBeat A (cu_at C i).f0 (cu_at C i).f1 with
       | false =>
        rw [if_neg (show ¬ (0 ≤ find B (cu_at C i).f2 ∧ false = true) from fun x => absurd x.2 (by decide)), if_pos (by omega)]; rfl
       | true =>
        by_cases hf : 0 ≤ find B (cu_at C i).f2
        ·rw [if_pos (show 0 ≤ find B (cu_at C i).f2 ∧ true = true from ⟨hf, rfl⟩), decide_eq_true hf]
         by_cases ht : ftime A B (cu_at C i) < 0
         ·rw [if_pos (by unfold mx; split <;> omega), decide_eq_false (by omega)]; rfl
         ·rw [if_neg (by unfold mx; split <;> omega), decide_eq_true (by omega)]
          exact nx
        ·rw [if_neg (show ¬ (0 ≤ find B (cu_at C i).f2 ∧ true = true) from fun x => hf x.1), if_pos (by omega), decide_eq_false hf]; rfl
    exact loop C.length k 0 (by omega) (by omega) (by omega)
def fts (A : List S104) (B : List S61) (C : List S58) : List Int := C.map (ftime A B)
theorem fts_len (A : List S104) (B : List S61) (C : List S58) : (fts A B C).length = C.length := by unfold fts; rw [List.length_map]
theorem cu_get {C : List S58} {i : Nat} (hi : i < C.length) : cu_at C i = C[i] := by
 unfold cu_at
 rw [List.getD_eq_getElem?_getD, List.getElem?_eq_getElem hi]; rfl
theorem times_go {A : List S104} {B : List S61} {C : List S58} (h : isShow A B C = true) : ∀ d k i, C.length - i = d → i ≤ C.length → d + 110 ≤ k → spec_l08Times.l0 k ((C.take i).map (ftime A B)) (i : Int) A B C = some (fts A B C) ∧ impl_fireTimes.l0 k ((C.take i).map (ftime A B)) C (C.length : Int) (i : Int) A B C = some (fts A B C) := by
 obtain ⟨hA, hB, hC, hc⟩ := isShow_true h; intro d
 induction d with
 | zero =>
  intro k i hd hi hk; obtain ⟨k, rfl⟩ : ∃ m, k = m + 1 := ⟨k - 1, by omega⟩; simp only [spec_l08Times.l0, impl_fireTimes.l0]; rw [if_neg (by omega), if_neg (by omega), List.take_of_length_le (by omega)]; exact ⟨rfl, rfl⟩
 | succ d ih =>
  intro k i hd hi hk; obtain ⟨k, rfl⟩ : ∃ m, k = m + 1 := ⟨k - 1, by omega⟩; obtain ⟨a, b⟩ := ih k (i + 1) (by omega) (by omega) (by omega); obtain ⟨h1, h2, h3, h4⟩ := cueOk_true (hc i (by omega)); rw [List.take_succ_eq_append_getElem (show i < C.length by omega), List.map_append, ← cu_get (show i < C.length by omega)] at a b
  have hl : ((C.take i).map (ftime A B)).length < 17592186044416 := by rw [List.length_map, List.length_take]; omega
  have e : mx (-1) (ftime A B (cu_at C i)) = ftime A B (cu_at C i) := by unfold mx; rw [if_pos (by omega)]
  have g1 : (i : Int) < (C.length : Int) := by omega
  have g2 : 0 ≤ (i : Int) := by omega
  simp only [spec_l08Times.l0, impl_fireTimes.l0, if_pos g1, if_pos g2, rd_cue, spec_ftime hA hB C h2 h1 k (by omega), impl_ftime hA hB C (cu_at C i) k (by omega), Option.bind_some, if_pos hl]; rw [if_pos (show 0 ≤ find B (cu_at C i).f2 ∧ hasBeat A (cu_at C i).f0 (cu_at C i).f1 = true from ⟨h2, h1⟩), e, w64 (n := (i : Int) + 1) (by omega)]; exact ⟨a, b⟩
theorem times_ok {A : List S104} {B : List S61} {C : List S58} (h : isShow A B C = true) (k : Nat) (hk : 200 ≤ k) : spec_l08Times.f k A B C = some (fts A B C) ∧ impl_fireTimes.f k A B C = some (fts A B C) := by
 have hC := (isShow_true h).2.2.1; exact times_go h C.length k 0 (by omega) (by omega) (by omega)
def Frame (n0 : Nat) (A : List S104) (B : List S61) (C : List S58) : Prop := A.length ≤ 9223372036854775807 ∧ B.length ≤ 9223372036854775807 ∧ C.length ≤ 9223372036854775807 ∧ Small n0 B
theorem ss_ok {n0 : Nat} {A : List S104} {B : List S61} {C : List S58} (h : Frame n0 A B C) (k : Nat) (hk : 36893488147419103428 ≤ k) : spec_IsShow.f k A B C = some (isShow A B C) := spec_show n0 A B C h.1 h.2.1 h.2.2.1 h.2.2.2 k (by have := h.1; have := h.2.1; have := h.2.2.1; have := h.2.2.2.1; omega)
theorem si_ok {n0 : Nat} {A : List S104} {B : List S61} {C : List S58} (h : Frame n0 A B C) (k : Nat) (hk : 36893488147419103428 ≤ k) : impl_IsShow.f k A B C = some (isShow A B C) := impl_show n0 A B C h.1 h.2.1 h.2.2.1 h.2.2.2 k (by have := h.1; have := h.2.1; have := h.2.2.1; have := h.2.2.2.1; omega)
def insAt (O : List Int) (p : Nat) (i : Int) : List Int := O.take p ++ i :: O.drop p
theorem insAt_len (O : List Int) (p : Nat) (i : Int) (h : p ≤ O.length) : (insAt O p i).length = O.length + 1 := by
 unfold insAt
 rw [List.length_append, List.length_take, List.length_cons, List.length_drop]; omega
theorem insAt_get (O : List Int) (p : Nat) (i : Int) (h : p ≤ O.length) (j : Nat) : (insAt O p i).getD j 0 = if j < p then O.getD j 0 else if j = p then i else O.getD (j - 1) 0 := by
 unfold insAt
 simp only [List.getD_eq_getElem?_getD]
 have hl : (O.take p).length = p := by rw [List.length_take]; omega
 by_cases c : j < p
 ·rw [if_pos c, List.getElem?_append_left (by omega), List.getElem?_take, if_pos c]
 ·rw [if_neg c, List.getElem?_append_right (by omega), hl]
  by_cases e : j = p
  ·rw [if_pos e, e, Nat.sub_self, List.getElem?_cons_zero]; rfl
  ·rw [if_neg e, show j - p = (j - 1 - p) + 1 by omega, List.getElem?_cons_succ, List.getElem?_drop, show p + (j - 1 - p) = j - 1 by omega]
def posF (T O : List Int) (t : Int) : Nat → Nat → Nat
 | x, 0 => x
 | x, d + 1 => if rd T (O.getD x 0) ≤ t then posF T O t (x + 1) d else x
theorem posF_range (T O : List Int) (t : Int) : ∀ d x, x ≤ posF T O t x d ∧ posF T O t x d ≤ x + d
 | 0, x => by unfold posF; omega
 | d + 1, x => by
  have := posF_range T O t d (x + 1)
  unfold posF
  split <;> omega
theorem posF_before (T O : List Int) (t : Int) : ∀ d x j, x ≤ j → j < posF T O t x d → rd T (O.getD j 0) ≤ t
 | 0, x, j, h1, h2 => by unfold posF at h2; omega
 | d + 1, x, j, h1, h2 => by
  unfold posF at h2
  by_cases c : rd T (O.getD x 0) ≤ t
  ·rw [if_pos c] at h2
   by_cases e : j = x
   ·rw [e]; exact c
   ·exact posF_before T O t d (x + 1) j (by omega) h2
  ·rw [if_neg c] at h2; omega
theorem posF_at (T O : List Int) (t : Int) : ∀ d x, posF T O t x d < x + d → t < rd T (O.getD (posF T O t x d) 0)
 | 0, x, h => by unfold posF at h; omega
 | d + 1, x, h => by
  unfold posF at h ⊢
  by_cases c : rd T (O.getD x 0) ≤ t
  ·rw [if_pos c] at h ⊢
   exact posF_at T O t d (x + 1) (by omega)
  ·rw [if_neg c]; omega
def pos (T O : List Int) (i : Nat) : Nat := posF T O (rd T (i : Int)) 0 O.length
def ordF (T : List Int) : Nat → List Int
 | 0 => []
 | i + 1 => insAt (ordF T i) (pos T (ordF T i) i) (i : Int)
theorem pos_le (T O : List Int) (i : Nat) : pos T O i ≤ O.length := by
 have := posF_range T O (rd T (i : Int)) O.length 0
 unfold pos; omega
structure Ord (T O : List Int) (m : Nat) : Prop where
 l : O.length = m
 r : ∀ j, j < m → 0 ≤ O.getD j 0 ∧ O.getD j 0 < (m : Int)
 s : ∀ a b, a < b → b < m → rd T (O.getD a 0) < rd T (O.getD b 0) ∨ (rd T (O.getD a 0) = rd T (O.getD b 0) ∧ O.getD a 0 < O.getD b 0)
theorem Ord.after {T O : List Int} {m : Nat} (h : Ord T O m) {i j : Nat} (h1 : pos T O i ≤ j) (h2 : j < m) : rd T (i : Int) < rd T (O.getD j 0) := by
 have e := posF_at T O (rd T (i : Int)) O.length 0; have hl := h.l; have hp : posF T O (rd T (i : Int)) 0 O.length = pos T O i := rfl; rw [hp] at e; have e1 := e (by omega)
 by_cases c : pos T O i = j
 ·rw [← c]; exact e1
 ·have := h.s (pos T O i) j (by omega) h2
  omega
theorem Ord.before {T O : List Int} {i j : Nat} (h1 : j < pos T O i) : rd T (O.getD j 0) ≤ rd T (i : Int) := posF_before T O _ O.length 0 j (by omega) h1
theorem ordF_ord (T : List Int) : ∀ m, Ord T (ordF T m) m
 | 0 => ⟨rfl, fun j h => absurd h (by omega), fun a b _ h => absurd h (by omega)⟩
 | m + 1 => by
  have ih := ordF_ord T m; have hp := pos_le T (ordF T m) m; have hl := ih.l
  unfold ordF
  refine ⟨by rw [insAt_len _ _ _ hp]; omega, fun j hj => ?_, fun a b hab hb => ?_⟩
  ·rw [insAt_get _ _ _ hp]
   split
   ·have := ih.r j (by omega); omega
   ·split
    ·omega
    ·have := ih.r (j - 1) (by omega); omega
  ·rw [insAt_get _ _ _ hp a, insAt_get _ _ _ hp b]
   by_cases a1 : a < pos T (ordF T m) m
   ·rw [if_pos a1]
    by_cases b1 : b < pos T (ordF T m) m
    ·rw [if_pos b1]; exact ih.s a b hab (by omega)
    ·rw [if_neg b1]
     by_cases b2 : b = pos T (ordF T m) m
     ·rw [if_pos b2]
      have h1 := Ord.before (T := T) (O := ordF T m) (i := m) a1; have h2 := (ih.r a (by omega)).2
      omega
     ·rw [if_neg b2]; exact ih.s a (b - 1) (by omega) (by omega)
   ·rw [if_neg a1, if_neg (show ¬ b < pos T (ordF T m) m by omega), if_neg (show ¬ b = pos T (ordF T m) m by omega)]
    by_cases a2 : a = pos T (ordF T m) m
    ·rw [if_pos a2]
     have h1 := ih.after (i := m) (j := b - 1) (by omega) (by omega); exact .inl h1
    ·rw [if_neg a2]; exact ih.s (a - 1) (b - 1) (by omega) (by omega)
theorem spec_order_in (T : List Int) (hT : T.length ≤ 100000) (i : Nat) (hi : i < T.length) (O : List Int) (hO : O.length = i) (hr : ∀ j, j < O.length → 0 ≤ O.getD j 0 ∧ O.getD j 0 < (T.length : Int)) : ∀ d x, O.length - x = d → x ≤ O.length → ∀ k, spec_l08Order.l1 (k + (posF T O (rd T (i : Int)) x d - x + 1)) T O (i : Int) (x : Int) = spec_l08Order.l0 k T (insAt O (posF T O (rd T (i : Int)) x d) (i : Int)) ((i + 1 : Nat) : Int) := by
 have hw : wrap64 ((i : Int) + 1) = ((i + 1 : Nat) : Int) := w64 (by omega)
 have stop : ∀ (x : Nat) (k : Nat), x ≤ O.length → (([] : List Int) ++ O.take x ++ [(i : Int)] ++ O.drop x) = insAt O x (i : Int) := fun x k _ => by
  unfold insAt; rw [List.nil_append, List.append_assoc]; rfl
 have l1 : ∀ x, x ≤ O.length → (([] : List Int).length + (O.take x).length < 17592186044416) ∧ (([] : List Int) ++ O.take x).length + [(i : Int)].length < 17592186044416 ∧ (([] : List Int) ++ O.take x ++ [(i : Int)]).length + (O.drop x).length < 17592186044416 := fun x hx => by
  simp only [List.length_append, List.length_take, List.length_drop, List.length_nil, List.length_cons]; omega
 intro d
 induction d with
 | zero =>
  intro x hd hx k; show spec_l08Order.l1 (k + (x - x + 1)) T O (i : Int) (x : Int) = spec_l08Order.l0 k T (insAt O x (i : Int)) ((i + 1 : Nat) : Int); rw [show k + (x - x + 1) = k + 1 by omega]; obtain ⟨c1, c2, c3⟩ := l1 x hx
  unfold spec_l08Order.l1
  simp only [Option.bind_some]; rw [if_neg (by omega), if_pos (by omega), if_pos (by omega), Int.toNat_natCast, if_pos c1, if_pos c2, if_pos c3, stop x k hx, hw]
 | succ d ih =>
  intro x hd hx k; have hrx := hr x (by omega)
  by_cases c : rd T (O.getD x 0) ≤ rd T (i : Int)
  ·have hp : posF T O (rd T (i : Int)) x (d + 1) = posF T O (rd T (i : Int)) (x + 1) d := by
    show (if rd T (O.getD x 0) ≤ rd T (i : Int) then _ else _) = _; rw [if_pos c]
   have hg := posF_range T O (rd T (i : Int)) d (x + 1); have e := ih (x + 1) (by omega) (by omega) k; rw [hp, show k + (posF T O (rd T (i : Int)) (x + 1) d - x + 1) = (k + (posF T O (rd T (i : Int)) (x + 1) d - (x + 1) + 1)) + 1 by omega]
   revert e
   generalize k + (posF T O (rd T (i : Int)) (x + 1) d - (x + 1) + 1) = q; intro e
   unfold spec_l08Order.l1
   rw [if_pos (by omega), if_pos (by omega), rd_nat, if_pos hrx.1, if_pos hrx.2, if_pos (by omega), if_pos (by omega), if_pos c, w64 (n := (x : Int) + 1) (by omega)]; exact e
  ·have hp : posF T O (rd T (i : Int)) x (d + 1) = x := by
    show (if rd T (O.getD x 0) ≤ rd T (i : Int) then _ else _) = _; rw [if_neg c]
   rw [hp, show k + (x - x + 1) = k + 1 by omega]; obtain ⟨c1, c2, c3⟩ := l1 x hx
   unfold spec_l08Order.l1
   simp only [Option.bind_some]; rw [if_pos (by omega), if_pos (by omega), rd_nat, if_pos hrx.1, if_pos hrx.2, if_pos (by omega), if_pos (by omega), if_neg c, Int.toNat_natCast, if_pos c1, if_pos (by omega), if_pos c2, if_pos c3, stop x k hx, hw]
theorem spec_order_go (T : List Int) (hT : T.length ≤ 100000) : ∀ d i, T.length - i = d → i ≤ T.length → ∀ k, d * (T.length + 3) + 1 ≤ k → spec_l08Order.l0 k T (ordF T i) (i : Int) = some (ordF T T.length) := by
 intro d
 induction d with
 | zero =>
  intro i hd hi k hk; obtain ⟨k, rfl⟩ : ∃ m, k = m + 1 := ⟨k - 1, by omega⟩
  unfold spec_l08Order.l0
  rw [if_neg (by omega), show i = T.length by omega]
 | succ d ih =>
  intro i hd hi k hk; have ho := ordF_ord T i; have hl := ho.l; have hp := pos_le T (ordF T i) i; have hm : (d + 1) * (T.length + 3) = d * (T.length + 3) + (T.length + 3) := Nat.succ_mul _ _; obtain ⟨k, rfl⟩ : ∃ m, k = m + (pos T (ordF T i) i - 0 + 1) + 1 := ⟨k - (pos T (ordF T i) i - 0 + 1) - 1, by omega⟩
  unfold spec_l08Order.l0
  rw [if_pos (by omega)]; refine (spec_order_in T hT i (by omega) (ordF T i) hl (fun j hj => by have := ho.r j (by omega); omega) (ordF T i).length 0 (by omega) (by omega) k).trans ?_; exact ih (i + 1) (by omega) (by omega) k (by omega)
theorem spec_order (T : List Int) (hT : T.length ≤ 100000) (k : Nat) (hk : T.length * (T.length + 3) + 1 ≤ k) : spec_l08Order.f k T = some (ordF T T.length) := spec_order_go T hT T.length 0 (by omega) (by omega) k hk
theorem cpyup_put (O : List Int) (p : Nat) (hp : p ≤ O.length) (v : Int) : (cpyup (O ++ [0]) p).set p v = insAt O p v := by
 unfold cpyup insAt
 have h1 : (O ++ [0]).take (p + 1) = O.take p ++ ((O ++ [0]).drop p).take 1 := by
  rw [List.take_add, List.take_append_of_le_length hp]
 have h2 : ((O ++ [(0 : Int)]).drop p).take ((O ++ [(0 : Int)]).length - (p + 1)) = O.drop p := by
  rw [List.drop_append_of_le_length hp, List.length_append, List.length_singleton, List.take_append_of_le_length (by rw [List.length_drop]; omega)]; exact List.take_of_length_le (by rw [List.length_drop]; omega)
 have h3 : ∃ y, ((O ++ [(0 : Int)]).drop p).take 1 = [y] := by
  cases h : (O ++ [(0 : Int)]).drop p with
  | nil =>
   have := congrArg List.length h; rw [List.length_drop, List.length_append, List.length_singleton] at this
   simp at this; omega
  | cons y r => exact ⟨y, rfl⟩
 obtain ⟨y, hy⟩ := h3; rw [h1, h2, hy, List.append_assoc, List.set_append_right _ _ (by rw [List.length_take]; omega)]; rw [show p - (O.take p).length = 0 by rw [List.length_take]; omega]
 rfl
theorem cpyup_len (xs : List Int) (p : Nat) (h : p < xs.length) : (cpyup xs p).length = xs.length := by
 unfold cpyup
 rw [List.length_append, List.length_take, List.length_take, List.length_drop]; omega
theorem impl_order_in (T : List Int) (hT : T.length ≤ 100000) (i : Nat) (hi : i < T.length) (O : List Int) (ho : Ord T O i) : ∀ d x, x - pos T O i = d → pos T O i ≤ x → x ≤ O.length → ∀ k, impl_FireOrder.l1 (k + (d + 1)) T O (i : Int) (x : Int) (T.length : Int) (i : Int) = impl_FireOrder.l0 k T (insAt O (pos T O i) (i : Int)) (T.length : Int) ((i + 1 : Nat) : Int) := by
 have hw : ∀ _ : Unit, wrap64 ((i : Int) + 1) = ((i + 1 : Nat) : Int) := fun _ => w64 (by omega); have hO := ho.l
 have hlim : O.length < 17592186044416 := by omega
 have hl1 : (O ++ [(0 : Int)]).length = O.length + 1 := by rw [List.length_append, List.length_singleton]
 -- the place is found
 have stop : ∀ x : Nat, x = pos T O i → x ≤ O.length → ∀ q, (if O.length < 17592186044416 then ((some (O ++ [0] : List Int)).bind fun y270 => (if 0 ≤ (wrap64 ((x : Int) + 1)) then (if (wrap64 ((x : Int) + 1)) ≤ (y270.length : Int) then (if 0 ≤ (x : Int) then (if (x : Int) ≤ (y270.length : Int) then ((some (cpyup y270 ((x : Int) : Int).toNat : List Int)).bind fun y281 => (if (x : Int) < (y281.length : Int) then (impl_FireOrder.l0 q T (y281.set ((x : Int) : Int).toNat (i : Int)) (T.length : Int) (wrap64 ((i : Int) + 1))) else (none))) else (none)) else (none)) else (none)) else (none))) else (none)) = impl_FireOrder.l0 q T (insAt O (pos T O i) (i : Int)) (T.length : Int) ((i + 1 : Nat) : Int) := by
  intro x hx hxl q; have w1 : ∀ _ : Unit, wrap64 ((x : Int) + 1) = ((x + 1 : Nat) : Int) := fun _ => w64 (by omega); rw [if_pos hlim, Option.bind_some]; rw [w1 (), if_pos (by omega), if_pos (by omega), if_pos (by omega), if_pos (by omega), Option.bind_some]; rw [Int.toNat_natCast, cpyup_len _ _ (by omega), if_pos (by omega), cpyup_put O x hxl, hw (), hx]
 intro d
 induction d with
 | zero =>
  intro x hd h1 h2 k; show impl_FireOrder.l1 (k + 1) T O (i : Int) (x : Int) (T.length : Int) (i : Int) = _
  have hx : x = pos T O i := by omega
  unfold impl_FireOrder.l1
  by_cases c : (x : Int) > 0
  ·have w1 : ∀ _ : Unit, wrap64 ((x : Int) - 1) = ((x - 1 : Nat) : Int) := fun _ => by rw [w64 (by omega)]; omega
   have hr := ho.r (x - 1) (by omega); have hb := Ord.before (T := T) (O := O) (i := i) (j := x - 1) (by omega); rw [if_pos c, w1 (), if_pos (by omega), if_pos (by omega), rd_nat, if_pos hr.1, if_pos (by omega), if_pos (by omega), if_pos (by omega), if_neg (by omega)]; exact stop x hx h2 k
  ·rw [if_neg c]
   exact stop x hx h2 k
 | succ d ih =>
  intro x hd h1 h2 k
  have w1 : ∀ _ : Unit, wrap64 ((x : Int) - 1) = ((x - 1 : Nat) : Int) := fun _ => by rw [w64 (by omega)]; omega
  have hr := ho.r (x - 1) (by omega); have hb := ho.after (i := i) (j := x - 1) (by omega) (by omega); have e := ih (x - 1) (by omega) (by omega) (by omega) k; rw [show k + (d + 1 + 1) = (k + (d + 1)) + 1 by omega]
  revert e
  generalize k + (d + 1) = q; intro e
  unfold impl_FireOrder.l1
  rw [if_pos (by omega), w1 (), if_pos (by omega), if_pos (by omega), rd_nat, if_pos hr.1, if_pos (by omega), if_pos (by omega), if_pos (by omega), if_pos (by omega)]; exact e
theorem impl_order_go (T : List Int) (hT : T.length ≤ 100000) : ∀ d i, T.length - i = d → i ≤ T.length → ∀ k, d * (T.length + 3) + 1 ≤ k → impl_FireOrder.l0 k T (ordF T i) (T.length : Int) (i : Int) = some (ordF T T.length, 0) := by
 intro d
 induction d with
 | zero =>
  intro i hd hi k hk; obtain ⟨k, rfl⟩ : ∃ m, k = m + 1 := ⟨k - 1, by omega⟩
  unfold impl_FireOrder.l0
  rw [if_neg (by omega), show i = T.length by omega]
 | succ d ih =>
  intro i hd hi k hk; have ho := ordF_ord T i; have hl := ho.l; have hp := pos_le T (ordF T i) i; have hm : (d + 1) * (T.length + 3) = d * (T.length + 3) + (T.length + 3) := Nat.succ_mul _ _; obtain ⟨k, rfl⟩ : ∃ m, k = m + ((ordF T i).length - pos T (ordF T i) i + 1) + 1 := ⟨k - ((ordF T i).length - pos T (ordF T i) i + 1) - 1, by omega⟩
  unfold impl_FireOrder.l0
  rw [if_pos (by omega)]; refine (impl_order_in T hT i (by omega) (ordF T i) ho _ (ordF T i).length rfl hp (Nat.le_refl _) k).trans ?_; exact ih (i + 1) (by omega) (by omega) k (by omega)
def orderR (A : List S104) (B : List S61) (C : List S58) : List Int × Int := if isShow A B C = true then (ordF (fts A B C) C.length, 0) else ([], 1)
theorem order_ok (n0 : Nat) {A : List S104} {B : List S61} {C : List S58} (hF : Frame n0 A B C) (k : Nat) (hk : 36893488147419103528 ≤ k) : spec_FireOrder.f k A B C = some (orderR A B C) ∧ impl_FireOrder.f k A B C = some (orderR A B C) := by
 unfold spec_FireOrder.f impl_FireOrder.f orderR
 rw [ss_ok hF k (by omega), si_ok hF k (by omega)]; simp only [Option.bind_some]
 by_cases h : isShow A B C = true
 ·have hC := (isShow_true h).2.2.1
  have hl := fts_len A B C
  have hb : (fts A B C).length * ((fts A B C).length + 3) + 1 ≤ 1000 := by
   rw [hl]; have : C.length * (C.length + 3) ≤ 20 * 23 := Nat.mul_le_mul hC (by omega)
   omega
  rw [if_pos h, if_pos h, if_pos h, (times_ok h k (by omega)).1, (times_ok h k (by omega)).2]; simp only [Option.bind_some]; rw [spec_order _ (by omega) k (by omega), Option.bind_some, ← hl]; exact ⟨rfl, impl_order_go _ (by omega) (fts A B C).length 0 (by omega) (by omega) k (by omega)⟩
 ·rw [if_neg h, if_neg h, if_neg h]
  exact ⟨rfl, rfl⟩
theorem orderR_len {A : List S104} {B : List S61} {C : List S58} (hC : C.length ≤ 1000000) : (orderR A B C).1.length ≤ 3000000 := by
 unfold orderR
 split
 ·show (ordF (fts A B C) C.length).length ≤ _
  rw [(ordF_ord _ _).l]; omega
 ·show 0 ≤ _
  omega
theorem main_FnExactFireOrder (A : List S104) (B : List S61) (C : List S58) (hA : A.length ≤ 1000000) (hB : B.length ≤ 1000000) (hC : C.length ≤ 1000000) (hS : ∀ x ∈ B, x.f0.size ≤ 1000000) (_ : ∀ x ∈ C, x.f2.size ≤ 1000000) : ∃ q1 q2, q1.length ≤ 3000000 ∧ Evt (fun k => spec_FireOrder.f k A B C = some (q1, q2)) ∧ Evt (fun k => impl_FireOrder.f k A B C = some (q1, q2)) := by
 have hF : Frame 1000000 A B C := ⟨by omega, by omega, by omega, by decide, hS⟩; exact ⟨(orderR A B C).1, (orderR A B C).2, orderR_len hC, ⟨36893488147419103528, fun k hk => (order_ok 1000000 hF k hk).1⟩, ⟨36893488147419103528, fun k hk => (order_ok 1000000 hF k hk).2⟩⟩
theorem pure_FnExactFireOrder : Pure_FnExactFireOrder := by
 intro l0_0 l0_1 l0_2 n0_0 p0_0 n0_1 p0_1 n0_2 p0_2; obtain ⟨s1, zs1, z1⟩ := sz_Show l0_0 l0_1 l0_2 n0_0 n0_1 (fun x hx => (p0_1 x hx).1) n0_2 (fun x hx => (p0_2 x hx).2.2.1)
 rcases z1 with z1 | ⟨z1, z1b, u0, ⟨u1, v1⟩, u2, v2⟩
 ·obtain ⟨k, hk⟩ := zs1.ex
  exact ⟨k, s1, hk, Or.inl z1⟩
 obtain ⟨L0_0, t0_0, ne0_0, tk0_0, ln0_0, le0_0, rm0_0, jn0_0, fa0_0, ta0_0⟩ := to_BarS l0_0 (by omega); have eq0_0 := eq_BarS L0_0 (by omega); obtain ⟨L0_1, t0_1, ne0_1, tk0_1, ln0_1, le0_1, rm0_1, jn0_1, fa0_1, ta0_1⟩ := to_ArticleS l0_1 (by omega); have eq0_1 := eq_ArticleS L0_1 (by omega); obtain ⟨L0_2, t0_2, ne0_2, tk0_2, ln0_2, le0_2, rm0_2, jn0_2, fa0_2, ta0_2⟩ := to_CueS l0_2 (by omega); have eq0_2 := eq_CueS L0_2 (by omega); have fu0 := full_Show fa0_0 fa0_1 fa0_2; have to0 := bare_Show ta0_0 ta0_1 ta0_2; obtain ⟨q1, q2, ql, sp, im⟩ := main_FnExactFireOrder (l0_0.map conv_BarS) (l0_1.map conv_ArticleS) (l0_2.map conv_CueS) (by rw [ln0_0]; omega) (by rw [ln0_1]; omega) (by rw [ln0_2]; omega) (fun x hx => by obtain ⟨y, hy, rfl⟩ := List.mem_map.1 hx; exact v1 y hy) (fun x hx => by obtain ⟨y, hy, rfl⟩ := List.mem_map.1 hx; exact v2 y hy); have er := eq_Int64S q1 (by omega); have mk1 := mark_Show (l0_0.map conv_BarS) (l0_1.map conv_ArticleS) (l0_2.map conv_CueS) (101) (by omega) (by omega) (by omega) (by omega) (by omega); have mg := mark_Int64S q1 101 (by omega) (by omega) (by omega); have hd := held_Int64S q1.length 101 (by omega) (by omega) (by omega); obtain ⟨k, hzs1, heq0_0, heq0_1, heq0_2, hfu0, hto0, hsp, him, her, hmk1, hmg, hhd⟩ := (zs1.and (eq0_0.and (eq0_1.and (eq0_2.and (fu0.and (to0.and (sp.and (im.and (er.and (mk1.and (mg.and hd))))))))))).ex; exact ⟨k, ⟨s1, hzs1, Or.inr ⟨z1, ⟨L0_0, _, t0_0, L0_1, _, t0_1, L0_2, _, t0_2, q1, q2, _, _, _, _, _, _, { ne0_0 := ne0_0, tk0_0 := tk0_0, ln0_0 := ln0_0, rm0_0 := rm0_0, jn0_0 := jn0_0, eq0_0 := heq0_0, ne0_1 := ne0_1, tk0_1 := tk0_1, ln0_1 := ln0_1, rm0_1 := rm0_1, jn0_1 := jn0_1, eq0_1 := heq0_1, ne0_2 := ne0_2, tk0_2 := tk0_2, ln0_2 := ln0_2, rm0_2 := rm0_2, jn0_2 := jn0_2, eq0_2 := heq0_2, fu0 := hfu0, to0 := hto0, sp := hsp, im := him, er := her, mk1 := hmk1, mk10 := (by omega), mg := hmg, mg0 := (by omega), hd := hhd, hl := seq_Int64S_len _ _ }⟩⟩⟩⟩
end Go.Proofs.Ytmnnbmdfepogiaa.F
namespace Go.Proofs.Ytmnnbmdfepogiaa.fnExactFireOrder
open Go.ChangeShapes Go.WideShapes Go.ChangeAt Go.RowKit Go.Proofs.Ytmnnbmdfepogiaa.F Go.Proofs.YtmnnbmdfepogiaaW.PrintWords
open Go.ChangeMaps (open_string shut_string)
set_option linter.unusedVariables false
theorem own : ownKnob Try.prog.godebug = none := by kernel_rfl
theorem laidOut : laidOutB Try.prog = true := by kernel_rfl
set_option maxRecDepth 100000 in
theorem lifted (os : Os) (started : os.Started) (H : Type) (enc : TypeId × Value → H) :
  ReturnsInHanded {} Try.checked os 3 .any (Rows.fnExactFireOrderSpec.pre6 enc Try.prog Try.f3 Rows.fnExactFireOrderRow.domain false) (Rows.fnExactFireOrderSpec.post enc Try.prog Try.f3 false true false false) := by
 refine returnsInHanded_of_change_sized (C := Try.checked) own started (by kernel_rfl) Try.func3
  (ChangeSpec.witness6 (enc := enc) (C := Try.checked) false ⟨#[], #[.agg #[.slice none 0 0, .slice none 0 0, .slice none 0 0]], []⟩ 8 (by kernel_rfl) (by kernel_rfl) (by kernel_rfl) (by kernel_rfl)) ?_
 intro W base args ds gs before hval0 hW hcnd hsz0 _
 have hval : ∀ (j : Nat) t v, Try.f3.params[j]? = some t → args[j]? = some v → Value.okWide Try.prog W .any base t v := hval0
 have hW' := hW
 obtain ⟨p, q, hA0, hV, rfl, hfz, hnd⟩ := hW
 have hA : DataW.TrodAll enc Try.prog W 0 (fun _ => true) true Try.f3.params.toList args.toList ds p := hA0
 rw [Try.params3] at hA hval
 obtain ⟨v0, vs0, d0, ds0, p0, q0, hargs, rfl, rfl, h0, r0⟩ := trodAll_cons hA
 obtain ⟨rfl, rfl, rfl⟩ := trodAll_nil r0
 obtain rfl : args = #[v0] := by cases args; simp_all
 obtain ⟨rfl, rfl⟩ := trodVars_none hV
 have k0 := h0
 have lt0 : ∀ x ∈ p0, x.block < W.heap.size := by obtain ⟨m, hm⟩ := k0; exact DataW.trod_lt m _ _ _ hm
 obtain ⟨cs0, rfl, _⟩ := okWide_struct Try.underlying26 (hval 0 26 v0 rfl rfl)
 obtain ⟨A0_0, c0_0, l0_0, A0_1, c0_1, l0_1, A0_2, c0_2, l0_2, rfl, ⟨lc0_0, lm0_0, hC0_0, hP0_0⟩, ⟨lc0_1, lm0_1, hC0_1, hP0_1⟩, ⟨lc0_2, lm0_2, hC0_2, hP0_2⟩⟩ : ∃ (A0_0 : Option Addr) (c0_0 : Nat) (l0_0 : List S106) (A0_1 : Option Addr) (c0_1 : Nat) (l0_1 : List S99) (A0_2 : Option Addr) (c0_2 : Nat) (l0_2 : List S101), cs0 = #[.slice A0_0 l0_0.length c0_0, .slice A0_1 l0_1.length c0_1, .slice A0_2 l0_2.length c0_2] ∧ (l0_0.length ≤ c0_0 ∧ c0_0 ≤ maxLen ∧ Kd.C k106 W A0_0 l0_0.length l0_0 ∧ ∀ x ∈ l0_0, Pr106 x) ∧ (l0_1.length ≤ c0_1 ∧ c0_1 ≤ maxLen ∧ Kd.C k99 W A0_1 l0_1.length l0_1 ∧ ∀ x ∈ l0_1, Pr99 x) ∧ (l0_2.length ≤ c0_2 ∧ c0_2 ≤ maxLen ∧ Kd.C k101 W A0_2 l0_2.length l0_2 ∧ ∀ x ∈ l0_2, Pr101 x) := by
  obtain ⟨fuel, hf⟩ := h0
  obtain ⟨z0_0, y0_0, x0_0, z0_1, y0_1, x0_1, z0_2, y0_2, x0_2, hcs, hp⟩ := open_V26 hf
  simp only [Value.cells] at hcs
  exact ⟨z0_0, y0_0, x0_0, z0_1, y0_1, x0_1, z0_2, y0_2, x0_2, by rw [← hcs], hp⟩
 obtain ⟨k, hk⟩ := pure_FnExactFireOrder l0_0 l0_1 l0_2 (by omega) hP0_0 (by omega) hP0_1 (by omega) hP0_2
 refine (law_FnExactFireOrder k A0_0 c0_0 l0_0 A0_1 c0_1 l0_1 A0_2 c0_2 l0_2 W hC0_0 lc0_0 hC0_1 lc0_1 hC0_2 lc0_2 hk).mono fun e W' ⟨he, bel⟩ => ?_
 subst he
 exact ⟨_, rfl, _, _, _, [], _, [], hW', trodAll_mk1 (shut_bool Try.underlying4 _), (trodAll_cons_mk (Below.trod laidOut (by kernel_rfl) (of_decide_eq_true (by kernel_rfl)) k0 bel lt0) trodAll_mk0), rfl, bel.frame _, fun h => by cases h⟩
theorem over : Rows.fnExactFireOrderRow.holds Try.pinned (OpenSpec.ofChange Rows.fnExactFireOrderSpec) :=
 OpenClaim.holds_of_wide 3 Try.f3 rfl rfl rfl rfl rfl rfl rfl ⟨rfl, rfl, rfl, rfl, rfl⟩ rfl rfl rfl rfl rfl (by kernel_rfl) Try.func3 GcFnExactFireOrder.closed
  (of_decide_eq_true (by kernel_rfl)) (by unfold Func.isWrapper; first | (rw [if_pos (by decide +kernel)]; kernel_rfl) | (rw [if_neg (by decide +kernel)]; exact ⟨rfl, rfl⟩))
  (fun os started H enc _ => lifted os started H enc)
theorem proved : Rows.FnExactFireOrderSaid := over
end Go.Proofs.Ytmnnbmdfepogiaa.fnExactFireOrder
namespace Go.Proofs.Ytmnnbmdfepogiaa
theorem fnExactFireOrder_holds : Rows.FnExactFireOrderSaid := fnExactFireOrder.proved
#print axioms fnExactFireOrder_holds
end Go.Proofs.Ytmnnbmdfepogiaa
